/- Part. -/
import Derived.Test.YtoldfccfpameeaaGreatDoorX00
import Derived.Laws.Sem
set_option linter.all false
namespace Go.AM
variable {P:Program}
def Ow{op:BinOp}{x y:AV}{K K':AV->Prop}(h:∀ v,K v->K' v): kJ op x y K->kJ op x y K':=by
 unfold kJ;split<;>intro hh<;>first|exact h _ hh|exact⟨hh.1,h _ hh.2⟩|exact⟨hh.1,hh.2.1,h _ hh.2.2⟩|exact hh.elim
def afD{op:BinOp}{x y:AV}{K:AV->Prop}: kJ op x y K-> ∃ v,kJ op x y (fun v'=>v'=v)/\K v:=by
 unfold kJ;split<;>intro hh<;>first|exact⟨_,rfl,hh⟩|exact⟨_,⟨hh.1,rfl⟩,hh.2⟩|exact⟨_,⟨hh.1,hh.2.1,rfl⟩,hh.2.2⟩|exact hh.elim
def RA{op:UnOp}{x:AV}{K K':AV->Prop}(h:∀ v,K v->K' v): Ff op x K->Ff op x K':=by
 unfold Ff;split<;>intro hh<;>simp_all
def ahi{op:UnOp}{x:AV}{K:AV->Prop}: Ff op x K-> ∃ v,Ff op x (fun v'=>v'=v)/\K v:=by
 unfold Ff;split<;>intro hh<;>simp_all
def dB{x:Option AV}{d y:Nat}{K K':Nat->Prop}(h:∀ v,K v->K' v): bound x d y K->bound x d y K':=by
 unfold bound;split<;>intro hh<;>simp_all
def lN{x:Option AV}{d y:Nat}{K:Nat->Prop}: bound x d y K-> ∃ v,bound x d y (fun v'=>v'=v)/\K v:=by
 unfold bound;split<;>intro hh<;>simp_all
def Im{el:El}{x:AV}{off:Nat}{ag:Bool}{n:Nat}{K K':AV->Prop}(h:∀ v,K v->K' v): partOf el x off ag n K->partOf el x off ag n K':=by
 unfold partOf;split
 ·exact h _
 rintro⟨h1,h2⟩;refine⟨h1,?_⟩;split at h2
 ·exact⟨h _ h2.1,h2.2⟩
 exact h2.elim
def Ox{el:El}{x:AV}{off:Nat}{ag:Bool}{n:Nat}{K:AV->Prop}: partOf el x off ag n K-> ∃ v,partOf el x off ag n (fun v'=>v'=v)/\K v:=by
 unfold partOf;split
 ·intro h;exact⟨_,rfl,h⟩
 rintro⟨h1,h2⟩;split at h2
 ·exact⟨_,⟨h1,rfl,h2.2⟩,h2.1⟩
 exact h2.elim
def j8{σ : ai}{l:Nat}{o:aY}(τ : ai)(h : σ[l]? = some o): (σ++ τ)[l]? = some o:=by
 rw[aI (aE.1 h).1];exact h
def nh{σ : ai}{ag:Bool}{n:Nat}{p:AV}{K K':AV->Prop}(h:∀ v,K v->K' v): ij σ ag n p K->ij σ ag n p K':=by
 unfold ij;intro hh;split at hh
 ·split at hh
  ·exact⟨hh.1,hh.2.1,h _ hh.2.2⟩
  exact hh.elim
 ·exact Im h hh
 ·split at hh
  ·exact⟨hh.1,hh.2.1,hh.2.2.1,Im h hh.2.2.2⟩
  exact hh.elim
 exact hh.elim
def vN{σ : ai}{ag:Bool}{n:Nat}{p:AV}{K:AV->Prop}(hh:ij σ ag n p K): ∃ v,(∀ τ,ij (σ++ τ) ag n p (fun v'=>v'=v))/\K v:=by
 unfold ij at hh;split at hh
 ·split at hh
  ·rename_i h;exact⟨_,fun τ=>by simp only[ij,j8 τ h];exact⟨hh.1,hh.2.1,trivial⟩,hh.2.2⟩
  exact hh.elim
 ·obtain⟨v,h1,h2⟩:=Ox hh;exact⟨v,fun τ=>h1,h2⟩
 ·split at hh
  ·rename_i h;obtain⟨v,h1,h2⟩:=Ox hh.2.2.2;exact⟨v,fun τ=>by simp only[ij,j8 τ h];exact⟨hh.1,hh.2.1,hh.2.2.1,h1⟩,h2⟩
  exact hh.elim
 exact hh.elim
def wE{σ : ai}{n:Nat}{p v:AV}{K K':ai->Prop}(h:∀ v,K v->K' v): oe σ n p v K->oe σ n p v K':=by
 unfold oe;rintro⟨h1,h2,hh⟩;refine⟨h1,h2,?_⟩;split at hh
 ·split at hh
  ·exact⟨hh.1,h _ hh.2⟩
  exact hh.elim
 ·split at hh
  ·exact⟨hh.1,hh.2.1,hh.2.2.1,hh.2.2.2.1,hh.2.2.2.2.1,h _ hh.2.2.2.2.2⟩
  exact hh.elim
 exact hh.elim
def lp{σ : ai}{el:El}{x:AV}{K K':List AV->Prop}(h:∀ v,K v->K' v): gN σ el x K->gN σ el x K':=by
 unfold gN;intro hh;split at hh
 ·exact h _ hh
 ·exact⟨hh.1,h _ hh.2⟩
 ·refine⟨hh.1,?_⟩;have hh:=hh.2;split at hh
  ·exact⟨hh.1,hh.2.1,h _ hh.2.2⟩
  exact hh.elim
 ·exact⟨hh.1,h _ hh.2⟩
 ·exact⟨hh.1,hh.2.1,nh (fun _=>h _) hh.2.2⟩
 exact hh.elim
def Jn{σ : ai}{el:El}{x:AV}{K:List AV->Prop}(hh:gN σ el x K): ∃ v,(∀ τ,gN (σ++ τ) el x (fun v'=>v'=v))/\K v:=by
 unfold gN at hh;split at hh
 ·exact⟨_,fun τ=>rfl,hh⟩
 ·exact⟨_,fun τ=>⟨hh.1,rfl⟩,hh.2⟩
 ·obtain⟨h0,hh⟩:=hh;split at hh
  ·rename_i h;exact⟨_,fun τ=>by simp only[gN,j8 τ h];exact⟨h0,hh.1,hh.2.1,trivial⟩,hh.2.2⟩
  exact hh.elim
 ·exact⟨_,fun τ=>⟨hh.1,rfl⟩,hh.2⟩
 ·obtain⟨h0,h1,hh⟩:=hh;obtain⟨v,h2,h3⟩:=vN hh;exact⟨_,fun τ=>⟨h0,h1,nh (fun v' e=>aW AV.cells e) (h2 τ)⟩,h3⟩
 exact hh.elim
def Oy{σ : ai}{T:Option TypeId}{el:El}{x y:AV}{K K':AV->ai->Prop}(h:∀ v s,K v s->K' v s): oY σ T el x y K->oY σ T el x y K':=by
 unfold oY;refine lp fun ys hh=>⟨hh.1,?_⟩;have hh:=hh.2;split at hh
 ·split at hh
  ·simp_all
  rename_i h0;simp only[h0,if_false];exact⟨hh.1,h _ _ hh.2⟩
 ·refine⟨hh.1,?_⟩;have hh:=hh.2;split at hh
  ·rename_i h0;simp only[h0,if_true];exact h _ _ hh
  rename_i h0;simp only[h0,if_false];exact⟨hh.1,h _ _ hh.2⟩
 ·refine⟨hh.1,?_⟩;have hh:=hh.2;split at hh
  ·exact⟨hh.1,hh.2.1,hh.2.2.1,hh.2.2.2.1,hh.2.2.2.2.1,hh.2.2.2.2.2.1,h _ _ hh.2.2.2.2.2.2⟩
  exact hh.elim
 exact hh.elim
def Oz{op:Bool}{x y:AV}{K K':AV->Prop}(h:∀ v,K v->K' v): Fg op x y K->Fg op x y K':=by
 unfold Fg;split<;>intro hh<;>simp_all
def afE{op:Bool}{x y:AV}{K:AV->Prop}: Fg op x y K-> ∃ v,Fg op x y (fun v'=>v'=v)/\K v:=by
 unfold Fg;split<;>intro hh<;>simp_all
def uF{op:Bool}{K K':AV->Prop}(h:∀ v,K v->K' v): ∀(ys:List AV) (x:AV),tH op x ys K->tH op x ys K'
 | [],x=>h x
 | y::ys,x=>Oz fun z=>uF h ys z
def Jo{op:Bool}{K:AV->Prop}: ∀(ys:List AV) (x:AV),tH op x ys K-> ∃ v,tH op x ys (fun v'=>v'=v)/\K v
 | [],x=>fun h=>⟨x,rfl,h⟩
 | y :: ys, x => fun h => by
   obtain⟨z,h1,h2⟩:=afE h;obtain⟨v,h3,h4⟩:=Jo ys z h2;exact⟨v,Oz (fun z' e=>by subst e;exact h3) h1,h4⟩
def Bb{e:Env}{K K':List AV->Prop}(h:∀ v,K v->K' v): ∀(ps:List (Nat × Nat × AX)) (z:List AV),nD z e ps K->nD z e ps K'
 | [],z=>h z
 |(off,n,x)::r,z=>fun hh=>⟨hh.1,hh.2.1,hh.2.2.1,Bb h r _ hh.2.2.2⟩
def OA{e:Env}{K:List AV->Prop}: ∀(ps:List (Nat × Nat × AX)) (z:List AV),nD z e ps K-> ∃ v,nD z e ps (fun v'=>v'=v)/\K v
 | [],z=>fun h=>⟨z,rfl,h⟩
 | (off, n, x) :: r, z => fun hh => by
   obtain⟨v,h1,h2⟩:=OA r _ hh.2.2.2;exact⟨v,⟨hh.1,hh.2.1,hh.2.2.1,h1⟩,h2⟩
def uG{el:El}{e:Env}{K K':List AV->Prop}(h:∀ v,K v->K' v): ∀(ps:List (Nat × AX)) (z:List AV),mI el z e ps K->mI el z e ps K'
 | [],z=>h z
 |(i,x)::r,z=>fun hh=>⟨hh.1,hh.2.1,uG h r _ hh.2.2⟩
def C9{el:El}{e:Env}{K:List AV->Prop}: ∀(ps:List (Nat × AX)) (z:List AV),mI el z e ps K-> ∃ v,mI el z e ps (fun v'=>v'=v)/\K v
 | [],z=>fun h=>⟨z,rfl,h⟩
 | (i, x) :: r, z => fun hh => by
   obtain⟨v,h1,h2⟩:=C9 r _ hh.2.2;exact⟨v,⟨hh.1,hh.2.1,h1⟩,h2⟩
def AX.uses: AX->List Nat
 | .t n=>[n]
 | .c _=>[]
def AX.Xz: Option AX->List Nat
 | some x=>x.uses
 | none=>[]
def AX.qO(l:List AX): List Nat:=l.flatMap AX.uses
def bx.uses: bx->List Nat
 | .mv x | .box x | .y4 _ x | .load _ _ x | .tG x | .un _ x | .jX _ x | .VQ x | .ZV x | .yX x | .wC _ x | .rT _ x | .field _ _ _ x | .ext x _ | .len _ x | .panic x | .Jj x | .Jk x | .Ep _ x | .KX x | .KY _ x | .Hu _ x=>x.uses
 | .pick c a b=>c.uses++a.uses++b.uses
 | .alloc _ _ | .lE _ | .hold=>[]
 | .ex _ xs=>AX.qO xs
 | .lC k _ _=>[k]
 | .rU k _ _ x y=>k::(x.uses++y.uses)
 | .rV k _ _ x y=>k::(x.uses++y.uses)
 | .build _ ps=>AX.qO (ps.map (·.2.2))
 | .mj _ _ _ _ ps=>AX.qO (ps.map (·.2))
 | .store _ x v=>x.uses++v.uses
 | .bin _ x y | .nw _ _ _ x y | .fA _ _ x y | .oW x y | .yZ _ _ x y | .app _ _ x y | .y3 _ x y | .Il _ x y | .oX _ _ x y | .n_ _ _ x y=>x.uses++y.uses
 | .tU _ f c=>AX.qO f++AX.qO c
 | .yY x lo hi | .pC _ x lo hi=>x.uses++AX.Xz lo++AX.Xz hi
 | .call _ f args | .tV f args=>f.uses++AX.qO args
 | .min x xs | .max x xs=>x.uses++AX.qO xs
def AX.fV{e e':Env}{x:AX}(h:∀ t ∈ x.uses,e t=e' t): x.ev e=x.ev e':=by
 cases x with
 | t n=>exact h n (by simp[AX.uses])
 | c a=>rfl
def AX.Ab{e e':Env}{x:Option AX}(h:∀ t ∈ AX.Xz x,e t=e' t): x.map (AX.ev e)=x.map (AX.ev e'):=by
 cases x with
 | none=>rfl
 | some x=>exact aW some (AX.fV h)
def AX.pD{e e':Env}{l:List AX}(h:∀ t ∈ AX.qO l,e t=e' t): l.map (AX.ev e)=l.map (AX.ev e'):=by
 refine List.map_congr_left fun x hx=>AX.fV fun t ht=>h t ?_;exact List.mem_flatMap.2 ⟨x,hx,ht⟩
def Fh{e e':Env}{K:List AV->Prop}: ∀(ps:List (Nat × Nat × AX)) (z:List AV),(∀ t ∈ AX.qO (ps.map (·.2.2)),e t=e' t)->nD z e ps K=nD z e' ps K
 | [],z,_=>rfl
 | (off, n, x) :: r, z, h => by
   have h1:x.ev e=x.ev e':=AX.fV fun t ht=>h t (by simp[AX.qO,ht]);simp only[nD,h1];rw[Fh r _ fun t ht=>h t (by simp only[bB,AX.qO,jx,List.mem_append];exact .inr ht)]
def Er{el:El}{e e':Env}{K:List AV->Prop}: ∀(ps:List (Nat × AX)) (z:List AV),(∀ t ∈ AX.qO (ps.map (·.2)),e t=e' t)->mI el z e ps K=mI el z e' ps K
 | [],z,_=>rfl
 | (i, x) :: r, z, h => by
   have h1:x.ev e=x.ev e':=AX.fV fun t ht=>h t (by simp[AX.qO,ht]);simp only[mI,h1];rw[Er r _ fun t ht=>h t (by simp only[bB,AX.qO,jx,List.mem_append];exact .inr ht)]
def uh{o:bx}{e e':Env}{σ : ai}{K Kp:AV->ai->Prop}(h:∀ t ∈ o.uses,e t=e' t): o.run P e σ K Kp=o.run P e' σ K Kp:=by
 cases o<;>simp only[bx.uses,List.mem_append]at h
 case build z ps=>exact Fh ps _ h
 case mj mt el z n ps=>exact Er ps _ h
 case ex o xs=>simp only[bx.run,AX.pD h]
 case alloc=>rfl
 case lE=>rfl
 case hold=>rfl
 case lC k T cs=>simp only[bx.run,h k aQ]
 case rU k T el x y=>simp only[bx.run,h k aQ,AX.fV (x:=x) (fun t ht=>h t (by simp[ht])),AX.fV (x:=y) (fun t ht=>h t (by simp[ht]))]
 case rV k el z x y=>simp only[bx.run,h k aQ,AX.fV (x:=x) (fun t ht=>h t (by simp[ht])),AX.fV (x:=y) (fun t ht=>h t (by simp[ht]))]
 case pick c a b=>simp only[bx.run,AX.fV (fun t ht=>h t (.inl (.inl ht))),AX.fV (fun t ht=>h t (.inl (.inr ht))),AX.fV (fun t ht=>h t (.inr ht))]
 case tU f a b=>simp only[bx.run,AX.pD (fun t ht=>h t (.inl ht)),AX.pD (fun t ht=>h t (.inr ht))]
 case yY x lo hi=>simp only[bx.run,AX.fV (fun t ht=>h t (.inl (.inl ht))),AX.Ab (fun t ht=>h t (.inl (.inr ht))),AX.Ab (fun t ht=>h t (.inr ht))]
 case pC el x lo hi=>simp only[bx.run,AX.fV (fun t ht=>h t (.inl (.inl ht))),AX.Ab (fun t ht=>h t (.inl (.inr ht))),AX.Ab (fun t ht=>h t (.inr ht))]
 case call q f args=>simp only[bx.run,AX.fV (fun t ht=>h t (.inl ht)),AX.pD (fun t ht=>h t (.inr ht))]
 case tV f args=>simp only[bx.run,AX.fV (fun t ht=>h t (.inl ht)),AX.pD (fun t ht=>h t (.inr ht))]
 case min x xs=>simp only[bx.run,AX.fV (fun t ht=>h t (.inl ht)),AX.pD (fun t ht=>h t (.inr ht))]
 case max x xs=>simp only[bx.run,AX.fV (fun t ht=>h t (.inl ht)),AX.pD (fun t ht=>h t (.inr ht))]
 all_goals first
  | simp only[bx.run,AX.fV h]
  | simp only[bx.run,AX.fV (fun t ht=>h t (.inl ht)),AX.fV (fun t ht=>h t (.inr ht))]
inductive Cls where
 | pu|rd|al|st|ap|cw|no
deriving DecidableEq
def gG.cls: gG->Cls
 | .ug .. | .yW .. | .Rz ..=> .pu
 | .inv _ | .pc _ | .A_ _=> .no
 | .vM .. | .M1 | .xJ _ | .Ry _=> .rd
 | .C2=> .al
 | .cw ..=> .cw
 | _=> .cw
def bx.cls: bx->Cls
 | .ex o _=>o.cls
 | .mv _ | .pick .. | .build .. | .tG _ | .bin .. | .nw .. | .un .. | .jX .. | .VQ _ | .wC .. | .tU .. | .yY .. | .rT .. | .field .. | .oW .. | .yZ .. | .ext .. | .len .. | .min .. | .max .. | .n_ ..=> .pu
 | .mj mt ..=>if mt then .al else .pu
 | .load .. | .yX _ | .pC .. | .fA .. | .Ep ..=> .rd
 | .call q ..=>if q then .rd else .no
 | .alloc .. | .box _ | .y4 .. | .ZV _ | .oX .. | .lE _=> .al
 | .store .. | .tV .. | .lC .. | .rU .. | .rV ..=> .st
 | .app ..=> .ap
 | _=> .no
def jK{lo:Option AV}{hi mx:AV}{cap:Nat}{K K':Nat->Nat->Nat->Prop}(h:∀ a b c,K a b c->K' a b c): mo lo hi mx cap K->mo lo hi mx cap K' :=
 dB fun _=>dB fun _=>dB fun _=>h _ _ _
def OB{σ : ai}{el:El}{x:AV}{lo:Option AV}{hi mx:AV}{K K':AV->ai->Prop}(h:∀ v s,K v s->K' v s): Ba σ el x lo hi mx K->Ba σ el x lo hi mx K':=by
 unfold Ba;split
 ·exact jK fun _ _ _=>h _ _
 ·exact fun hh=>⟨hh.1,jK (fun _ _ _=>h _ _) hh.2⟩
 ·refine fun hh=>⟨hh.1,?_⟩;have hh:=hh.2;split at hh
  ·refine⟨hh.1,hh.2.1,hh.2.2.1,jK (fun l b m=>?_) hh.2.2.2⟩;by_cases e:m=l
   ·simp only[e,if_true];exact h _ _
   simp only[e,if_false];exact fun k=>⟨k.1,h _ _ k.2⟩
  exact hh.elim
 exact id
def ZW{σ : ai}{el:El}{x y:AV}{K K':AV->ai->Prop}(h:∀ v s,K v s->K' v s): C5 σ el x y K->C5 σ el x y K':=by
 unfold C5;split
 ·refine fun hh=>⟨hh.1,lp (fun ys hh=>⟨hh.1,?_⟩) hh.2⟩;have hh:=hh.2;split at hh
  ·exact⟨hh.1,hh.2.1,hh.2.2.1,hh.2.2.2.1,h _ _ hh.2.2.2.2⟩
  exact hh.elim
 exact Oy h
def XA{σ : ai}{el:El}{x y:AV}{K K':AV->ai->Prop}(h:∀ v s,K v s->K' v s): C4 σ el x y K->C4 σ el x y K':=by
 unfold C4;refine lp fun ys hh=>⟨hh.1,?_⟩;have hh:=hh.2;unfold BU at *;split at hh
 ·exact h _ _ hh
 ·exact⟨hh.1,h _ _ hh.2⟩
 ·exact⟨hh.1,hh.2.1,wE (fun s=>h _ s) hh.2.2⟩
 ·refine⟨hh.1,?_⟩;have hh:=hh.2;split at hh
  ·exact⟨hh.1,hh.2.1,hh.2.2.1,h _ _ hh.2.2.2⟩
  exact hh.elim
 exact hh.elim
def wT{el:El}{n:Nat}{p:AV}{lo hi:Option AV}{K K':AV->Prop}(h:∀ v,K v->K' v): C6 el n p lo hi K->C6 el n p lo hi K' :=
 fun hh=>⟨hh.1,dB (fun _=>dB fun _=>h _) hh.2⟩
def C_{el:El}{x:AV}{lo:Option AV}{hi mx:AV}{K K':AV->Prop}(h:∀ v,K v->K' v): wD el x lo hi mx K->wD el x lo hi mx K':=by
 unfold wD;split
 ·exact jK fun _ _ _=>h _
 ·exact fun hh=>⟨hh.1,jK (fun _ _ _=>h _) hh.2⟩
 ·exact fun hh=>⟨hh.1,jK (fun _ _ _=>h _) hh.2⟩
 exact id
def XB{σ : ai}{el:El}{x y:AV}{K K':AV->Prop}(h:∀ v,K v->K' v): Hv σ el x y K->Hv σ el x y K':=by
 unfold Hv;refine lp fun ys hh=>⟨hh.1,hh.2.1,?_⟩;have hh:=hh.2.2;split at hh
 ·exact⟨hh.1,h _ hh.2⟩
 ·exact⟨hh.1,hh.2.1,h _ hh.2.2⟩
 exact hh.elim
def Da{σ : ai}{x:AV}{K K':Bool->Prop}(h:∀ v,K v->K' v): uD σ x K->uD σ x K':=by
 unfold uD;split
 ·exact h _
 ·exact h _
 ·exact h _
 ·split
  ·exact fun hh=>⟨hh.1,hh.2.1,h _ hh.2.2⟩
  exact id
 exact id
def XC{σ : ai}{x:AV}{K K':Bool->Prop}(h:∀ v,K v->K' v): Hw σ x K->Hw σ x K':=by
 unfold Hw;split
 ·exact fun hh=>⟨h _ hh.1,h _ hh.2⟩
 exact Da h
def acB{σ : ai}{x:AV}{K:Bool->Prop}(hh:uD σ x K): ∃ v,(∀ τ,uD (σ++ τ) x (fun v'=>v'=v))/\K v:=by
 unfold uD at hh |-;split at hh
 ·exact⟨_,fun _=>rfl,hh⟩
 ·exact⟨_,fun _=>rfl,hh⟩
 ·exact⟨_,fun _=>rfl,hh⟩
 ·split at hh
  ·rename_i h1;exact⟨false,fun τ=>by simp only[j8 τ h1];exact⟨hh.1,hh.2.1,trivial⟩,hh.2.2⟩
  exact hh.elim
 exact hh.elim
def OC{T:TypeId}{ok:Bool}{z x:AV}{K K':AV->Prop}(h:∀ v,K v->K' v): y5 T ok z x K->y5 T ok z x K':=by
 unfold y5;split
 ·split
  ·exact h _
  exact fun hh=>⟨hh.1,h _ hh.2⟩
 ·exact fun hh=>⟨hh.1,h _ hh.2⟩
 exact id
def ZX{σ : ai}{n:Nat}{x:AV}{K K':AV->ai->Prop}(h:∀ v s,K v s->K' v s): Jl σ n x K->Jl σ n x K':=by
 unfold Jl;split
 ·exact fun hh=>⟨hh.1,hh.2.1,hh.2.2.1,h _ _ hh.2.2.2⟩
 ·refine fun hh=>⟨hh.1,?_⟩;have hh:=hh.2;split at hh
  ·exact⟨hh.1,hh.2.1,hh.2.2.1,hh.2.2.2.1,hh.2.2.2.2.1,h _ _ hh.2.2.2.2.2⟩
  exact hh.elim
 exact id
def XD{σ : ai}{kd:Option IntKind}{zero x k:AV}{K K':AV->ai->Prop}(h:∀ v s,K v s->K' v s): C7 σ kd zero x k K->C7 σ kd zero x k K':=by
 unfold C7;split
 ·refine fun hh=>⟨hh.1,?_⟩;have hh:=hh.2;split at hh
  ·split at hh
   ·exact h _ _ hh
   ·exact h _ _ hh
   exact hh.elim
  exact hh.elim
 exact id
def K0{σ : ai}{x s v:AV}{K K':ai->Prop}(h:∀ s,K s->K' s): C8 σ x s v K->C8 σ x s v K':=by
 unfold C8;split
 ·split
  ·exact fun hh=>⟨hh.1,hh.2.1,h _ hh.2.2⟩
  exact id
 exact id
def OD{σ : ai}{el:El}{zero x:AV}{K K':ai->Prop}(h:∀ s,K s->K' s): Jm σ el zero x K->Jm σ el zero x K':=by
 unfold Jm;split
 ·exact h _
 ·exact h _
 ·refine fun hh=>⟨hh.1,hh.2.1,?_⟩;have hh:=hh.2.2;split at hh
  ·exact⟨hh.1,hh.2.1,hh.2.2.1,h _ hh.2.2.2⟩
  exact hh.elim
 exact id
def afF{T:TypeId}{ok:Bool}{z x:AV}{K:AV->Prop}(hh:y5 T ok z x K): ∃ v,y5 T ok z x (fun v'=>v'=v)/\K v:=by
 unfold y5 at hh |-;split at hh
 ·split at hh
  ·rename_i e;exact⟨_,by rw[au e],hh⟩
  rename_i e;exact⟨_,by rw[aj e];exact⟨hh.1,rfl⟩,hh.2⟩
 ·exact⟨_,⟨hh.1,rfl⟩,hh.2⟩
 exact hh.elim
def afG{σ : ai}{n:Nat}{x:AV}{K:AV->ai->Prop}(hh:Jl σ n x K): ∃ v σ',Jl σ n x (fun v' s'=>v'=v/\s' = σ')/\K v σ':=by
 unfold Jl at hh |-;split at hh
 ·exact⟨_,_,⟨hh.1,hh.2.1,hh.2.2.1,rfl,rfl⟩,hh.2.2.2⟩
 ·obtain⟨h0,hh⟩:=hh;split at hh
  ·exact⟨_,_,⟨h0,hh.1,hh.2.1,hh.2.2.1,hh.2.2.2.1,hh.2.2.2.2.1,rfl,rfl⟩,hh.2.2.2.2.2⟩
  exact hh.elim
 exact hh.elim
def acC{σ : ai}{kd:Option IntKind}{zero x k:AV}{K:AV->ai->Prop}(hh:C7 σ kd zero x k K): ∃ v σ',C7 σ kd zero x k (fun v' s'=>v'=v/\s' = σ')/\K v σ':=by
 unfold C7 at hh |-;split at hh
 ·obtain⟨h0,hh⟩:=hh;split at hh
  ·split at hh
   ·exact⟨_,_,⟨h0,rfl,rfl⟩,hh⟩
   ·exact⟨_,_,⟨h0,rfl,rfl⟩,hh⟩
   exact hh.elim
  exact hh.elim
 exact hh.elim
def acD{σ : ai}{x s v:AV}{K:ai->Prop}(hh:C8 σ x s v K): ∃ σ',C8 σ x s v (fun s'=>s' = σ')/\K σ':=by
 unfold C8 at hh |-;split at hh
 ·split at hh
  ·exact⟨_,⟨hh.1,hh.2.1,rfl⟩,hh.2.2⟩
  exact hh.elim
 exact hh.elim
def ZY{σ : ai}{x:AV}{K K':AV->ai->Prop}(h:∀ v s,K v s->K' v s): y6 σ x K->y6 σ x K':=by
 unfold y6;split
 ·exact h _ _
 ·exact h _ _
 ·split
  ·exact fun⟨a,b,c,d⟩=>⟨a,b,c,h _ _ d⟩
  exact id
 exact id
def afH{σ : ai}{el:El}{zero x:AV}{K:ai->Prop}(hh:Jm σ el zero x K): ∃ σ',Jm σ el zero x (fun s'=>s' = σ')/\K σ':=by
 unfold Jm at hh |-;split at hh
 ·exact⟨_,rfl,hh⟩
 ·exact⟨_,rfl,hh⟩
 ·obtain⟨h0,h1,hh⟩:=hh;split at hh
  ·exact⟨_,⟨h0,h1,hh.1,hh.2.1,hh.2.2.1,rfl⟩,hh.2.2.2⟩
  exact hh.elim
 exact hh.elim
def gG.tW{o:gG}{vs:List AV}{σ : ai}{K K' Kp ZZ:AV->ai->Prop}(h:∀ v s,K v s->K' v s)(hp:∀ v s,Kp v s->ZZ v s): o.run P vs σ K Kp->o.run P vs σ K' ZZ:=by
 unfold gG.run;split
 ·exact OB h
 ·exact OB h
 ·exact h _ _
 ·exact fun hh=>⟨hh.1,h _ _ hh.2⟩
 ·refine fun hh=>⟨hh.1,?_⟩;have hh:=hh.2;split at hh
  ·split at hh
   ·exact h _ _ hh
   ·exact h _ _ hh
   exact hh.elim
  exact hh.elim
 ·refine fun hh=>⟨hh.1,?_⟩;have hh:=hh.2;split at hh
  ·split at hh
   ·exact h _ _ hh
   exact hh.elim
  exact hh.elim
 ·exact h _ _
 ·split
  ·exact h _ _
  exact id
 ·exact wT fun v=>h v σ
 ·exact wT fun v=>h v σ
 ·exact wT fun v=>h v σ
 ·exact wT fun v=>h v σ
 ·exact XA h
 ·exact ZW h
 ·exact XB fun v=>h v σ
 ·exact Da fun v=>h _ σ
 ·exact fun⟨r,s2,h1,h2,h3⟩=>⟨r,s2,h1,h2,h _ _ h3⟩
 ·exact C_ fun v=>h v σ
 ·exact C_ fun v=>h v σ
 ·split
  ·refine fun hh=>hh.mono fun o s=>?_;cases o
   ·exact h _ _
   exact hp _ _
  exact id
 ·exact OC fun v=>h v σ
 ·exact ZX h
 ·exact XD h
 ·exact K0 fun s=>h _ s
 ·exact OD fun s=>h _ s
 ·rintro⟨o,h1,h2⟩;refine⟨o,h1,?_⟩;cases o
  ·exact h _ _ h2
  exact fun s=>hp _ _ (h2 s)
 ·exact ZY h
 ·exact XC fun v=>h _ σ
 exact id
def tW{o:bx}{e:Env}{σ : ai}{K K' Kp ZZ:AV->ai->Prop}(h:∀ v s,K v s->K' v s)(hp:∀ v s,Kp v s->ZZ v s): o.run P e σ K Kp->o.run P e σ K' ZZ:=by
 cases o<;>simp only[bx.run]
 case ex o xs=>exact gG.tW h hp
 case mv x=>exact h _ _
 case alloc T cs=>exact h _ _
 case lE el=>exact h _ _
 case hold=>exact h _ _
 case y4=>exact fun hh=>⟨hh.1,h _ _ hh.2⟩
 case lC k T cs =>
  split
  ·split
   ·exact h _ _
   exact id
  exact id
 case rU k T el x y =>
  split
  ·split
   ·split
    ·exact fun hh=>⟨hh.1,hh.2.1,hh.2.2.1,h _ _ hh.2.2.2⟩
    exact id
   exact id
  exact id
 case rV k el z x y =>
  split
  ·split
   ·split
    ·exact fun hh=>⟨hh.1,hh.2.1,hh.2.2.1,hh.2.2.2.1,h _ _ hh.2.2.2.2⟩
    exact id
   exact id
  exact id
 case wC t x=>exact h _ _
 case tU f a b=>exact h _ _
 case box x=>exact fun hh=>⟨hh.1,h _ _ hh.2⟩
 case build z ps=>exact Bb (fun v=>h _ _) _ _
 case mj mt el z n ps=>exact uG (fun v=>by split<;>exact h _ _) _ _
 case load ag n x=>exact nh fun v=>h _ _
 case store n x v=>exact wE fun v=>h _ _
 case bin op x y=>exact Ow fun v=>h _ _
 case un op x=>exact RA fun v=>h _ _
 case app T el x y=>exact Oy h
 case Hu=>exact fun hh=>⟨hh.1,h _ _ hh.2⟩
 case Ep =>
  split
  ·exact h _ _
  ·refine fun hh=>⟨hh.1,?_⟩;have hh:=hh.2;split at hh
   ·exact⟨hh.1,hh.2.1,hh.2.2.1,h _ _ hh.2.2.2⟩
   exact hh.elim
  exact id
 case y3 =>
  split
  ·exact fun hh=>⟨hh.1,h _ _ hh.2⟩
  ·refine fun hh=>⟨hh.1,hh.2.1,hh.2.2.1,?_⟩;have hh:=hh.2.2.2;split at hh
   ·obtain⟨a1,a2,a3,a4,a5,s,a6,a7⟩:=hh;exact⟨a1,a2,a3,a4,a5,s,a6,h _ _ a7⟩
   exact hh.elim
  exact id
 case KX =>
  split
  ·split
   ·exact fun hh=>⟨hh.1,h _ _ hh.2⟩
   exact id
  exact id
 case KY =>
  split
  ·split
   ·exact fun hh=>⟨hh.1,h _ _ hh.2⟩
   exact id
  exact id
 case Il =>
  split
  ·refine fun hh=>⟨hh.1,hh.2.1,?_⟩;have hh:=hh.2.2;split at hh
   ·exact h _ _ hh
   exact hh.elim
  exact id
 case min x xs=>exact uF (fun v=>h _ _) _ _
 case max x xs=>exact uF (fun v=>h _ _) _ _
 case yX x=>exact fun hh=>⟨hh.1,lp (fun v ⟨s,h1,h2⟩=>⟨s,h1,h _ _ h2⟩) hh.2⟩
 case pick c a b=>split<;>first|exact h _ _|exact id
 case tG x=>split<;>first|exact h _ _|exact id
 case nw=>split<;>first|exact h _ _|exact id
 case jX=>split<;>first|exact h _ _|exact id
 case VQ=>split<;>first|exact h _ _|exact id
 case n_=>split<;>first|exact h _ _|exact id
 case rT=>split<;>first|exact h _ _|exact id
 case panic=>split<;>first|exact hp _ _|exact id
 case Jj=>split<;>first|exact h _ _|exact id
 case Jk =>
  split
  ·split
   ·split<;>exact h _ _
   exact id
  exact id
 case len=>split<;>first|exact h _ _|exact id
 case ZV=>split<;>first|exact fun hh=>⟨hh.1,h _ _ hh.2⟩|exact id
 case ext=>split<;>first|exact fun hh=>⟨hh.1,h _ _ hh.2⟩|exact id
 case field=>split<;>first|exact fun hh=>⟨hh.1,hh.2.1,h _ _ hh.2.2⟩|exact id
 case oW=>split<;>first|exact fun hh=>⟨hh.1,hh.2.1,h _ _ hh.2.2⟩|exact id
 case yZ=>split<;>first|exact fun hh=>⟨hh.1,hh.2.1,hh.2.2.1,hh.2.2.2.1,h _ _ hh.2.2.2.2⟩|exact id
 case oX=>split<;>first|exact fun hh=>⟨hh.1,hh.2.1,hh.2.2.1,hh.2.2.2.1,h _ _ hh.2.2.2.2⟩|exact id
 case yY x lo hi=>split<;>first|exact dB (fun _=>dB fun _=>h _ _)|exact id
 case pC el x lo hi =>
  split
  ·exact dB (fun _=>dB fun _=>h _ _)
  ·exact fun hh=>⟨hh.1,dB (fun _=>dB fun _=>h _ _) hh.2⟩
  ·refine fun hh=>⟨hh.1,?_⟩;have hh:=hh.2;split at hh
   ·exact⟨hh.1,hh.2.1,hh.2.2.1,dB (fun _=>dB fun _=>h _ _) hh.2.2.2⟩
   exact hh.elim
  exact id
 case fA el arr x i =>
  intro hh;split at hh
  ·split at hh
   ·exact⟨hh.1,hh.2.1,hh.2.2.1,h _ _ hh.2.2.2⟩
   ·refine⟨hh.1,hh.2.1,hh.2.2.1,?_⟩;have hh:=hh.2.2.2;split at hh
    ·exact⟨hh.1,hh.2.1,h _ _ hh.2.2⟩
    exact hh.elim
   ·exact⟨hh.1,hh.2.1,h _ _ hh.2.2⟩
   ·exact⟨hh.1,hh.2.1,h _ _ hh.2.2⟩
   ·exact⟨hh.1,hh.2.1,h _ _ hh.2.2⟩
   exact hh.elim
  exact hh.elim
 case tV f args =>
  split
  ·unfold Ht;split
   ·exact fun⟨l,ob,nO,r,h1,h2,h3,h4,h5⟩=>⟨l,ob,nO,r,h1,h2,h3,h4,h _ _ h5⟩
   exact id
  exact id
 case call q f args =>
  split
  ·split
   ·exact fun⟨r,h1,h2⟩=>⟨r,h1,h _ _ h2⟩
   exact fun hh=>hh.mono fun o s=>by cases o<;>first|exact h _ _|exact hp _ _
  ·split
   ·exact id
   exact fun hh=>hh.mono fun o s=>by cases o<;>first|exact h _ _|exact hp _ _
  exact id
abbrev Is(v:AV)(σ : ai): AV->ai->Prop:=fun v' σ'=>v'=v/\σ' = σ
abbrev No: AV->ai->Prop:=fun _ _=>False
def afI{el:El}{n:Nat}{p:AV}{lo hi:Option AV}{K:AV->Prop}(hh:C6 el n p lo hi K): ∃ v,C6 el n p lo hi (fun v'=>v'=v)/\K v:=by
 obtain⟨v,h1,h2⟩:=lN hh.2;obtain⟨u,h3,h4⟩:=lN h2;exact⟨_,⟨hh.1,dB (fun v' e=>by subst e;exact dB (fun u' e=>by subst e;rfl) h3) h1⟩,h4⟩
def uj{lo:Option AV}{hi mx:AV}{cap:Nat}{K:Nat->Nat->Nat->Prop}(h:mo lo hi mx cap K): ∃ a b c,mo lo hi mx cap (fun a' b' c'=>a'=a/\b'=b/\c'=c)/\K a b c:=by
 obtain⟨m,h1,h2⟩:=lN h;obtain⟨b,h3,h4⟩:=lN h2;obtain⟨a,h5,h6⟩:=lN h4;exact⟨a,b,m,dB (fun m' e=>by subst e;exact dB (fun b' e=>by subst e;exact dB (fun a' e=>⟨e,rfl,rfl⟩) h5) h3) h1,h6⟩
def acE{el:El}{x:AV}{lo:Option AV}{hi mx:AV}{K:AV->Prop}(hh:wD el x lo hi mx K): ∃ v,wD el x lo hi mx (fun v'=>v'=v)/\K v:=by
 unfold wD at hh |-;split at hh
 ·obtain⟨a,b,c,h1,h2⟩:=uj hh;exact⟨_,jK (fun _ _ _ _=>rfl) h1,h2⟩
 ·obtain⟨a,b,c,h1,h2⟩:=uj hh.2;exact⟨_,⟨hh.1,jK (fun _ _ _ e=>by obtain⟨rfl,rfl,rfl⟩:=e;rfl) h1⟩,h2⟩
 ·obtain⟨a,b,c,h1,h2⟩:=uj hh.2;exact⟨_,⟨hh.1,jK (fun _ _ _ _=>rfl) h1⟩,h2⟩
 exact hh.elim
def gG.Hx{o:gG}{vs:List AV}{σ : ai}{K Kp:AV->ai->Prop}(hc:o.cls = .pu)(hh:o.run P vs σ K Kp): ∃ v,(∀ σ',o.run P vs σ' (Is v σ') No)/\K v σ:=by
 cases o<;>simp only[gG.cls]at hc<;>(try (cases hc;done))
 ·unfold gG.run at hh |-
  split at hh<;>(try (rename_i h;cases h))<;>first
   |(obtain⟨v,h1,h2⟩:=afI hh;exact⟨v,fun σ'=>wT (fun v' e=>⟨e,rfl⟩) h1,h2⟩)
   | exact hh.elim
 ·unfold gG.run at hh |-
  split at hh<;>(try (rename_i h;cases h))<;>first
   |(obtain⟨v,h1,h2⟩:=acE hh;exact⟨v,fun σ'=>C_ (fun v' e=>⟨e,rfl⟩) h1,h2⟩)
   | exact hh.elim
 unfold gG.run at hh |-
 split at hh<;>(try (rename_i h;cases h))<;>first
  |(obtain⟨v,h1,h2⟩:=afF hh;exact⟨v,fun σ'=>OC (fun v' e=>⟨e,rfl⟩) h1,h2⟩)
  | exact hh.elim
def gG.Db{o:gG}{vs:List AV}{σ : ai}{K Kp:AV->ai->Prop}(hc:o.cls = .rd)(hh:o.run P vs σ K Kp): ∃ v,(∀ τ,o.run P vs (σ++ τ) (Is v (σ++ τ)) No)/\K v σ:=by
 cases o<;>simp only[gG.cls]at hc<;>(try (cases hc;done))
 case Ry neg =>
  unfold gG.run at hh |-;split at hh<;>(try (rename_i h;cases h))<;>(try exact hh.elim);obtain⟨v,h1,h2⟩:=acB hh;exact⟨_,fun τ=>Da (fun v' e=>by subst e;exact⟨rfl,rfl⟩) (h1 τ),h2⟩
 case xJ el =>
  unfold gG.run at hh |-;split at hh<;>(try (rename_i h;cases h))<;>(try exact hh.elim);unfold Hv at hh |-;obtain⟨ys,h1,h2,h3,h4⟩:=Jn hh;split at h4
  ·exact⟨_,fun τ=>lp (fun zs (e:zs=ys)=>by subst e;exact⟨h2,h3,h4.1,rfl,rfl⟩) (h1 τ),h4.2⟩
  ·exact⟨_,fun τ=>lp (fun zs (e:zs=ys)=>by subst e;exact⟨h2,h3,h4.1,h4.2.1,rfl,rfl⟩) (h1 τ),h4.2.2⟩
  exact h4.elim
 case vM kd ok zero =>
  unfold gG.run at hh |-;split at hh<;>(try (rename_i h;cases h))
  ·exact⟨_,fun τ=>⟨hh.1,rfl,rfl⟩,hh.2⟩
  ·obtain⟨h0,hh⟩:=hh;split at hh
   ·rename_i h1;split at hh
    ·rename_i h2;exact⟨_,fun τ=>by simp only[j8 τ h1,h2];exact⟨h0,rfl,rfl⟩,hh⟩
    ·rename_i h2;exact⟨_,fun τ=>by simp only[j8 τ h1,h2];exact⟨h0,rfl,rfl⟩,hh⟩
    exact hh.elim
   exact hh.elim
  exact hh.elim
 case M1 =>
  unfold gG.run at hh |-;split at hh<;>(try (rename_i h;cases h))
  ·exact⟨_,fun τ=>⟨rfl,rfl⟩,hh⟩
  ·split at hh
   ·rename_i h1;exact⟨_,fun τ=>by simp only[j8 τ h1];exact⟨rfl,rfl⟩,hh⟩
   exact hh.elim
  exact hh.elim
def gG.K3{o:gG}{vs:List AV}{σ : ai}{K Kp:AV->ai->Prop}(hc:o.cls = .al)(hh:o.run P vs σ K Kp): ∃ v τ,o.run P vs σ (Is v (σ++ τ)) No/\K v (σ++ τ):=by
 cases o<;>simp only[gG.cls]at hc<;>(try (cases hc;done));unfold gG.run at hh |-;split at hh<;>(try (rename_i h;cases h))
 ·exact⟨_,_,⟨rfl,rfl⟩,hh⟩
 exact hh.elim
def gG.K4{o:gG}: o.cls≠ .st/\o.cls≠ .ap:=by cases o<;>simp[gG.cls]
def Hx{o:bx}{e:Env}{σ : ai}{K Kp:AV->ai->Prop}(hc:o.cls = .pu)(hh:o.run P e σ K Kp): ∃ v,(∀ σ',o.run P e σ' (Is v σ') No)/\K v σ:=by
 cases o<;>simp only[bx.cls]at hc<;>(try (cases hc;done))<;>simp only[bx.run]at hh |-
 case ex o xs=>exact gG.Hx hc hh
 case mv x=>exact⟨_,fun _=>⟨rfl,rfl⟩,hh⟩
 case wC t x=>exact⟨_,fun _=>⟨rfl,rfl⟩,hh⟩
 case tU f a b=>exact⟨_,fun _=>⟨rfl,rfl⟩,hh⟩
 case build z ps=>obtain⟨v,h1,h2⟩:=OA _ _ hh;exact⟨_,fun _=>Bb (fun v' e=>⟨aW AV.agg e,rfl⟩) _ _ h1,h2⟩
 case mj mt el z n ps =>
  cases mt
  ·obtain⟨v,h1,h2⟩:=C9 _ _ hh;simp only[aP,if_false]at h2 |-;exact⟨_,fun _=>uG (fun v' e=>⟨aW (AV.aR true el) e,rfl⟩) _ _ h1,h2⟩
  ·cases hc
 case bin op x y=>obtain⟨v,h1,h2⟩:=afD hh;exact⟨v,fun _=>Ow (fun v' e=>⟨e,rfl⟩) h1,h2⟩
 case un op x=>obtain⟨v,h1,h2⟩:=ahi hh;exact⟨v,fun _=>RA (fun v' e=>⟨e,rfl⟩) h1,h2⟩
 case min x xs=>obtain⟨v,h1,h2⟩:=Jo _ _ hh;exact⟨v,fun _=>uF (fun v' e=>⟨e,rfl⟩) _ _ h1,h2⟩
 case max x xs=>obtain⟨v,h1,h2⟩:=Jo _ _ hh;exact⟨v,fun _=>uF (fun v' e=>⟨e,rfl⟩) _ _ h1,h2⟩
 case pick c a b=>split at hh<;>first|exact⟨_,fun _=>⟨rfl,rfl⟩,hh⟩|exact hh.elim
 case tG x=>split at hh<;>first|exact⟨_,fun _=>⟨rfl,rfl⟩,hh⟩|exact hh.elim
 case nw=>split at hh<;>first|exact⟨_,fun _=>⟨rfl,rfl⟩,hh⟩|exact hh.elim
 case jX=>split at hh<;>first|exact⟨_,fun _=>⟨rfl,rfl⟩,hh⟩|exact hh.elim
 case VQ=>split at hh<;>first|exact⟨_,fun _=>⟨rfl,rfl⟩,hh⟩|exact hh.elim
 case n_=>split at hh<;>first|exact⟨_,fun _=>⟨rfl,rfl⟩,hh⟩|exact hh.elim
 case rT=>split at hh<;>first|exact⟨_,fun _=>⟨rfl,rfl⟩,hh⟩|exact hh.elim
 case len=>split at hh<;>first|exact⟨_,fun _=>⟨rfl,rfl⟩,hh⟩|exact hh.elim
 case ext=>split at hh<;>first|exact⟨_,fun _=>⟨hh.1,rfl,rfl⟩,hh.2⟩|exact hh.elim
 case field=>split at hh<;>first|exact⟨_,fun _=>⟨hh.1,hh.2.1,rfl,rfl⟩,hh.2.2⟩|exact hh.elim
 case oW=>split at hh<;>first|exact⟨_,fun _=>⟨hh.1,hh.2.1,rfl,rfl⟩,hh.2.2⟩|exact hh.elim
 case yZ=>split at hh<;>first|exact⟨_,fun _=>⟨hh.1,hh.2.1,hh.2.2.1,hh.2.2.2.1,rfl,rfl⟩,hh.2.2.2.2⟩|exact hh.elim
 case yY x lo hi =>
  split at hh
  ·obtain⟨v,h1,h2⟩:=lN hh;obtain⟨u,h3,h4⟩:=lN h2;exact⟨_,fun _=>dB (fun v' e=>by subst e;exact dB (fun u' e=>by subst e;exact⟨rfl,rfl⟩) h3) h1,h4⟩
  exact hh.elim
 case call q f args=>split at hc<;>cases hc
def Db{o:bx}{e:Env}{σ : ai}{K Kp:AV->ai->Prop}(hc:o.cls = .rd)(hh:o.run P e σ K Kp): ∃ v,(∀ τ,o.run P e (σ++ τ) (Is v (σ++ τ)) No)/\K v σ:=by
 cases o<;>simp only[bx.cls]at hc<;>(try (cases hc;done))<;>simp only[bx.run]at hh |-
 case ex o xs=>exact gG.Db hc hh
 case mj mt el z n ps=>split at hc<;>cases hc
 case load ag n x=>obtain⟨v,h1,h2⟩:=vN hh;exact⟨v,fun τ=>nh (fun v' e=>⟨e,rfl⟩) (h1 τ),h2⟩
 case yX x =>
  obtain⟨v,h1,s,h2,h3⟩:=Jn hh.2;exact⟨_,fun τ=>⟨hh.1,lp (fun v' (e:v'=v)=>⟨s,by rw[e];exact h2,rfl,rfl⟩) (h1 τ)⟩,h3⟩
 case Ep el x =>
  split at hh
  ·exact⟨_,fun _=>⟨rfl,rfl⟩,hh⟩
  ·obtain⟨h0,hh⟩:=hh;split at hh
   ·rename_i h;refine⟨_,fun τ=>⟨h0,?_⟩,hh.2.2.2⟩;simp only[j8 τ h];exact⟨hh.1,hh.2.1,hh.2.2.1,by trivial⟩
   exact hh.elim
  exact hh.elim
 case pC el x lo hi =>
  split at hh
  ·obtain⟨v,h1,h2⟩:=lN hh;obtain⟨u,h3,h4⟩:=lN h2;exact⟨_,fun _=>dB (fun v' e=>by subst e;exact dB (fun u' e=>by subst e;exact⟨rfl,rfl⟩) h3) h1,h4⟩
  ·obtain⟨v,h1,h2⟩:=lN hh.2;obtain⟨u,h3,h4⟩:=lN h2;exact⟨_,fun _=>⟨hh.1,dB (fun v' e=>by subst e;exact dB (fun u' e=>by subst e;exact⟨rfl,rfl⟩) h3) h1⟩,h4⟩
  ·obtain⟨h0,hh⟩:=hh;split at hh
   ·rename_i h;obtain⟨v,h1,h2⟩:=lN hh.2.2.2;obtain⟨u,h3,h4⟩:=lN h2;refine⟨_,fun τ=>⟨h0,?_⟩,h4⟩;simp only[j8 τ h];exact⟨hh.1,hh.2.1,hh.2.2.1,dB (fun v' e=>by subst e;exact dB (fun u' e=>by subst e;exact⟨rfl,rfl⟩) h3) h1⟩
   exact hh.elim
  exact hh.elim
 case fA el arr x i =>
  split at hh
  ·split at hh
   ·exact⟨_,fun τ=>⟨hh.1,hh.2.1,hh.2.2.1,rfl,rfl⟩,hh.2.2.2⟩
   ·obtain⟨h0,h1,h2,hh⟩:=hh;split at hh
    ·rename_i h;refine⟨_,fun τ=>⟨h0,h1,h2,?_⟩,hh.2.2⟩;simp only[j8 τ h];exact⟨hh.1,hh.2.1,by trivial⟩
    exact hh.elim
   ·exact⟨_,fun τ=>⟨hh.1,hh.2.1,rfl,rfl⟩,hh.2.2⟩
   ·exact⟨_,fun τ=>⟨hh.1,hh.2.1,rfl,rfl⟩,hh.2.2⟩
   ·exact⟨_,fun τ=>⟨hh.1,hh.2.1,rfl,rfl⟩,hh.2.2⟩
   exact hh.elim
  exact hh.elim
 case call q f args =>
  cases q with
  | false=>cases hc
  | true =>
    split at hh
    ·simp only[if_true]at hh |-;obtain⟨r,h1,h2⟩:=hh;exact⟨r,fun τ=>⟨r,fun lq=>by rw[aT σ];exact h1 _,rfl,rfl⟩,h2⟩
    ·exact hh.elim
    exact hh.elim
def K3{o:bx}{e:Env}{σ : ai}{K Kp:AV->ai->Prop}(hc:o.cls = .al)(hh:o.run P e σ K Kp): ∃ v τ,o.run P e σ (Is v (σ++ τ)) No/\K v (σ++ τ):=by
 cases o<;>simp only[bx.cls]at hc<;>(try (cases hc;done))<;>simp only[bx.run]at hh |-
 case ex o xs=>exact gG.K3 hc hh
 case alloc T cs=>exact⟨_,_,⟨rfl,rfl⟩,hh⟩
 case y4=>exact⟨_,_,⟨hh.1,rfl,rfl⟩,hh.2⟩
 case lE el=>exact⟨_,_,⟨rfl,rfl⟩,hh⟩
 case box x=>exact⟨_,_,⟨hh.1,rfl,rfl⟩,hh.2⟩
 case ZV x=>split at hh<;>first|exact⟨_,_,⟨hh.1,rfl,rfl⟩,hh.2⟩|exact hh.elim
 case oX=>split at hh<;>first|exact⟨_,_,⟨hh.1,hh.2.1,hh.2.2.1,hh.2.2.2.1,rfl,rfl⟩,hh.2.2.2.2⟩|exact hh.elim
 case call q f args=>split at hc<;>cases hc
 case mj mt el z n ps =>
  cases mt
  ·cases hc
  obtain⟨v,h1,h2⟩:=C9 _ _ hh;simp only[if_true]at h2 |-;exact⟨_,_,uG (fun v' e=>by subst e;exact⟨rfl,rfl⟩) _ _ h1,h2⟩
def Fi{σ : ai}{n:Nat}{p v:AV}{K:ai->Prop}(hh:oe σ n p v K): ∃ l o o',σ[l]? = some o/\o.like o'/\p.obj=some l/\oe σ n p v (fun s=>s = σ.set l o')/\K (σ.set l o'):=by
 unfold oe at hh;obtain⟨h1,h2,hh⟩:=hh;split at hh
 ·split at hh
  ·rename_i h;exact⟨_,_,_,h,trivial,rfl,by simp only[oe,h];exact⟨h1,h2,hh.1,trivial⟩,hh.2⟩
  exact hh.elim
 ·split at hh
  ·rename_i h;obtain⟨e1,e2,e3,e4,e5,hK⟩:=hh;subst e1;exact⟨_,_,_,h,⟨_,rfl,aQ⟩,rfl,by simp only[oe,h];exact⟨h1,h2,trivial,e2,e3,e4,e5,trivial⟩,hK⟩
  exact hh.elim
 exact hh.elim
def ajF{o:bx}{e:Env}{σ : ai}{K Kp:AV->ai->Prop}(hc:o.cls = .st)(hh:o.run P e σ K Kp): ∃ v σ',o.run P e σ (Is v σ') No/\K v σ':=by
 cases o<;>simp only[bx.cls]at hc<;>(try (cases hc;done))<;>simp only[bx.run]at hh |-
 case ex=>exact absurd hc gG.K4.1
 case mj=>split at hc<;>cases hc
 case call=>split at hc<;>cases hc
 case tV f args =>
  split at hh
  ·unfold Ht at *;split at hh
   ·obtain⟨l,ob,nO,r,h1,h2,h3,h4,h5⟩:=hh;exact⟨r,_,⟨l,ob,nO,r,h1,h2,h3,h4,rfl,rfl⟩,h5⟩
   exact hh.elim
  exact hh.elim
 case store n x v =>
  obtain⟨l,o,o',_,_,_,h1,h2⟩:=Fi hh;exact⟨_,_,wE (fun s e=>⟨rfl,e⟩) h1,h2⟩
 case lC k T cs =>
  split at hh
  ·rename_i n h1;split at hh
   ·rename_i h2;exact⟨_,_,⟨rfl,rfl⟩,hh⟩
   exact hh.elim
  exact hh.elim
 case rU k T el x y =>
  split at hh
  ·split at hh
   ·split at hh
    ·exact⟨_,_,⟨hh.1,hh.2.1,hh.2.2.1,rfl,rfl⟩,hh.2.2.2⟩
    exact hh.elim
   exact hh.elim
  exact hh.elim
 case rV k el z x y =>
  split at hh
  ·split at hh
   ·split at hh
    ·exact⟨_,_,⟨hh.1,hh.2.1,hh.2.2.1,hh.2.2.2.1,rfl,rfl⟩,hh.2.2.2.2⟩
    exact hh.elim
   exact hh.elim
  exact hh.elim
def afd{o:bx}{e:Env}{σ : ai}{K Kp:AV->ai->Prop}(hc:o.cls = .ap)(hh:o.run P e σ K Kp): ∃ v σ',o.run P e σ (Is v σ') No/\K v σ':=by
 cases o<;>simp only[bx.cls]at hc<;>(try (cases hc;done))<;>simp only[bx.run]at hh |-
 case ex=>exact absurd hc gG.K4.2
 case mj=>split at hc<;>cases hc
 case call=>split at hc<;>cases hc
 case app T el x y =>
  have key:∀ ys:List AV,∀ K':AV->ai->Prop,(ys.all (fun a=>a.fits el)=true/\match x.ev e with
   | .aV=>if ys.length=0 then K' .aV σ else gH ys.length el/\K' (.own el σ.length ys.length 0 ys.length) (σ++[.dn T el ys])
   | .aR true bD xs=>bD=el/\if ys.length=0 then K' (.aR true el xs) σ else gH (xs.length+ys.length) el/\K' (.own el σ.length (xs.length+ys.length) 0 (xs.length+ys.length)) (σ++[.dn T el (xs++ys)])
   | .own bD l m lo n => bD = el /\ match σ[l]? with
     | some (.dn T' bN xs)=>(T'=none\/T'=T)/\bN=el/\m=xs.length/\lo=0/\n=xs.length/\gH (xs.length+ys.length) el/\K' (.own el l (xs.length+ys.length) 0 (xs.length+ys.length)) (σ.set l (.dn T' el (xs++ys)))
     | _=>False
   | _=>False)-> ∃ v σ',K' v σ'/\(ys.all (fun a=>a.fits el)=true/\match x.ev e with
   | .aV=>if ys.length=0 then Is v σ' .aV σ else gH ys.length el/\Is v σ' (.own el σ.length ys.length 0 ys.length) (σ++[.dn T el ys])
   | .aR true bD xs=>bD=el/\if ys.length=0 then Is v σ' (.aR true el xs) σ else gH (xs.length+ys.length) el/\Is v σ' (.own el σ.length (xs.length+ys.length) 0 (xs.length+ys.length)) (σ++[.dn T el (xs++ys)])
   | .own bD l m lo n => bD = el /\ match σ[l]? with
     | some (.dn T' bN xs)=>(T'=none\/T'=T)/\bN=el/\m=xs.length/\lo=0/\n=xs.length/\gH (xs.length+ys.length) el/\Is v σ' (.own el l (xs.length+ys.length) 0 (xs.length+ys.length)) (σ.set l (.dn T' el (xs++ys)))
     | _=>False
   | _=>False):=fun ys K'=>by
   rintro⟨h1,h2⟩;split at h2
   ·split at h2
    ·exact⟨_,_,h2,h1,by rw[au (by assumption)];exact⟨rfl,rfl⟩⟩
    exact⟨_,_,h2.2,h1,by rw[aj (by assumption)];exact⟨h2.1,rfl,rfl⟩⟩
   ·obtain⟨rfl,h2⟩:=h2;split at h2
    ·exact⟨_,_,h2,h1,rfl,by rw[au (by assumption)];exact⟨rfl,rfl⟩⟩
    exact⟨_,_,h2.2,h1,rfl,by rw[aj (by assumption)];exact⟨h2.1,rfl,rfl⟩⟩
   ·obtain⟨rfl,h2⟩:=h2;split at h2
    ·rename_i hk;refine⟨_,_,h2.2.2.2.2.2.2,h1,rfl,?_⟩;exact⟨h2.1,h2.2.1,h2.2.2.1,h2.2.2.2.1,h2.2.2.2.2.1,h2.2.2.2.2.2.1,rfl,rfl⟩
    exact h2.elim
   exact h2.elim
  have hh:gN σ el (y.ev e) fun ys=> ∃ v σ',K v σ'/\_:=lp (fun ys h=>key ys K h) hh
  have out:∀ {B:List AV->AV->ai->Prop},(gN σ el (y.ev e) fun ys=> ∃ v σ',K v σ'/\B ys v σ')-> ∃ v σ',(gN σ el (y.ev e) fun ys=>B ys v σ')/\K v σ':=fun {B} h=>by
   unfold gN at *;split at h
   ·obtain⟨v,s,h1,h2⟩:=h;exact⟨v,s,h2,h1⟩
   ·obtain⟨h0,v,s,h1,h2⟩:=h;exact⟨v,s,⟨h0,h2⟩,h1⟩
   ·obtain⟨h0,h⟩:=h;split at h
    ·obtain⟨q1,q2,v,s,h1,h2⟩:=h;exact⟨v,s,⟨h0,q1,q2,h2⟩,h1⟩
    exact h.elim
   ·obtain⟨h0,v,s,h1,h2⟩:=h;exact⟨v,s,⟨h0,h2⟩,h1⟩
   ·obtain⟨h0,h0',h⟩:=h;obtain⟨u,h1,v,s,h2,h3⟩:=vN h;exact⟨v,s,⟨h0,h0',nh (fun u' (e:u'=u)=>by subst e;exact h3) (by simpa using h1 [])⟩,h2⟩
   exact h.elim
  exact out hh
def OE{σ : ai}{el:El}{x:AV}{K:List AV->Prop}(hh:gN σ el x K): ∃ v,gN σ el x (fun v'=>v'=v)/\K v:=by
 obtain⟨v,h1,h2⟩:=Jn hh;exact⟨v,by simpa using h1 [],h2⟩
def afJ{σ : ai}{T:Option TypeId}{el:El}{x y:AV}{K:AV->ai->Prop}(hh:oY σ T el x y K): ∃ v σ',oY σ T el x y (Is v σ')/\K v σ':=by
 have:=afd (P:=default) (o:= .app T el (.c x) (.c y)) (e:=fun _=> .undef) (σ:=σ) (K:=K) (Kp:=No) rfl hh;obtain⟨v,σ',h1,h2⟩:=this;exact⟨v,σ',h1,h2⟩
def afK{σ : ai}{x:AV}{K:AV->ai->Prop}(hh:y6 σ x K): ∃ v σ',y6 σ x (Is v σ')/\K v σ':=by
 unfold y6 at hh |-;split at hh
 ·exact⟨_,_,⟨rfl,rfl⟩,hh⟩
 ·exact⟨_,_,⟨rfl,rfl⟩,hh⟩
 ·split at hh
  ·exact⟨_,_,⟨hh.1,hh.2.1,hh.2.2.1,rfl,rfl⟩,hh.2.2.2⟩
  exact hh.elim
 exact hh.elim
def gG.det{o:gG}{vs:List AV}{σ : ai}{K Kp:AV->ai->Prop}(hni:o.cls≠ .no)(hh:o.run P vs σ K Kp): ∃ v σ',o.run P vs σ (Is v σ') No/\K v σ':=by
 cases o with
 | inv n=>exact absurd rfl hni
 | pc n=>exact absurd rfl hni
 | A_ n=>exact absurd rfl hni
 | cw n k jC =>
   unfold gG.run at hh |-;split at hh<;>(try (rename_i h;cases h))<;>(try exact hh.elim);obtain⟨r,s2,h1,h2,h3⟩:=hh;exact⟨r,s2,⟨r,s2,h1,h2,rfl,rfl⟩,h3⟩
 | Ry neg =>
   obtain⟨v,h1,h2⟩:=gG.Db (o:= .Ry neg) rfl hh;exact⟨v,σ,by simpa using h1 [],h2⟩
 | xJ el =>
   obtain⟨v,h1,h2⟩:=gG.Db (o:= .xJ el) rfl hh;exact⟨v,σ,by simpa using h1 [],h2⟩
 | yW el lo =>
   obtain⟨v,h1,h2⟩:=gG.Hx (o:= .yW el lo) rfl hh;exact⟨v,σ,h1 _,h2⟩
 | Rz T ok z =>
   obtain⟨v,h1,h2⟩:=gG.Hx (o:= .Rz T ok z) rfl hh;exact⟨v,σ,h1 _,h2⟩
 | s2a n =>
   unfold gG.run at hh |-;split at hh<;>(try (rename_i h;cases h))<;>(try exact hh.elim);obtain⟨v,σ',h1,h2⟩:=afG hh;exact⟨v,σ',h1,h2⟩
 | ahf kd z =>
   unfold gG.run at hh |-;split at hh<;>(try (rename_i h;cases h))<;>(try exact hh.elim);obtain⟨v,σ',h1,h2⟩:=acC hh;exact⟨v,σ',h1,h2⟩
 | ahg =>
   unfold gG.run at hh |-;split at hh<;>(try (rename_i h;cases h))<;>(try exact hh.elim);obtain⟨σ',h1,h2⟩:=acD hh;exact⟨_,σ',K0 (fun s e=>⟨rfl,e⟩) h1,h2⟩
 | clr el z =>
   unfold gG.run at hh |-;split at hh<;>(try (rename_i h;cases h))<;>(try exact hh.elim);obtain⟨σ',h1,h2⟩:=afH hh;exact⟨_,σ',OD (fun s e=>⟨rfl,e⟩) h1,h2⟩
 | ZU =>
   unfold gG.run at hh |-;split at hh<;>(try (rename_i h;cases h))<;>(try exact hh.elim);obtain⟨v,σ',h1,h2⟩:=afK hh;exact⟨v,σ',h1,h2⟩
 | ug el n lo hi =>
   obtain⟨v,h1,h2⟩:=gG.Hx (o:= .ug el n lo hi) rfl hh;exact⟨v,σ,h1 σ,h2⟩
 | vM kd ok zero =>
   obtain⟨v,h1,h2⟩:=gG.Db (o:= .vM kd ok zero) rfl hh;exact⟨v,σ,by simpa using h1 [],h2⟩
 | M1 =>
   obtain⟨v,h1,h2⟩:=gG.Db (o:= .M1) rfl hh;exact⟨v,σ,by simpa using h1 [],h2⟩
 | C2 =>
   obtain⟨v,τ,h1,h2⟩:=gG.K3 (o:= .C2) rfl hh;exact⟨v,_,h1,h2⟩
 | wR kd =>
   unfold gG.run at hh |-;split at hh<;>(try (rename_i h;cases h))<;>(try exact hh.elim);obtain⟨h0,hh⟩:=hh;split at hh
   ·rename_i h1;split at hh
    ·rename_i h2;refine⟨_,_,?_,hh⟩;exact⟨h0,rfl,rfl⟩
    exact hh.elim
   exact hh.elim
 | Ov el lo =>
   have key:∀ {x:AV} {l:Option AV} {h m:AV},Ba σ el x l h m K-> ∃ v σ',Ba σ el x l h m (Is v σ')/\K v σ':=fun {x l h m} hh=>by
    unfold Ba at hh |-;split at hh
    ·obtain⟨a,b,c,h1,h2⟩:=uj hh;exact⟨_,_,jK (fun _ _ _ _=>⟨rfl,rfl⟩) h1,h2⟩
    ·obtain⟨a,b,c,h1,h2⟩:=uj hh.2;exact⟨_,_,⟨hh.1,jK (fun _ _ _ e=>by obtain⟨rfl,rfl,rfl⟩:=e;exact⟨rfl,rfl⟩) h1⟩,h2⟩
    ·obtain⟨h0,hh⟩:=hh;split at hh
     ·rename_i hk;obtain⟨k1,k2,k3,hh⟩:=hh;obtain⟨a,b,c,h1,h2⟩:=uj hh;by_cases e:c=a
      ·rw[au e]at h2;exact⟨_,_,⟨h0,k1,k2,k3,jK (fun _ _ _ e'=>by obtain⟨rfl,rfl,rfl⟩:=e';rw[au e];exact⟨rfl,rfl⟩) h1⟩,h2⟩
      rw[aj e]at h2;exact⟨_,_,⟨h0,k1,k2,k3,jK (fun _ _ _ e'=>by obtain⟨rfl,rfl,rfl⟩:=e';rw[aj e];exact⟨h2.1,rfl,rfl⟩) h1⟩,h2.2⟩
     exact hh.elim
    exact hh.elim
   unfold gG.run at hh |-;split at hh<;>(try (rename_i h;cases h))<;>first|exact key hh|exact hh.elim
 | copy el =>
   unfold gG.run at hh |-;split at hh<;>(try (rename_i h;cases h))<;>(try exact hh.elim)
   ·rename_i x y;obtain⟨ys,h1,h2,h3⟩:=OE hh
    have key:∃ v σ',BU σ el x ys (Is v σ')/\K v σ':=by
     unfold BU at h3 |-;split at h3
     ·exact⟨_,_,⟨rfl,rfl⟩,h3⟩
     ·exact⟨_,_,⟨h3.1,rfl,rfl⟩,h3.2⟩
     ·obtain⟨l,o,o',_,_,_,h4,h5⟩:=Fi h3.2.2;exact⟨_,_,⟨h3.1,h3.2.1,wE (fun s e=>⟨rfl,e⟩) h4⟩,h5⟩
     ·obtain⟨h0,h3⟩:=h3;split at h3
      ·exact⟨_,_,⟨h0,h3.1,h3.2.1,h3.2.2.1,rfl,rfl⟩,h3.2.2.2⟩
      exact h3.elim
     exact h3.elim
    obtain⟨v,σ',h4,h5⟩:=key;exact⟨v,σ',lp (fun ys' (e:ys'=ys)=>by subst e;exact⟨h2,h4⟩) h1,h5⟩
 | Eo el =>
   unfold gG.run at hh |-;split at hh<;>(try (rename_i h;cases h))<;>(try exact hh.elim)
   ·unfold C5 at hh |-;split at hh
    ·obtain⟨h0,hh⟩:=hh;obtain⟨ys,h1,h2,h3⟩:=OE hh;split at h3
     ·rename_i hk;refine⟨_,_,⟨h0,lp (fun ys' (e:ys'=ys)=>⟨e ▸ h2,?_⟩) h1⟩,h3.2.2.2.2⟩;subst e;exact⟨h3.1,h3.2.1,h3.2.2.1,h3.2.2.2.1,rfl,rfl⟩
     exact h3.elim
    exact afJ hh
def bx.D(P:Program)(o:bx)(e:Env)(σ : ai)(v:AV)(σ':ai): Prop :=
 match o.cls with
 | .pu=>(∀ s,o.run P e s (Is v s) No)/\σ' = σ
 | .rd=>(∀ τ,o.run P e (σ++ τ) (Is v (σ++ τ)) No)/\σ' = σ
 | .al=>o.run P e σ (Is v σ') No
 | .st=>o.run P e σ (Is v σ') No
 | .ap=>o.run P e σ (Is v σ') No
 | .cw=>o.run P e σ (Is v σ') No
 | .no=>False
def uk{o:bx}{e:Env}{σ : ai}{K Kp:AV->ai->Prop}{v:AV}{σ':ai}(hK:K v σ')(h:o.run P e σ (Is v σ') No): o.run P e σ K Kp :=
 tW (fun v' s h=>by obtain⟨e1,e2⟩:=h;subst e1;subst e2;exact hK) (fun _ _ h=>False.elim h) h
def ajG{o:bx}{e:Env}{σ : ai}{K Kp:AV->ai->Prop}(hc:o.cls = .cw)(hh:o.run P e σ K Kp): ∃ v σ',o.run P e σ (Is v σ') No/\K v σ':=by
 cases o<;>simp only[bx.cls]at hc<;>(try (cases hc;done))
 case mj=>split at hc<;>cases hc
 case call=>split at hc<;>cases hc
 case ex o xs=>exact gG.det (by rw[hc];decide) (show o.run P (xs.map (AX.ev e)) σ K Kp from hh)
def Hy{o:bx}{e:Env}{σ : ai}{K Kp:AV->ai->Prop}(hc:o.cls≠ .no): o.run P e σ K Kp↔ ∃ v σ',o.D P e σ v σ'/\K v σ':=by
 unfold bx.D;constructor
 ·intro hh;split
  ·rename_i h;obtain⟨v,h1,h2⟩:=Hx h hh;exact⟨v,σ,⟨h1,rfl⟩,h2⟩
  ·rename_i h;obtain⟨v,h1,h2⟩:=Db h hh;exact⟨v,σ,⟨h1,rfl⟩,h2⟩
  ·rename_i h;obtain⟨v,τ,h1,h2⟩:=K3 h hh;exact⟨v,_,h1,h2⟩
  ·rename_i h;exact ajF h hh
  ·rename_i h;exact afd h hh
  ·rename_i h;exact ajG h hh
  rename_i h;exact(hc h).elim
 rintro⟨v,σ',hD,hK⟩;split at hD
 ·obtain⟨h1,rfl⟩:=hD;exact uk hK (h1 _)
 ·obtain⟨h1,rfl⟩:=hD;have h2:=h1 [];rw[bZ]at h2;exact uk hK h2
 ·exact uk hK hD
 ·exact uk hK hD
 ·exact uk hK hD
 ·exact uk hK hD
 exact hD.elim
def VT{o:bx}{e e':Env}{σ : ai}{v:AV}{σ':ai}(h:∀ t ∈ o.uses,e t=e' t)(hD:o.D P e σ v σ'): o.D P e' σ v σ':=by
 unfold bx.D at *;split at hD
 ·exact⟨fun s=>by rw[<-uh h];exact hD.1 s,hD.2⟩
 ·exact⟨fun s=>by rw[<-uh h];exact hD.1 s,hD.2⟩
 ·rw[<-uh h];exact hD
 ·rw[<-uh h];exact hD
 ·rw[<-uh h];exact hD
 ·rw[<-uh h];exact hD
 exact hD.elim
def ahj{o:bx}{e:Env}{σ : ai}{v:AV}{σ':ai}(hc:o.cls = .pu\/o.cls = .rd)(hD:o.D P e σ v σ'): σ' = σ:=by
 unfold bx.D at hD;rcases hc with hc|hc<;>simp only[hc]at hD<;>exact hD.2
def ahk{o:bx}{e:Env}{σ : ai}{v:AV}{σ':ai}(hc:o.cls = .pu\/o.cls = .rd)(hD:o.D P e σ v σ')(τ : ai): o.D P e (σ++ τ) v (σ++ τ):=by
 unfold bx.D at *;rcases hc with hc|hc<;>simp only[hc]at hD |-
 ·exact⟨hD.1,trivial⟩
 exact⟨fun aoM=>by rw[aT];exact hD.1 _,trivial⟩
def ahl{o:bx}{e:Env}{σ : ai}{v:AV}{σ':ai}(hc:o.cls = .pu)(hD:o.D P e σ v σ')(s:ai): o.D P e s v s:=by
 unfold bx.D at *;simp only[hc]at hD |-;exact⟨hD.1,trivial⟩
def alq{o:bx}{e:Env}{σ : ai}{v:AV}{σ':ai}(hc:o.cls = .al)(hD:o.D P e σ v σ'): ∃ τ,σ' = σ++ τ:=by
 unfold bx.D at hD;simp only[hc]at hD;obtain⟨v',τ,_,h⟩:=K3 hc hD;exact⟨τ,h.2.symm⟩
def bx.rW: bx->Option (Option AX)
 | .load _ _ x=>some (some x)
 | .pC .. | .fA ..=>some none
 | _=>none
def bx.tX: bx->Option AX
 | .store _ x _=>some x
 | .tV _ (x::_)=>some x
 | .lC k _ _=>some (.t k)
 | .rU k _ _ _ _=>some (.t k)
 | .rV k _ _ _ _=>some (.t k)
 | .app _ _ x _=>some x
 | _=>none
def sP(p q:AV): Prop:= ∀ l,p.obj=some l->q.obj=some l->False
def VU{σ τ : ai}{l:Nat}{o:aY}(h:l < σ.length): σ.set l o++ τ =(σ++ τ).set l o:=by
 rw[iN _ _ h]
def Ac{σ : ai}{ag:Bool}{n:Nat}{p:AV}{K:AV->Prop}{l:Nat}{o:aY}(h:p.obj≠some l)(hh:ij σ ag n p K): ij (σ.set l o) ag n p K:=by
 unfold ij at *;split at hh
 ·rename_i l' off;have hne:l≠l':=fun e=>h (by rw[e];rfl);rw[aF hne];exact hh
 ·exact hh
 ·rename_i el l' m i off;have hne:l≠l':=fun e=>h (by rw[e];rfl);rw[aF hne];exact hh
 exact hh
def ajH {o : bx} {e : Env} {σ : ai} {v : AV} {σ' : ai} {l : Nat} {ob nO : aY} {rx : Option AX} (hr : o.rW = some rx) (hl : σ[l]? = some ob) (K5 : ob.like nO) (hap : ∀ x, rx = some x -> (x.ev e).obj ≠ some l) (hD : o.D P e σ v σ') :
    o.D P e (σ.set l nO) v (σ.set l nO):=by
 have hlt:l < σ.length:=(aE.1 hl).1;have hc:o.cls = .rd:=by cases o<;>simp[bx.rW]at hr<;>rfl
 unfold bx.D at *;simp only[hc]at hD |-;refine⟨fun τ=>?_,trivial⟩;have h:=hD.1 τ;rw[VU hlt];have hl':(σ++ τ)[l]? = some ob:=j8 τ hl;generalize σ++ τ = s at *;have Fj:l<s.length:=(aE.1 hl').1
 have shape:∀ (k:Nat) (T:Option TypeId) (el:El) (xs:List AV),s[k]? = some (.dn T el xs)-> ∃ ys,(s.set l nO)[k]? = some (.dn T el ys)/\ys.length=xs.length:=fun k T el xs hk=>by
  by_cases x4:l=k
  ·subst x4;rw[hl']at hk;cases hk;obtain⟨ys,rfl,h2⟩:=K5;exact⟨ys,by simp[Fj],h2⟩
  exact⟨xs,by rw[aF x4];exact hk,rfl⟩
 cases o<;>simp only[bx.rW]at hr<;>(try (cases hr;done))<;>simp only[bx.run]at h |-
 case load ag n x =>
  cases hr;exact nh (fun v' h=>⟨h.1,rfl⟩) (Ac (hap x rfl) h)
 case pC el x lo hi =>
  split at h
  ·exact dB (fun _=>dB fun _ h=>⟨h.1,rfl⟩) h
  ·exact⟨h.1,dB (fun _=>dB fun _ h=>⟨h.1,rfl⟩) h.2⟩
  ·refine⟨h.1,?_⟩;have h:=h.2;split at h
   ·rename_i hk;obtain⟨ys,h1,h2⟩:=shape _ _ _ _ hk;simp only[h1,h2];exact⟨h.1,h.2.1,h.2.2.1,dB (fun _=>dB fun _ h=>⟨h.1,rfl⟩) h.2.2.2⟩
   exact h.elim
  exact h
 case fA el arr x i =>
  split at h
  ·split at h
   ·exact⟨h.1,h.2.1,h.2.2.1,h.2.2.2.1,rfl⟩
   ·refine⟨h.1,h.2.1,h.2.2.1,?_⟩;have h:=h.2.2.2;split at h
    ·rename_i hk;obtain⟨ys,h1,h2⟩:=shape _ _ _ _ hk;simp only[h1,h2];exact⟨h.1,h.2.1,h.2.2.1,rfl⟩
    exact h.elim
   ·exact⟨h.1,h.2.1,h.2.2.1,rfl⟩
   ·exact⟨h.1,h.2.1,h.2.2.1,rfl⟩
   ·exact⟨h.1,h.2.1,h.2.2.1,rfl⟩
   exact h.elim
  exact h.elim
def ahm{o:bx}{e:Env}{σ : ai}{v:AV}{σ':ai}(hc:o.cls = .st)(hD:o.D P e σ v σ'): ∃ y l ob nO,o.tX=some y/\σ[l]? = some ob/\ob.like nO/\(y.ev e).obj=some l/\σ' = σ.set l nO:=by
 unfold bx.D at hD;simp only[hc]at hD;cases o<;>simp only[bx.cls]at hc<;>(try (cases hc;done))<;>simp only[bx.run]at hD
 case ex=>exact absurd hc gG.K4.1
 case mj=>split at hc<;>cases hc
 case call=>split at hc<;>cases hc
 case tV f args =>
  split at hD
  ·cases args with
   | nil=>exact hD.elim
   | cons x xs =>
     obtain⟨l,ob,nO,r,h1,h2,h3,_,h5⟩:=hD;exact⟨x,l,ob,nO,rfl,h2,h3,h1,h5.2.symm⟩
  exact hD.elim
 case store n x v =>
  obtain⟨l,ob,nO,h1,h2,h3,_,h5⟩:=Fi hD;exact⟨x,l,ob,nO,rfl,h1,h2,h3,h5.2.symm⟩
 case lC k T cs =>
  split at hD
  ·rename_i n h1;split at hD
   ·rename_i h2;refine⟨.t k,n,.resv,.bY T cs,rfl,h2,trivial,?_,hD.2.symm⟩;simp only[AX.ev,h1,AV.obj]
   exact hD.elim
  exact hD.elim
 case rU k T el x y =>
  split at hD
  ·rename_i n h1;split at hD
   ·rename_i h2;split at hD
    ·refine⟨.t k,n,.resv,.dn T el _,rfl,h2,trivial,?_,hD.2.2.2.2.symm⟩;simp only[AX.ev,h1,AV.obj]
    exact hD.elim
   exact hD.elim
  exact hD.elim
 case rV k el z x y =>
  split at hD
  ·rename_i n h1;split at hD
   ·rename_i h2;split at hD
    ·refine⟨.t k,n,.resv,.vec el _,rfl,h2,trivial,?_,hD.2.2.2.2.2.symm⟩;simp only[AX.ev,h1,AV.obj]
    exact hD.elim
   exact hD.elim
  exact hD.elim
def bx.Re: bx->Option Nat
 | .lC k _ _=>some k
 | .rU k _ _ _ _=>some k
 | .rV k _ _ _ _=>some k
 | _=>none
def afe {o : bx} {k : Nat} {e : Env} {σ : ai} {v : AV} {σ' : ai} (h : o.Re = some k) (hD : o.D P e σ v σ') :
    ∃ n ob,e k = .ref n 0/\σ[n]? = some .resv/\ob≠ .resv/\σ' = σ.set n ob/\ ∀ s:ai,s[n]? = some .resv->o.D P e s v (s.set n ob):=by
 cases o<;>simp[bx.Re]at h
 case lC k' T cs =>
  subst h;have hD:bx.run P (.lC k' T cs) e σ (Is v σ') No:=hD;simp only[bx.run]at hD;split at hD
  ·rename_i n h1;split at hD
   ·rename_i h2;refine⟨n,_,h1,h2,aQ,hD.2.symm,fun s hs=>?_⟩;show bx.run P (.lC k' T cs) e s (Is v _) No;simp only[bx.run,h1,hs];exact⟨hD.1,rfl⟩
   exact hD.elim
  exact hD.elim
 case rU k' T el x y =>
  subst h;have hD:bx.run P (.rU k' T el x y) e σ (Is v σ') No:=hD;simp only[bx.run]at hD;split at hD
  ·rename_i n h1;split at hD
   ·rename_i h2;split at hD
    ·rename_i ys h3;refine⟨n,_,h1,h2,aQ,hD.2.2.2.2.symm,fun s hs=>?_⟩;show bx.run P (.rU k' T el x y) e s (Is v _) No;simp only[bx.run,h1,hs,h3];exact⟨hD.1,hD.2.1,hD.2.2.1,hD.2.2.2.1,rfl⟩
    exact hD.elim
   exact hD.elim
  exact hD.elim
 case rV k' el z x y =>
  subst h;have hD:bx.run P (.rV k' el z x y) e σ (Is v σ') No:=hD;simp only[bx.run]at hD;split at hD
  ·rename_i n h1;split at hD
   ·rename_i h2;split at hD
    ·rename_i i m h3 h4;refine⟨n,_,h1,h2,aQ,hD.2.2.2.2.2.symm,fun s hs=>?_⟩;show bx.run P (.rV k' el z x y) e s (Is v _) No;simp only[bx.run,h1,hs,h3,h4];exact⟨hD.1,hD.2.1,hD.2.2.1,hD.2.2.2.1,hD.2.2.2.2.1,rfl⟩
    exact hD.elim
   exact hD.elim
  exact hD.elim
def bx.qC: bx->Option AX
 | .load _ _ x=>some x
 | .pC _ x _ _=>some x
 | .fA _ _ x _=>some x
 | _=>none
def K6{o:bx}{x:AX}(h:o.qC=some x): o.cls = .rd:=by
 cases o<;>simp[bx.qC]at h<;>rfl
def VW{o:bx}{e:Env}{σ : ai}{v:AV}{σ':ai}{x:AX}{l:Nat}{ob:aY}(hr:o.qC=some x)(hlt:l < σ.length)(hne:(x.ev e).obj≠some l)(hD:o.D P e σ v σ'): o.D P e (σ.set l ob) v (σ.set l ob):=by
 have hc:=K6 hr;unfold bx.D at *;simp only[hc]at hD |-;refine⟨fun τ=>?_,trivial⟩;have h:=hD.1 τ;rw[VU hlt];generalize σ++ τ = s at *;cases o<;>simp only[bx.qC]at hr<;>(try (cases hr;done))<;>cases hr<;>simp only[bx.run]at h |-
 case load ag n =>
  exact nh (fun v' h=>⟨h.1,rfl⟩) (Ac hne h)
 case pC el lo hi =>
  split at h
  ·exact dB (fun _=>dB fun _ h=>⟨h.1,rfl⟩) h
  ·exact⟨h.1,dB (fun _=>dB fun _ h=>⟨h.1,rfl⟩) h.2⟩
  ·rename_i bD l' m o n hx;have acF:l≠l':=fun e=>hne (by rw[hx,e];rfl);refine⟨h.1,?_⟩;have h:=h.2;rw[aF acF];split at h
   ·rename_i hk;simp only[hk];exact⟨h.1,h.2.1,h.2.2.1,dB (fun _=>dB fun _ h=>⟨h.1,rfl⟩) h.2.2.2⟩
   exact h.elim
  exact h
 case fA el arr i =>
  split at h
  ·split at h
   ·exact⟨h.1,h.2.1,h.2.2.1,h.2.2.2.1,rfl⟩
   ·rename_i bD l' m o n hx;have acF:l≠l':=fun e=>hne (by rw[hx,e];rfl);refine⟨h.1,h.2.1,h.2.2.1,?_⟩;have h:=h.2.2.2;rw[aF acF];split at h
    ·rename_i hk;simp only[hk];exact⟨h.1,h.2.1,h.2.2.1,rfl⟩
    exact h.elim
   ·exact⟨h.1,h.2.1,h.2.2.1,rfl⟩
   ·exact⟨h.1,h.2.1,h.2.2.1,rfl⟩
   ·exact⟨h.1,h.2.1,h.2.2.1,rfl⟩
   exact h.elim
  exact h.elim
def alr{o:bx}{e:Env}{σ : ai}{v:AV}{σ':ai}(hc:o.cls = .ap)(hD:o.D P e σ v σ'): ∃ y,o.tX=some y/\((∃ τ,σ' = σ++ τ)\/ ∃ l ob,l < σ.length/\(y.ev e).obj=some l/\σ' = σ.set l ob):=by
 unfold bx.D at hD;simp only[hc]at hD;cases o<;>simp only[bx.cls]at hc<;>(try (cases hc;done))<;>simp only[bx.run]at hD
 case ex=>exact absurd hc gG.K4.2
 case mj=>split at hc<;>cases hc
 case call=>split at hc<;>cases hc
 case app T el x y =>
  refine⟨x,rfl,?_⟩
  have key:∀ ys:List AV,(match x.ev e with
   | .aV=>if ys.length=0 then Is v σ' .aV σ else gH ys.length el/\Is v σ' (.own el σ.length ys.length 0 ys.length) (σ++[.dn T el ys])
   | .aR true bD xs=>bD=el/\if ys.length=0 then Is v σ' (.aR true el xs) σ else gH (xs.length+ys.length) el/\Is v σ' (.own el σ.length (xs.length+ys.length) 0 (xs.length+ys.length)) (σ++[.dn T el (xs++ys)])
   | .own bD l m lo n => bD = el /\ match σ[l]? with
     | some (.dn T' bN xs)=>(T'=none\/T'=T)/\bN=el/\m=xs.length/\lo=0/\n=xs.length/\gH (xs.length+ys.length) el/\Is v σ' (.own el l (xs.length+ys.length) 0 (xs.length+ys.length)) (σ.set l (.dn T' el (xs++ys)))
     | _=>False
   | _=>False)->(∃ τ,σ' = σ++ τ)\/ ∃ l ob,l < σ.length/\(x.ev e).obj=some l/\σ' = σ.set l ob:=fun ys h=>by
   split at h
   ·split at h
    ·exact .inl ⟨[],by rw[bZ];exact h.2.symm⟩
    exact .inl ⟨_,h.2.2.symm⟩
   ·have h:=h.2;split at h
    ·exact .inl ⟨[],by rw[bZ];exact h.2.symm⟩
    exact .inl ⟨_,h.2.2.symm⟩
   ·rename_i bD l m lo n hx;have h:=h.2;split at h
    ·rename_i hk;exact .inr ⟨l,_,(aE.1 hk).1,by rw[hx];rfl,h.2.2.2.2.2.2.2.symm⟩
    exact h.elim
   exact h.elim
  unfold oY gN at hD;split at hD
  ·exact key _ hD.2
  ·exact key _ hD.2.2
  ·have hD:=hD.2;split at hD
   ·exact key _ hD.2.2.2
   exact hD.elim
  ·exact key _ hD.2.2
  ·obtain⟨u,_,h2⟩:=vN hD.2.2;exact key _ h2.2
  exact hD.elim
end Go.AM
namespace Go.AM
def yh: Value->Option AV
 | .bool b=>some (.bool b)
 | .int k n=>some (.int k n)
 | .string s=>some (.str s.data.toList)
 | .pointer none=>some .gO
 | .slice none l c=>if l=0/\c=0 then some .aV else none
 | .map none=>some .iS
 | .nilFunc=>some .nQ
 | .nilIface=>some .jR
 | _=>none
def K7: List Value->Option (List AV)
 | []=>some []
 | v :: vs => match yh v, K7 vs with
   | some a,some az=>some (a::az)
   | _,_=>none
def Z0: Value->Option AV
 | .agg cs=>(K7 cs.toList).map .agg
 | v=>yh v
def cX(nt:Nat): Operand->Option AX
 | .tmp t=>if t<nt then some (.t t)else none
 | .const v=>(Z0 v).map .c
 | .func f=>some (.c (.fn (.func f) [] []))
 | .global _=>none
def Fk(nt:Nat): List Operand->Option (List AX)
 | []=>some []
 | x :: xs => match cX nt x, Fk nt xs with
   | some a,some az=>some (a::az)
   | _,_=>none
def VX(nt:Nat): Option Operand->Option (Option AX)
 | none=>some none
 | some x=>(cX nt x).map some
def qZ{α : Type}(nt:Nat)(at_:Nat->Option α): List (Nat × Operand)->Option (List (α × AX))
 | []=>some []
 | (i, x) :: r => match at_ i, cX nt x, qZ nt at_ r with
   | some p,some a,some az=>some ((p,a)::az)
   | _,_,_=>none
section
variable (P:Program)
def mV(t:TypeId): Option Bool :=
 match P.underlying t with
 | some (.struct _)|some (.array _ _)=>some true
 | some _=>some false
 | none=>none
def kr(t:TypeId): Option El :=
 match mV P t,P.info? t with
 | some ag,some i=>if(ag || i.size==1) && i.bytes<=24*(i.size+1) && i.size<=1000 && i.zero.any (fun v=>v.cells.size==i.size)then some ⟨ag,i.size⟩else none
 | _,_=>none
def mq(t:TypeId): Option AV:=(P.info? t).bind fun i=>i.zero.bind Z0
def wF(fk:TypeId->Option (List Kd)): Nat->List Field->Option (List Kd)
 | _,[]=>some []
 | off, f :: fs => if f.name == "_" || f.offset != off then none else match fk f.type, P.info? f.type with
   | some ks,some i=>if i.size==ks.length then(wF fk (off+ks.length) fs).map (ks++ ·)else none
   | _,_=>none
def pE: (d:Nat)->TypeId->Option (List Kd)
 | 0,_=>none
 | d + 1, t => match P.underlying t with
   | some .bool=>some [.b]
   | some (.int _)=>some [.i]
   | some .string=>some [.s]
   | some (.struct fs)=>if P.stoodInHeld t then none else wF P (pE d) 0 fs.toList
   | some (.array n e) => match pE d e, P.info? e with
     | some ks,some i=>if i.size==ks.length && P.cellsOf e==ks.length then some (List.replicate n ks).flatten else none
     | _,_=>none
   | _=>none
structure Hints where
 mt:List Nat:=[]
 Jp:List Nat:=[]
 ahn:List (Nat × El):=[]
 tys:List Nat:=[]
 mth:List Nat:=[]
 rsv:List (Nat × Nat):=[]
def BV(b:Bool)(t:TypeId): Option TypeId:=if b then some t else none
def Fl(b:Bool)(t:TypeId): BV b t=none\/BV b t=some t:=by cases b<;>simp[BV]
def pJ: Operand->Bool
 | .const (.slice none l c)=>l==0 && c==0
 | _=>false
def lU: Operand->Bool
 | .const (.pointer none) | .const .nilIface | .const .nilFunc | .const (.map none)=>true
 | _=>false
def M3: TypeDesc->Option NK
 | .pointer _=>some .p
 | .interface _=>some .i
 | .func ..=>some .f
 | .map ..=>some .m
 | _=>none
def Hz: TypeDesc->Option (Option IntKind)
 | .string=>some none
 | .int k=>some (some k)
 | _=>none
def aff: Operand->Option FuncId
 | .func f => match P.funcs[f]? with
   | some fn=>if fn.body.isNone then some f else none
   | none=>none
 | _=>none
def Z1(m q:Bool)(f:AX)(args:List AX): bx:=if m then .tV f args else .call q f args
def afg(d:Bool)(el:El)(lo:Bool): gG:=if d then .yW el lo else .Ov el lo
def Fm: Option Nat->List Nat->Bool
 | some d,l=>l.contains d
 | none,_=>false
def XE(h:Hints): Option Nat->List (Nat × El)
 | some d=>h.ahn.filterMap fun(k,el)=>if k / 100000=d+1 then some (k % 100000,el)else none
 | none=>[]
def acG(l:List (Nat × El))(m q:Bool)(f:AX)(args:List AX): bx:=match l,f with
 | _::_,.c (.fn (.func n) [] [])=> .ex (.cw n args.length []) args
 | _,_=>Z1 m q f args
def ajI(h:Hints): Option Nat->Bool
 | some d=>h.mth.contains (200000+d)
 | none=>false
def acH(p:Bool)(l:List (Nat × El))(m q:Bool)(f:AX)(args:List AX): bx:=match p,f with
 | true,.c (.fn (.func n) [] [])=> .ex (.pc n) args
 | _,_=>acG l m q f args
def wU(nt:Nat)(h:Hints)(draw:Bool)(o:Oper): Option bx :=
 let has (l:List Nat):Bool:=match o.dst with
  | some d=>l.contains d
  | none=>false
 let vec:Option El:=match o.dst with
  | some d=>h.ahn.lookup d
  | none=>none
 match o.op with
 | .move x=>(cX nt x).map fun a=>if !draw && Fm o.dst h.Jp then .ex .ZU [a]else .mv a
 | .assign x => match vec with
   | some el=>if pJ x then some (.lE el)else (cX nt x).map .mv
   | none=>(cX nt x).map .mv
 | .pick c a b => match cX nt c, cX nt a, cX nt b with
   | some c,some a,some b=>some (.pick c a b)
   | _,_,_=>none
 | .alloc t => match mq P t with
   | some z=>if z.cells.all AV.scalar then some (.alloc (BV (has h.tys) t) z.cells)else none
   | none=>none
 | .box t x=>(cX nt x).map fun ax=>if Fm o.dst h.tys then .y4 t ax else .box ax
 | .build t parts => match mq P t, P.underlying t with
   | some z, some (.struct fs) =>
     if fs.toList.all (fun f=>(P.info? f.type).isSome) && z.cells.all AV.scalar then
      (qZ nt (fun i=>(fs[i]?).map fun f=>(f.offset,P.cellsOf f.type)) parts.toList).map fun ps=> .build z.cells (ps.map fun p=>(p.1.1,p.1.2,p.2))
     else none
   | some z, some (.array _ el) =>
     if(P.info? el).isSome && z.cells.all AV.scalar then
      (qZ nt (fun i=>some (i*P.cellsOf el,P.cellsOf el)) parts.toList).map fun ps=> .build z.cells (ps.map fun p=>(p.1.1,p.1.2,p.2))
     else none
   | _,_=>none
 | .buildSlice t n parts => match P.underlying t with
   | some (.slice e) => match kr P e, mq P e with
     | some el,some z=>if n*el.sz<=2^24 && z.fits el then(qZ nt some parts.toList).map fun ps=> .mj (has h.mt) el z n ps else none
     | _,_=>none
   | _=>none
 | .load t a => match mV P t, P.info? t, cX nt a with
   | some ag,some i,some x=>if ag || i.size==1 then some (.load ag i.size x)else none
   | _,_,_=>none
 | .store t a v => match P.info? t, cX nt a, cX nt v with
   | some i,some x,some y=>some (.store i.size x y)
   | _,_,_=>none
 | .nilCheck x=>(cX nt x).map .tG
 | .binOp op t x y _ => match cX nt x, cX nt y with
   | some a, some b =>
     match P.underlying t with
     | some (.int _)|some .string=>some (.bin op a b)
     | some (.slice _) => if pJ y then (match op with
        | .eql=>if !draw && Fm o.dst h.Jp then some (.ex (.A_ false) [a])else none
        | .neq=>if !draw && Fm o.dst h.Jp then some (.ex (.A_ true) [a])else none
        | _=>none)else none
     | some d =>
       match M3 d with
       | some k =>
         if k == .p && !(lU x || lU y)then
          match d with
          | .pointer te => match P.info? te, op with
            | some _,.eql=>some (.Il false a b)
            | some _,.neq=>some (.Il true a b)
            | _,_=>none
          | _=>none
         else if lU x || lU y then
          match op with
          | .eql=>some (.n_ false k a b)
          | .neq=>some (.n_ true k a b)
          | _=>none
         else none
       | none =>
       match pE P 12 t,mV P t,P.info? t with
       | some ks, some ag, some i =>
         if i.size==ks.length && (!ag || !P.eqGuardType P.depth t)then
          match op with
          | .eql=>some (.nw false ag ks a b)
          | .neq=>some (.nw true ag ks a b)
          | _=>none
         else none
       | _,_,_=>none
     | none=>none
   | _,_=>none
 | .unOp op _ x=>(cX nt x).map (.un op)
 | .convert s d x => match P.underlying s, P.underlying d, cX nt x with
   | some (.int _),some (.int k),some a=>some (.jX k a)
   | some .string,some .string,some a=>some (.VQ a)
   | some (.slice e), some .string, some a => match P.underlying e, P.info? e with
     | some (.int .u8),some i=>if i.size==1 then some (.yX a)else none
     | _,_=>none
   | some (.pointer t), some .unsafePointer, some a => match P.info? t with
     | some i=>if i.size==0 then none else some (.KX a)
     | none=>none
   | some .unsafePointer, some (.pointer t), some a => match P.info? t with
     | some _=>some (.KY t a)
     | none=>none
   | _,_,_=>none
 | .makeInterface t x => match P.underlying t with
   | some (.interface _)|none=>none
   | _=>(cX nt x).map (.wC t)
 | .makeFunc fn first cap => match Fk nt first.toList, Fk nt cap.toList with
   | some a,some b=>some (.tU fn a b)
   | _,_=>none
 | .slice t x lo hi mx => match cX nt x, VX nt lo, VX nt hi, VX nt mx with
   | some a, some l, some h, some m =>
     match P.underlying t with
     | some .string=>if m.isNone then some (.yY a l h)else none
     | some (.slice e) => match m, h with
       | none,_=>(kr P e).map fun el=> .pC el a l h
       | some mx,some hi=>(kr P e).map fun el=> .ex (afg draw el l.isSome) (a::l.toList++[hi,mx])
       | _,_=>none
     | some (.array n e)=>if m.isNone then(kr P e).map fun el=> .ex (.ug el n l.isSome h.isSome) (a::l.toList++h.toList)else none
     | _=>none
   | _,_,_,_=>none
 | .fieldAddr s x f => match P.underlying s, cX nt x with
   | some (.struct fs),some a=>(fs[f]?).bind fun fi=>if((P.info? fi.type).map (·.size)).getD 0==0 then none else some (.rT fi.offset a)
   | _,_=>none
 | .field s x f => match P.underlying s, cX nt x with
   | some (.struct fs), some a => (fs[f]?).bind fun fi => match mV P fi.type, P.info? fi.type with
     | some ag,some i=>if ag || i.size==1 then some (.field ag fi.offset i.size a)else none
     | _,_=>none
   | _,_=>none
 | .indexAddr t x i => match P.underlying t, cX nt x, cX nt i with
   | some (.slice e),some a,some b=>(kr P e).map fun el=> .fA el none a b
   | some (.array n e),some a,some b=>(kr P e).map fun el=> .fA el (some n) a b
   | _,_,_=>none
 | .index t x i => match P.underlying t, cX nt x, cX nt i with
   | some .string,some a,some b=>some (.oW a b)
   | some (.array n e),some a,some b=>(kr P e).map fun el=> .yZ el n a b
   | _,_,_=>none
 | .extract x i=>(cX nt x).map fun a=> .ext a i
 | .makeSlice t l c => match P.underlying t, cX nt l, cX nt c with
   | some (.slice e), some a, some b => match kr P e, mq P e with
     | some el,some z=>some (.oX el z a b)
     | _,_=>none
   | _,_,_=>none
 | .panic x=>(cX nt x).map .panic
 | .makeMap t none=>some (.ex .C2 [])
 | .lookup t x k ok => match P.underlying t, cX nt x, cX nt k with
   | some (.map key elem), some a, some b => match (P.underlying key).bind Hz, mq P elem with
     | some kd,some z=>some (.ex (.vM kd ok z) [a,b])
     | _,_=>none
   | _,_,_=>none
 | .mapUpdate t m k v | .insert t m k v => match P.underlying t, cX nt m, cX nt k, cX nt v with
   | some (.map key _), some a, some b, some c => match (P.underlying key).bind Hz with
     | some kd=>some (.ex (.wR kd) [a,b,c])
     | none=>none
   | _,_,_,_=>none
 | .mapEntry _ _ _=>none
 | .entryStore _ _ _ _=>none
 | .sliceToArrayPointer _ _=>none
 | .typeAssert x _ T ok => match P.underlying T with
   | some (.interface _)=>none
   | none=>none
   | some _ => match cX nt x, mq P T with
     | some a,some z=>some (.ex (.Rz T ok z) [a])
     | _,_=>none
 | .range t x => match P.underlying t with
   | some .string=>(cX nt x).map .Jj
   | _=>none
 | .next x b=>if b then(cX nt x).map .Jk else none
 | .call c => match c.callee with
   | .value f => match aff P f, cX nt f, Fk nt c.args.toList with
     | some g,_,some [a]=>some (.Hu g a)
     | _,some a,some az=>some (acH (draw && ajI h o.dst) (if draw then XE h o.dst else []) (draw && has h.mth) (if draw then !has h.Jp else has h.Jp) a az)
     | _,_,_=>none
   | .invoke _ _=>none
   | .builtin .len => match c.argTypes[0]?, c.args.toList with
     | some t, [x] => match P.underlying t with
       | some .string=>(cX nt x).map (.len true)
       | some (.slice _)=>(cX nt x).map (.len false)
       | _=>none
     | _,_=>none
   | .builtin .append => match c.argTypes[0]?, c.argTypes[1]?, c.args.toList with
     | some t, some u, [x, y] => match P.underlying t, P.underlying u, cX nt x, cX nt y with
       | some (.slice e),some (.slice _),some a,some b=>(kr P e).map fun el=>if Fm o.dst h.mt then .ex (.Eo el) [a,b]else if Fm o.dst h.Jp then .ex (.xJ el) [a,b]else (.app (BV (has h.tys) e) el a b)
       | some (.slice e),some .string,some a,some b=>(kr P e).map fun el=>if Fm o.dst h.mt then .ex (.Eo el) [a,b]else .app (BV (has h.tys) e) el a b
       | _,_,_,_=>none
     | _,_,_=>none
   | .builtin .copy => match c.argTypes[0]?, c.args.toList with
     | some t, [x, y] => match P.underlying t, cX nt x, cX nt y with
       | some (.slice e),some a,some b=>(kr P e).map fun el=> .ex (.copy el) [a,b]
       | _,_,_=>none
     | _,_=>none
   | .builtin .unsafeSliceData => match c.argTypes[0]?, c.args.toList with
     | some t, [x] => match P.underlying t, cX nt x with
       | some (.slice e),some a=>(kr P e).map fun el=> .Ep el a
       | _,_=>none
     | _,_=>none
   | .builtin .unsafeString => match c.argTypes.toList, c.args.toList with
     | [t, _], [x, y] => match P.underlying t, cX nt x, cX nt y with
       | some (.pointer e),some a,some b=>if P.cellsOf e==1 then some (.y3 e a b)else none
       | _,_,_=>none
     | _,_=>none
   | .builtin .min => match Fk nt c.args.toList with
     | some (a::az)=>some (.min a az)
     | _=>none
   | .builtin .max => match Fk nt c.args.toList with
     | some (a::az)=>some (.max a az)
     | _=>none
   | _=>none
 | _=>none
end
structure iJ (nt:Nat) (g:aN) (w:World) (e:Env) (tmps:Array Value):Prop where
 size:tmps.size=nt
 rel:∀ t,t<nt->VR g w (e t) (tmps.getD t Go.undef)
def iJ.mono{nt:Nat}{g g':aN}{w w':World}{e:Env}{tmps:Array Value}(h:iJ nt g w e tmps)(hm:kH g w g' w'): iJ nt g' w' e tmps :=
 ⟨h.size,fun t ht=>(h.rel t ht).mono hm⟩
def iJ.put{nt:Nat}{g:aN}{w:World}{e:Env}{a:Act}(h:iJ nt g w e a.tmps)(d:Option Nat){x:AV}{v:Value}(hv:VR g w x v): iJ nt g w (eV e d x) (a.put d v).tmps:=by
 cases d with
 | none=>exact h
 | some d =>
   refine⟨by simp[Act.put,h.size],fun t ht=>?_⟩;simp only[eV,Act.put];by_cases e1:t=d
   ·subst e1;have:t<a.tmps.size:=by rw[h.size];exact ht
    simp[this,hv]
   have:=h.rel t ht;simp only[aj e1];simpa[Array.getElem?_setIfInBounds_ne (Ne.symm e1)]using this
def OF{v:Value}{a:AV}(h:yh v=some a)(g:aN)(w:World): VR g w a v/\a.scalar=true:=by
 cases v<;>simp only[yh]at h
 case bool b=>cases h;exact⟨.bool b,rfl⟩
 case int k n=>cases h;exact⟨.int k n,rfl⟩
 case string s=>cases h;exact⟨by simpa using VR.str (g:=g) (w:=w) s.data.toList,rfl⟩
 case pointer p=>cases p<;>simp[yh]at h;subst h;exact⟨.gO,rfl⟩
 case slice p l c =>
  cases p with
  | none =>
    simp only[yh]at h;split at h
    ·rename_i e;obtain⟨rfl,rfl⟩:=e;cases h;exact⟨.aV,rfl⟩
    ·cases h
  | some p=>simp[yh]at h
 case map p=>cases p<;>simp[yh]at h;subst h;exact⟨.iS,rfl⟩
 case nilFunc=>cases h;exact⟨.nQ,rfl⟩
 case nilIface=>cases h;exact⟨.jR,rfl⟩
 all_goals cases h
def XF {vs : List Value} {az : List AV} (h : K7 vs = some az) (g : aN) (w : World) :
    az.length=vs.length/\az.all AV.scalar=true/\ ∀ i,i<az.length->VR g w (az.getD i .undef) (vs.getD i Go.undef):=by
 induction vs generalizing az with
 | nil=>cases h;exact⟨rfl,rfl,fun i hi=>absurd hi (Nat.not_lt_zero _)⟩
 | cons v vs ih =>
   simp only[K7]at h;split at h
   ·rename_i a az' h1 h2;cases h;obtain⟨i1,i2,i3⟩:=ih h2;obtain⟨j1,j2⟩:=OF h1 g w;refine⟨by simp[i1],by simpa[j2]using i2,fun i hi=>?_⟩;cases i with
    | zero=>simpa using j1
    | succ i=>simpa using i3 i (by simpa using hi)
   ·cases h
def M5{v:Value}{a:AV}(h:Z0 v=some a)(g:aN)(w:World): VR g w a v/\a.cells.all AV.scalar=true:=by
 by_cases hv:∃ cs,v = .agg cs
 ·obtain⟨cs,rfl⟩:=hv;simp only[Z0,bj]at h;obtain⟨az,h1,rfl⟩:=h;obtain⟨i1,i2,i3⟩:=XF h1 g w;exact⟨.agg az cs (by simpa using i1) i2 (fun i hi=>by simpa using i3 i hi),i2⟩
 have h':yh v=some a:=by
  cases v<;>simp only[Z0]at h<;>first|exact h|exact absurd ⟨_,rfl⟩ hv
 obtain⟨j1,j2⟩:=OF h' g w;refine⟨j1,?_⟩;cases a<;>simp[AV.scalar]at j2<;>simp[AV.cells,AV.scalar]
def c9{nt:Nat}{x:Operand}{ax:AX}{g:aN}{w:World}{e:Env}{a:Act}(h:cX nt x=some ax)(hE:iJ nt g w e a.tmps): VR g w (ax.ev e) (a.eval x):=by
 cases x with
 | tmp t =>
   simp only[cX]at h;split at h
   ·cases h;exact hE.rel t ‹_›
   ·cases h
 | const v =>
   simp only[cX,bj]at h;obtain⟨b,h1,rfl⟩:=h;exact(M5 h1 g w).1
 | global n=>cases h
 | func f=>cases h;exact .fn _ [] [] #[] #[] rfl rfl (fun i hi=>absurd hi (Nat.not_lt_zero _)) (fun i hi=>absurd hi (Nat.not_lt_zero _))
def afL {nt : Nat} {xs : List Operand} {az : List AX} {g : aN} {w : World} {e : Env} {a : Act} (h : Fk nt xs = some az) (hE : iJ nt g w e a.tmps) :
    az.length=xs.length/\ ∀ i,i<az.length->VR g w ((az.map (AX.ev e)).getD i .undef) ((xs.map a.eval).getD i Go.undef):=by
 induction xs generalizing az with
 | nil=>cases h;exact⟨rfl,fun i hi=>absurd hi (Nat.not_lt_zero _)⟩
 | cons x xs ih =>
   simp only[Fk]at h;split at h
   ·rename_i b bs h1 h2;cases h;obtain⟨i1,i2⟩:=ih h2;refine⟨by simp[i1],fun i hi=>?_⟩;cases i with
    | zero=>simpa using c9 h1 hE
    | succ i=>simpa using i2 i (by simpa using hi)
   ·cases h
def Qs{v:Value}(h:v.oneCell'=true): v.cells = #[v]:=by
 cases v<;>first|rfl|(simp[Value.oneCell']at h;done)
def nx {g : aN} {w : World} {a : AV} {v : Value} (h : VR g w a v) (hs : a.cells.all AV.scalar = true) :
    a.cells.length=v.cells.size/\ ∀ i,i<a.cells.length->VR g w (a.cells.getD i .undef) (v.cells.getD i Go.undef):=by
 by_cases hv:∃ cs,a = .agg cs
 ·obtain⟨cs,rfl⟩:=hv;cases h with
  | agg cs vs hl hs h=>exact⟨hl,h⟩
 have hc:a.cells=[a]:=by cases a<;>first|rfl|exact absurd ⟨_,rfl⟩ hv
 rw[hc]at hs;have hsc:a.scalar=true:=by simpa using hs
 have h1:=Qs (h.Hs hsc);rw[hc,h1];refine⟨rfl,fun i hi=>?_⟩;have:i=0:=by simpa using hi
 subst this;simpa using h
def yj{cs:List AV}(h:cs.all AV.scalar=true){i:Nat}(hi:i<cs.length): (cs.getD i .undef).scalar=true:=by
 have:=bf.1 h (cs[i]) (dI _);simpa[hi]using this
def bX(P:Program)(s:Sem Value)(g:aN)(w:World)(σ : ai)(K:AV->ai->Prop): Prop :=
 ∃ v w' g' av σ',s.run P w = .ok v w'/\Rel g' w' σ'/\gE σ g w σ' g' w'/\VR g' w' av v/\K av σ'
def bX.pure {P : Program} {s : Sem Value} {g : aN} {w : World} {σ : ai} {K : AV -> ai -> Prop} {v : Value} {av : AV} (hR : Rel g w σ) (h : s.run P w = .ok v w) (hv : VR g w av v) (hk : K av σ) :
    bX P s g w σ K:=⟨v,w,g,av,σ,h,hR,.refl _ _ _,hv,hk⟩
section
variable {P:Program} {g:aN} {w:World} {σ : ai} {K:AV->ai->Prop}
def run_typeInfo{t:TypeId}{i:TypeInfo}(h:P.info? t=some i)(w:World): (typeInfo t).run P w = .ok i w:=by
 simp[typeInfo,h]
def bn{t:TypeId}{d:TypeDesc}(h:P.underlying t=some d)(w:World): (underlying t).run P w = .ok d w:=by
 simp[underlying,h]
def ep{t:TypeId}{i:TypeInfo}(h:P.info? t=some i)(w:World): (sizeOf t).run P w = .ok i.size w:=by
 simp[sizeOf,run_typeInfo h]
def kR{t:TypeId}{b:Bool}(h:mV P t=some b)(w:World): (isAgg t).run P w = .ok b w:=by
 unfold mV at h;split at h
 ·rename_i hu;cases h;simp[isAgg,bn hu]
 ·rename_i hu;cases h;simp[isAgg,bn hu]
 ·rename_i d h1 h2 hu;cases h;simp only[isAgg,Sem.run_bind,bn hu,Result.andThen_ok];cases d<;>first|rfl|exact absurd hu (h1 _)|exact absurd hu (h2 _ _)
 ·cases h
def y7{t:TypeId}{z:AV}(h:mq P t=some z)(w:World): ∃ v,(zeroValue t).run P w = .ok v w/\ ∀ g w,VR g w z v/\z.cells.all AV.scalar=true:=by
 unfold mq at h;cases hi:P.info? t with
 | none=>simp[hi]at h
 | some i =>
   simp only[hi,Option.bind_some]at h;cases hz:i.zero with
   | none=>simp[hz]at h
   | some v =>
     simp only[hz,Option.bind_some]at h;exact⟨v,by simp[zeroValue,run_typeInfo hi,hz],fun g w=>M5 h g w⟩
def q8(w:World)(vs:Array Value)(t:TypeId): Row (w.alloc (.cells vs t)) w.heap.size vs:=by
 refine⟨t,(0,0),heap_alloc_new w _,fun i _=>?_⟩;exact World.frozen?_alloc_new w vs t i
def Fo (hR : Rel g w σ) (t : TypeId) {cs : List AV} {vs : Array Value} (hs : cs.all AV.scalar = true) (hl : cs.length = vs.size)
    (h:∀ i,i<cs.length->VR g w (cs.getD i .undef) (vs.getD i Go.undef))
    (T : Option TypeId) (hT : T = none \/ T = some t) : ∃ g', Rel g' (w.alloc (.cells vs t)) (σ ++ [.bY T cs]) /\ gE σ g w (σ ++ [.bY T cs]) g' (w.alloc (.cells vs t)) /\
      VR g' (w.alloc (.cells vs t)) (.ref σ.length 0) (.pointer (some ⟨w.heap.size,0,none⟩)):=by
 have hm:=mH g w (.cells vs t) 1 (some w.heap.size) 0 hR.lt
 have hty:yV (w.alloc (.cells vs t)) w.heap.size cs.length T:=by
  rcases hT with rfl|rfl
  ·trivial
  have:(w.alloc (.cells vs t)).heap[w.heap.size]? = some (.cells vs t):=by show(w.heap.push _)[w.heap.size]? = _;simp
  simp only[yV,World.shape?,this,hl]
 obtain⟨h1,h2⟩:=hR.tT (.cells vs t) (.bY T cs) 1 0
  ⟨by simp[aN.push],hs,w.heap.size,vs,by simp[aN.push],q8 w vs t,hl.symm,fun i hi=>(h i hi).mono hm,hty⟩
 refine⟨_,h1,h2,.ref _ _ _ ⟨by simp[aN.push,hR.len],_,rfl,fun _=>⟨by simp[aN.push,hR.len],rfl⟩⟩⟩
def Ux {t : TypeId} {T : Option TypeId} (hT : T = none \/ T = some t) {z : AV} (hR : Rel g w σ) (hz : mq P t = some z) (hK : K (.ref σ.length 0) (σ ++ [.bY T z.cells])) :
    bX P (Instr.alloc t true (.tuple #[])) g w σ K:=by
 obtain⟨v,h1,h2⟩:=y7 hz w;obtain⟨h3,h4⟩:=h2 g w;obtain⟨h5,h6⟩:=nx h3 h4;obtain⟨g',r1,r2,r3⟩:=Fo hR t h4 h5 h6 T hT;refine⟨_,_,g',_,_,?_,r1,r2,r3,hK⟩;simp[Instr.alloc,h1,newVar,newRow]
def Z2 {t : TypeId} {a : AV} {v : Value} (hR : Rel g w σ) (hv : VR g w a v) (hs : a.cells.all AV.scalar = true) (hK : K (.ref σ.length 0) (σ ++ [.cells a.cells])) :
    bX P (Instr.box t v) g w σ K:=by
 obtain⟨h5,h6⟩:=nx hv hs;obtain⟨g',r1,r2,r3⟩:=Fo hR t hs h5 h6 none (.inl rfl);refine⟨_,_,g',_,_,?_,r1,r2,r3,hK⟩;simp[Instr.box,newVar,newRow]
def XG {t : TypeId} {a : AV} {v : Value} (hR : Rel g w σ) (hv : VR g w a v) (hs : a.cells.all AV.scalar = true) (hK : K (.ref σ.length 0) (σ ++ [.bY (some t) a.cells])) :
    bX P (Instr.box t v) g w σ K:=by
 obtain⟨h5,h6⟩:=nx hv hs;obtain⟨g',r1,r2,r3⟩:=Fo hR t hs h5 h6 (some t) (.inr rfl);refine⟨_,_,g',_,_,?_,r1,r2,r3,hK⟩;simp[Instr.box,newVar,newRow]
def run_loadCells {b o : Nat} {n : Nat} (hc : ∀ c, c < n -> (w.cell? ⟨b, o + c, none⟩).isSome = true) :
    ∀(i:Nat) (acc:Array Value) (m:Nat),i+m=n->(loadCellsFrom ⟨b,o,none⟩ i m acc).run P w = .ok (acc++((List.range' i m).map fun c=>eT w ⟨b,o+c,none⟩).toArray) w:=by
 intro i acc m
 induction m generalizing i acc with
 | zero=>intro _;simp[loadCellsFrom]
 | succ m ih =>
   intro hi;have h1:=hc i ae
   have ha:(⟨b,o,none⟩:Addr).add i=⟨b,o+i,none⟩:=by
    unfold Addr.add;split
    ·rename_i h0;subst h0;rfl
    rfl
   obtain⟨v,hv⟩:=gD.1 h1;simp only[loadCellsFrom,Sem.run_bind,run_load,ha,hv,Result.andThen_ok];rw[ih (i+1) (acc.push v) ae];simp[List.range'_succ,eT,hv]
def Jq {t : TypeId} {ag : Bool} {i : TypeInfo} {b o : Nat} (hA : mV P t = some ag) (hi : P.info? t = some i) (h1 : ag = false -> i.size = 1)
    (hc:∀ c,c<i.size->(w.cell? ⟨b,o+c,none⟩).isSome=true) :
    (loadVar t ⟨b,o,none⟩).run P w = .ok (if ag then .agg ((List.range i.size).map fun c=>eT w ⟨b,o+c,none⟩).toArray else eT w ⟨b,o,none⟩) w:=by
 cases ag with
 | true =>
   have:=run_loadCells (P:=P) hc 0 #[] i.size ae;simp[loadVar,kR hA,ep hi,loadCells,this,jt]
 | false =>
   have h2:=hc 0 (by rw[h1 rfl];omega);obtain⟨v,hv⟩:=gD.1 h2;simp only[eZ]at hv;simp[loadVar,kR hA,hv,eT]
end
section
variable {P:Program} {g:aN} {w:World} {σ : ai} {K:AV->ai->Prop}
def Jr {g : aN} {w : World} {ag : Bool} {n : Nat} {b o : Nat} {cs : List AV} (h1 : ag = false -> n = 1) (hl : cs.length = n) (hs : ag = true -> cs.all AV.scalar = true)
    (h:∀ c,c<n->VR g w (cs.getD c .undef) (eT w ⟨b,o+c,none⟩)) :
    VR g w (if ag then .agg cs else cs.getD 0 .undef) (if ag then .agg ((List.range n).map fun c=>eT w ⟨b,o+c,none⟩).toArray else eT w ⟨b,o,none⟩):=by
 cases ag with
 | true =>
   refine .agg cs _ (by simp[hl]) (hs rfl) (fun i hi=>?_);have:=h i ae;have h2:i<n:=ae;simpa[h2]using this
 | false =>
   have:=h 0 (by rw[h1 rfl];omega);simpa using this
def je{cs:List AV}{off n c:Nat}(hc:c<n): ((cs.drop off).take n).getD c .undef=cs.getD (off+c) .undef:=by
 simp[hc]
def qf{cs:List AV}(h:cs.all AV.scalar=true)(off n:Nat): ((cs.drop off).take n).all AV.scalar=true:=by
 rw[bf]at h |-;exact fun x hx=>h x (ju (List.mem_of_mem_take hx))
def M6{el:El}{x:AV}(h:x.fits el=true)(ha:el.ag=false): el.sz=1:=by
 cases x<;>simp_all[AV.fits]
def XH {g : aN} {w : World} {el : El} {x : AV} {b o : Nat} (hel : el.ag = false -> el.sz = 1) (ft : x.fits el = true)
    (h:∀ c,c<el.sz->VR g w (x.cell c) (eT w ⟨b,o+c,none⟩)) :
    VR g w x (if el.ag then .agg ((List.range el.sz).map fun c=>eT w ⟨b,o+c,none⟩).toArray else eT w ⟨b,o,none⟩):=by
 by_cases hx:∃ cs,x = .agg cs
 ·obtain⟨cs,rfl⟩:=hx;simp only[AV.fits,aD,beq_iff_eq]at ft;obtain⟨⟨h1,h2⟩,h3⟩:=ft;have:=Jr (g:=g) (w:=w) (ag:=el.ag) (n:=el.sz) (b:=b) (o:=o) (cs:=cs) hel h2 (fun _=>h3) h;rw[h1]at this |-;simpa using this
 have hag:el.ag=false:=by
  cases x<;>first
   | exact absurd ⟨_,rfl⟩ hx
   |(simp only[AV.fits,aD,ey]at ft;exact ft.1)
   | cases ft
 have h0:=h 0 (by rw[hel hag];omega);have hc:x.cell 0=x:=by cases x<;>first|rfl|exact absurd ⟨_,rfl⟩ hx
 rw[hc]at h0;rw[hag];simpa using h0
def K8 {t : TypeId} {ag : Bool} {i : TypeInfo} {el : El} {x : AV} {b o off : Nat} (hel : el.ag = false -> el.sz = 1) (hA : mV P t = some ag) (hi : P.info? t = some i) (h1 : ag = false -> i.size = 1)
    (ft:x.fits el=true) (hc:∀ c,c<el.sz->(w.cell? ⟨b,o+c,none⟩).isSome=true)
    (h:∀ c,c<el.sz->VR g w (x.cell c) (eT w ⟨b,o+c,none⟩)) {K:AV->Prop} (hK:partOf el x off ag i.size K) :
    ∃ v av,(loadVar t ⟨b,o+off,none⟩).run P w = .ok v w/\VR g w av v/\K av:=by
 unfold partOf at hK;split at hK
 ·rename_i e;obtain⟨rfl,e2,rfl⟩:=e;refine⟨_,x,Jq hA hi h1 (fun c mh=>hc c ae),?_,hK⟩;have:=XH hel ft h;rw[<-e2]at this;simpa using this
 obtain⟨h2,h3⟩:=hK;cases x<;>simp only at h3
 case agg cs =>
  obtain⟨h4,h5⟩:=h3;simp only[AV.fits,aD,beq_iff_eq]at ft;obtain⟨⟨_,hl⟩,hs⟩:=ft;have e:∀ c,(⟨b,o+off+c,none⟩:Addr)=⟨b,o+(off+c),none⟩:=fun c=>by rw[dG]
  refine⟨_,_,Jq hA hi h1 (fun c mh=>by rw[e];exact hc (off+c) ae),?_,h4⟩
  have:=Jr (g:=g) (w:=w) (ag:=ag) (n:=i.size) (b:=b) (o:=o+off) (cs:=(cs.drop off).take i.size) h1 (by simp;omega) (fun _=>qf hs _ _)
   (fun c mh=>by rw[je mh,e];exact h (off+c) ae)
  cases ag with
  | true=>simpa using this
  | false =>
    rw[h1 rfl]at this;have e0:((cs.drop off).take 1).getD 0 .undef=cs.getD off .undef:=by rw[je ae];rfl
    simp only[aP,if_false]at this |-;rw[e0]at this;exact this
def OG {t : TypeId} {ag : Bool} {i : TypeInfo} {p : AV} {v : Value} (hR : Rel g w σ) (hA : mV P t = some ag) (hi : P.info? t = some i) (h1 : ag = false -> i.size = 1)
    (hv:VR g w p v)
    {K:AV->Prop} (hK:ij σ ag i.size p K):∃ u av,(Instr.loadAt t v).run P w = .ok u w/\VR g w av u/\K av:=by
 cases hv<;>simp only[ij]at hK
 case ref l off h =>
  obtain⟨hl,A,rfl,x5⟩:=h;split at hK
  ·rename_i cs hcs;obtain⟨k1,k2,k3⟩:=hK;obtain⟨o1,o2,b,vs,o3,o4,o5,o6,_⟩:=hR.ok l _ hcs;obtain⟨a1,a2⟩:=x5 o1;have hb:A.block=b:=by rw[a1]at o3;cases o3;rfl
   rw[a2,hb];have hcell:∀ c,c<i.size->w.cell? ⟨b,off+c,none⟩=some (vs.getD (off+c) Go.undef):=fun c hc=>o4.cell ae;have hD:∀ c,c<i.size->eT w ⟨b,off+c,none⟩=vs.getD (off+c) Go.undef:=fun c hc=>by simp[eT,hcell c hc]
   have hrun:=Jq (P:=P) (w:=w) (b:=b) (o:=off) hA hi h1 (fun c hc=>by simp[hcell c hc]);refine⟨_,_,by simpa[Instr.loadAt,Instr.sureAddr]using hrun,?_,k3⟩
   have:=Jr (g:=g) (w:=w) (ag:=ag) (n:=i.size) (b:=b) (o:=off) (cs:=(cs.drop off).take i.size) h1 (by simp;omega) (fun _=>qf o2 _ _)
    (fun c hc=>by rw[je hc,hD c hc];exact o6 (off+c) ae)
   cases ag with
   | true=>simpa using this
   | false =>
     rw[h1 rfl]at this;have e0:((cs.drop off).take 1).getD 0 .undef=cs.getD off .undef:=by rw[je ae];rfl
     simp only[aP,if_false]at this |-;rw[e0]at this;exact this
  exact hK.elim
 case fh el x off b o hi' ft hc h =>
  have hel:el.ag=false->el.sz=1:=M6 ft;obtain⟨v,av,r1,r2,r3⟩:=K8 (P:=P) hel hA hi h1 ft hc h hK;exact⟨_,_,by simpa[Instr.loadAt,Instr.sureAddr]using r1,r2,r3⟩
 case fG el l m j off h =>
  obtain⟨hl,hm,A,rfl,x5⟩:=h;split at hK
  ·rename_i bD xs hxs;obtain⟨rfl,rfl,k3,k4⟩:=hK;obtain⟨o1,o2,o3⟩:=hR.ok l _ hxs;rcases o3 with⟨rfl,_,_⟩|⟨b,vs,b1,b2,b3,b4,b5,_⟩
   ·exact absurd k3 (dm _)
   obtain⟨a1,a2⟩:=x5 o1.symm;have hb:A.block=b:=by rw[a1]at b1;cases b1;rfl
   rw[a2,hb]
   have hlt:∀ c,c<bD.sz->g.off l+j*bD.sz+c<vs.size:=fun c hc=>by
    rw[b3];have:j*bD.sz+bD.sz<=g.cap l*bD.sz:=by rw[<-eH];exact bR _ ae
    omega
   have hcell:∀ c,c<bD.sz->w.cell? ⟨b,g.off l+j*bD.sz+c,none⟩=some (vs.getD (g.off l+j*bD.sz+c) Go.undef):=fun c hc=>b2.cell (hlt c hc);have hsome:∀ c,c<bD.sz->(w.cell? ⟨b,g.off l+j*bD.sz+c,none⟩).isSome=true:=fun c hc=>by rw[hcell c hc];rfl
   have hD:∀ c,c<bD.sz->eT w ⟨b,g.off l+j*bD.sz+c,none⟩=vs.getD (g.off l+j*bD.sz+c) Go.undef:=fun c hc=>by unfold eT;rw[hcell c hc];rfl
   obtain⟨v,av,r1,r2,r3⟩:=K8 (P:=P) (g:=g) (b:=b) (o:=g.off l+j*bD.sz) (M6 (o2 j k3)) hA hi h1 (o2 j k3) hsome
    (fun c hc=>by rw[hD c hc];exact b5 j c k3 hc) k4
   exact⟨_,_,by simpa[Instr.loadAt,Instr.sureAddr]using r1,r2,r3⟩
  exact hK.elim
def K9 {n : Nat} {p : AV} {A : Addr} (hR : Rel g w σ) (hv : VR g w p (.pointer (some A))) {K : AV -> Prop} (hK : ij σ true n p K) :
    ∃ b o cs,A=⟨b,o,none⟩/\cs.length=n/\cs.all AV.scalar=true/\K (.agg cs)/\(∀ c,c<n->(w.cell? ⟨b,o+c,none⟩).isSome=true)/\ ∀ c,c<n->VR g w (cs.getD c .undef) (eT w ⟨b,o+c,none⟩):=by
 have part:∀ {el:El} {x:AV} {b o off:Nat},x.fits el=true->(∀ c,c<el.sz->(w.cell? ⟨b,o+c,none⟩).isSome=true)->(∀ c,c<el.sz->VR g w (x.cell c) (eT w ⟨b,o+c,none⟩))->partOf el x off true n K ->
  ∃ cs,cs.length=n/\cs.all AV.scalar=true/\K (.agg cs)/\(∀ c,c<n->(w.cell? ⟨b,o+off+c,none⟩).isSome=true)/\ ∀ c,c<n->VR g w (cs.getD c .undef) (eT w ⟨b,o+off+c,none⟩):=by
  intro el x b o off ft hc h hK;unfold partOf at hK;split at hK
  ·rename_i e;obtain⟨rfl,rfl,e3⟩:=e;cases x<;>simp only[AV.fits,<-e3,Bool.not_true,Bool.false_and,Bool.true_and,Bool.false_eq_true,Bool.and_eq_true,beq_iff_eq]at ft;exact⟨_,ft.1,ft.2,hK,hc,h⟩
  obtain⟨h2,h3⟩:=hK;cases x<;>simp only at h3
  case agg cs =>
   simp only[AV.fits,aD,beq_iff_eq]at ft;obtain⟨⟨_,hl⟩,hs⟩:=ft;refine⟨(cs.drop off).take n,by simp;omega,qf hs _ _,by simpa using h3.1,fun c mh=>by rw[dG];exact hc _ ae,fun c mh=>?_⟩;rw[je mh,dG];exact h (off+c) ae
 cases hv<;>simp only[ij]at hK
 case ref l off h =>
  obtain⟨hl,A',e,x5⟩:=h;cases e;split at hK
  ·rename_i cs hcs;obtain⟨k1,_,k3⟩:=hK;obtain⟨o1,o2,b,vs,o3,o4,o5,o6,_⟩:=hR.ok l _ hcs;obtain⟨a1,a2⟩:=x5 o1;have hb:A.block=b:=by rw[a1]at o3;cases o3;rfl
   rw[hb]at a2;have hcell:∀ c,c<n->w.cell? ⟨b,off+c,none⟩=some (vs.getD (off+c) Go.undef):=fun c hc=>o4.cell ae;refine⟨b,off,(cs.drop off).take n,a2,by simp;omega,qf o2 _ _,by simpa using k3,fun c hc=>by rw[hcell c hc];rfl,fun c hc=>?_⟩;rw[je hc];have:eT w ⟨b,off+c,none⟩=vs.getD (off+c) Go.undef:=by simp[eT,hcell c hc]
   rw[this];exact o6 (off+c) ae
  exact hK.elim
 case fh el x off b o hi' ft hc h =>
  obtain⟨cs,h1,h2,h3,h4,h5⟩:=part ft hc h hK;exact⟨b,o+off,cs,rfl,h1,h2,h3,h4,h5⟩
 case fG el l m j off h =>
  obtain⟨hl,hm,A',e,x5⟩:=h;cases e;split at hK
  ·rename_i bD xs hxs;obtain⟨rfl,rfl,k3,k4⟩:=hK;obtain⟨o1,o2,o3⟩:=hR.ok l _ hxs;rcases o3 with⟨rfl,_,_⟩|⟨b,vs,b1,b2,b3,b4,b5,_⟩
   ·exact absurd k3 (dm _)
   obtain⟨a1,a2⟩:=x5 o1.symm;have hb:A.block=b:=by rw[a1]at b1;cases b1;rfl
   rw[hb]at a2
   have hlt:∀ c,c<bD.sz->g.off l+j*bD.sz+c<vs.size:=fun c hc=>by
    rw[b3];have:j*bD.sz+bD.sz<=g.cap l*bD.sz:=by rw[<-eH];exact bR _ ae
    omega
   have hcell:∀ c,c<bD.sz->w.cell? ⟨b,g.off l+j*bD.sz+c,none⟩=some (vs.getD (g.off l+j*bD.sz+c) Go.undef):=fun c hc=>b2.cell (hlt c hc);have hD:∀ c,c<bD.sz->eT w ⟨b,g.off l+j*bD.sz+c,none⟩=vs.getD (g.off l+j*bD.sz+c) Go.undef:=fun c hc=>by unfold eT;rw[hcell c hc];rfl
   obtain⟨cs,h1,h2,h3,h4,h5⟩:=part (b:=b) (o:=g.off l+j*bD.sz) (o2 j k3) (fun c hc=>by rw[hcell c hc];rfl) (fun c hc=>by rw[hD c hc];exact b5 j c k3 hc) k4;exact⟨b,_,cs,a2,h1,h2,h3,h4,h5⟩
  exact hK.elim
def XI {t : TypeId} {ag : Bool} {i : TypeInfo} {p : AV} {v : Value} (hR : Rel g w σ) (hA : mV P t = some ag) (hi : P.info? t = some i) (h1 : ag = false -> i.size = 1)
    (hv:VR g w p v) (hK:ij σ ag i.size p fun v=>K v σ):bX P (Instr.loadAt t v) g w σ K:=by
 obtain⟨u,av,r1,r2,r3⟩:=OG (P:=P) hR hA hi h1 hv hK;exact bX.pure hR r1 r2 r3
end
section
variable {P:Program} {g:aN} {w:World} {σ : ai} {K:AV->ai->Prop}
def add_plain(b o n:Nat): (⟨b,o,none⟩:Addr).add n=⟨b,o+n,none⟩:=by
 unfold Addr.add;split
 ·rename_i h;subst h;rfl
 rfl
def rX {b o : Nat} : ∀ (us : List Value) (w : World) (vs : Array Value) (i : Nat), Row w b vs -> o + i + us.length <= vs.size -> (∀ u ∈ us, u.oneCell' = true) ->
    (storeCells ⟨b,o,none⟩ us i).run P w = .ok () (setRow w b (o+i) us):=by
 intro us
 induction us with
 | nil=>intro w vs i _ _ _;rfl
 | cons u us ih =>
   intro w vs i hr hl h1;simp only[aO]at hl;have hc:=hr.cell (i:=o+i) ae;obtain⟨T,fz,_,hf⟩:=id hr;simp only[storeCells,Sem.run_bind,add_plain];rw[run_store P w _ u .plain (h1 u (List.mem_cons_self ..)),hc];simp only[hf (o+i) ae,aP,if_false,Result.andThen_ok];rw[ih _ (vs.setIfInBounds (o+i) u) (i+1) (hr.set (o+i) u) (by simp;omega) (fun x hx=>h1 x (dz _ hx))];rfl
def jL(cs:List AV)(i:Nat)(az:List AV): (fM cs i az).length=cs.length:=by
 induction az generalizing cs i with
 | nil=>rfl
 | cons a az ih=>simp[fM,ih]
def q9 (cs : List AV) (i : Nat) (az : List AV) (hi : i + az.length <= cs.length) (j : Nat) :
    (fM cs i az).getD j .undef=if i<=j/\j<i+az.length then az.getD (j-i) .undef else cs.getD j .undef:=by
 induction az generalizing cs i with
 | nil=>simp[fM];intro h1 h2;omega
 | cons a az ih =>
   simp only[aO]at hi;rw[fM,ih (cs.set i a) (i+1) (by simp;omega)];by_cases h1:i+1<=j/\j<i+1+az.length
   ·rw[au h1,au (by simp only[aO];omega)];obtain⟨k,rfl⟩:∃ k,j=i+1+k:=⟨j-(i+1),ae⟩;rw[show i+1+k-(i+1)=k by omega,show i+1+k-i=k+1 by omega];simp
   rw[aj h1];by_cases h2:j=i
   ·subst h2;rw[au (by simp only[aO];omega)];have hlt:j<cs.length:=ae;simp[hlt]
   rw[aj (by simp only[aO];omega)];simp[aF (Ne.symm h2)]
def Bc{cs:List AV}(h:cs.all AV.scalar=true)(i:Nat){az:List AV}(ha:az.all AV.scalar=true): (fM cs i az).all AV.scalar=true:=by
 induction az generalizing cs i with
 | nil=>exact h
 | cons a az ih =>
   simp only[List.all_cons,aD]at ha;refine ih ?_ (i+1) ha.2;rw[bf]at h |-;intro x hx;rcases List.mem_or_eq_of_mem_set hx with hx|rfl
   ·exact h x hx
   exact ha.1
def RB{g:aN}{w:World}{a:AV}{v:Value}(h:VR g w a v)(hs:a.cells.all AV.scalar=true): ∀ u ∈ v.cells.toList,u.oneCell'=true:=by
 obtain⟨h1,h2⟩:=nx h hs;intro u hu;obtain⟨i,hi,rfl⟩:=List.mem_iff_getElem.1 hu;simp at hi;have:=(h2 i ae).Hs (yj hs ae);simpa[hi]using this
def Io {n : Nat} {p x : AV} {v : Value} {us : List Value} {Kσ : ai -> Prop} (hR : Rel g w σ) (hv : VR g w p v) (c1 : x.cells.length = us.length)
    (c2:∀ i,i<x.cells.length->VR g w (x.cells.getD i .undef) (us.getD i Go.undef)) (h1:∀ u ∈ us,u.oneCell'=true)
    (hK:oe σ n p x Kσ) :
    ∃ A w' g' σ',v = .pointer (some A)/\(storeCells A us).run P w = .ok () w'/\Rel g' w' σ'/\gE σ g w σ' g' w'/\Kσ σ':=by
 obtain⟨hn,hs,hK⟩:=hK;cases hv<;>simp only at hK
 case ref l off h =>
  obtain⟨hl,A,rfl,x5⟩:=h;split at hK
  ·rename_i T cs hcs;obtain⟨k1,k2⟩:=hK;obtain⟨o1,o2,b,vs,o3,o4,o5,o6,o7⟩:=hR.ok l _ hcs;obtain⟨a1,a2⟩:=x5 o1;have hb:A.block=b:=by rw[a1]at o3;cases o3;rfl
   have hrun:=rX (P:=P) (b:=b) (o:=off) us w vs 0 o4 (by simp;omega) h1;obtain⟨f1,f2,f3,f4,f5⟩:=qY w b (off+0) us
   obtain⟨r1,r2⟩:=hR.update (o':= .bY T (fM cs off x.cells)) hcs rfl o3 f1 f2 f3 f4 f5
    (fun hm => ⟨o1, Bc o2 _ hs, b, _, o3, o4.setRow (off + 0) _, by rw [size_putRow, jL]; exact o5, fun j hj => by
      rw[jL]at hj;rw[q9 _ _ _ ae,oI _ _ _ (by simp;omega)];simp only[eZ,<-c1];split
      ·rename_i hh;have:=(c2 (j-off) ae).mono hm;simpa using this
      ·exact(o6 j hj).mono hm,by
       cases T with
       | none=>trivial
       | some T=>rw[jL];exact(uC _ _ _ _ _).trans o7⟩)
   refine⟨A,_,g,_,rfl,?_,r1,r2,k2⟩;rw[a2,hb];simpa using hrun
  exact hK.elim
 case fG el l m j off h =>
  obtain⟨hl,hm,A,rfl,x5⟩:=h;split at hK
  ·rename_i T bD xs hxs;obtain⟨rfl,rfl,k3,k4,k5,k6⟩:=hK;obtain⟨o1,o2,o3⟩:=hR.ok l _ hxs;rcases o3 with⟨rfl,_,_⟩|⟨b,vs,b1,b2,b3,b4,b5,b6⟩
   ·exact absurd k3 (dm _)
   obtain⟨a1,a2⟩:=x5 o1.symm;have hb:A.block=b:=by rw[a1]at b1;cases b1;rfl
   have hrow:g.off l+j*bD.sz+bD.sz<=vs.size:=by
    rw[b3];have:j*bD.sz+bD.sz<=g.cap l*bD.sz:=by rw[<-eH];exact bR _ ae
    omega
   have hrun:=rX (P:=P) (b:=b) (o:=g.off l+j*bD.sz+off) us w vs 0 b2 (by simp;omega) h1;obtain⟨f1,f2,f3,f4,f5⟩:=qY w b (g.off l+j*bD.sz+off+0) us;have hfit:=o2 j k3
   have hnew:(if bD.ag then AV.agg (fM (xs.getD j .undef).cells off x.cells)else x).fits bD=true /\
    ∀ c,c<bD.sz->(if bD.ag then AV.agg (fM (xs.getD j .undef).cells off x.cells)else x).cell c=(if off<=c/\c<off+n then x.cells.getD (c-off) .undef else(xs.getD j .undef).cell c):=by
    cases hag:bD.ag with
    | true =>
      generalize hy:xs.getD j .undef=y at hfit;cases y<;>simp only[AV.fits,hag,Bool.not_true,Bool.false_and,Bool.true_and,Bool.and_eq_true,beq_iff_eq,Bool.false_eq_true]at hfit
      case agg cs =>
       refine⟨?_,fun c hc=>?_⟩
       ·show(bD.ag && (fM cs off x.cells).length==bD.sz && (fM cs off x.cells).all AV.scalar)=true;rw[hag,jL,Bc hfit.2 off hs,hfit.1];simp
       show(fM cs off x.cells).getD c .undef=_;rw[q9 _ _ _ ae,hn];rfl
    | false =>
      have hx:=k5 hag;have hsz:=M6 hfit hag
      have qg:x.cells=[x]/\ ∀ c,x.cell c=x:=by
       cases x<;>first
        |(simp[AV.fits,hag]at hx;done)
        | exact⟨rfl,fun _=>rfl⟩
      have hn1:n=1:=by rw[<-hn,qg.1];rfl
      refine⟨by simpa using hx,fun c hc=>?_⟩;have h0:c=0/\off=0:=ae;obtain⟨rfl,rfl⟩:=h0;rw[aj aQ,qg.2,au ae,qg.1];rfl
   obtain⟨n1,n2⟩:=hnew;generalize (if bD.ag then AV.agg (fM (xs.getD j .undef).cells off x.cells)else x)=y at n1 n2 k6
   obtain⟨r1,r2⟩:=hR.update (o':= .dn T bD (xs.set j y)) hxs rfl b1 f1 f2 f3 f4 f5
    (fun hm => ⟨by simpa using o1, fun i' hi' => by
      simp only[dN]at hi';by_cases e:i'=j
      ·subst e;simpa[k3]using n1
      ·have:=o2 i' hi';simpa[aF (Ne.symm e)]using this,
      .inr ⟨b,_,b1,b2.setRow _ _,by rw[size_putRow];exact b3,by simpa using b4,fun i' c hi' hc=>by
       simp only[dN]at hi';rw[oI _ _ _ (by simp;omega)];simp only[eZ,<-c1,hn];by_cases e:i'=j
       ·subst e;rw[show (xs.set i' y).getD i' .undef=y by simp[k3],n2 c hc];by_cases h2:off<=c/\c<off+n
        ·rw[au h2,au ae,show g.off l+i'*bD.sz+c-(g.off l+i'*bD.sz+off)=c-off by omega];have:=(c2 (c-off) ae).mono hm;simpa using this
        rw[aj h2,aj ae];exact(b5 i' c hi' hc).mono hm
       ·rw[show (xs.set j y).getD i' .undef=xs.getD i' .undef by simp[aF (Ne.symm e)]]
        have hne:¬ (g.off l+j*bD.sz+off<=g.off l+i'*bD.sz+c/\g.off l+i'*bD.sz+c<g.off l+j*bD.sz+off+n):=by
         rintro⟨q1,q2⟩;rcases Nat.lt_or_gt_of_ne e with h2|h2
         ·have:(i'+1)*bD.sz<=j*bD.sz:=bR _ h2;rw[eH]at this;omega
         have:(j+1)*bD.sz<=i'*bD.sz:=bR _ h2;rw[eH]at this;omega
        rw[aj hne];exact(b5 i' c hi' hc).mono hm,by
       cases T with
       | none=>trivial
       | some T=>rw[size_putRow];exact⟨(uC _ _ _ _ _).trans b6.1,b6.2⟩⟩⟩)
   refine⟨A,_,g,_,rfl,?_,r1,r2,k6⟩;rw[a2,hb];simpa using hrun
  exact hK.elim
def Uy {t : TypeId} {i : TypeInfo} {p x : AV} {v u : Value} (hR : Rel g w σ) (hi : P.info? t = some i) (hv : VR g w p v) (hu : VR g w x u)
    (hK:oe σ i.size p x fun σ'=>K (.bU []) σ') :
    ∃ w' g' σ',(Instr.storeAt t v u).run P w = .ok () w'/\Rel g' w' σ'/\gE σ g w σ' g' w'/\K (.bU []) σ':=by
 obtain⟨c1,c2⟩:=nx hu hK.2.1;obtain⟨A,w',g',σ',rfl,h2,h3,h4,h5⟩:=Io (P:=P) (us:=u.cells.toList) hR hv (by simpa using c1) (fun i hi=>by simpa using c2 i hi) (RB hu hK.2.1) hK;refine⟨w',g',σ',?_,h3,h4,h5⟩;have hn:=hK.1;simp only[Instr.storeAt,Instr.sureAddr,Sem.run_bind,Sem.run_pure,Result.andThen_ok,storeVar,ep hi];have e1:¬ u.cells.size≠i.size:=ae;simp only[aj e1,Sem.run_pure,Result.andThen_ok];exact h2
end
section
variable {P:Program} {g:aN} {w:World} {σ : ai} {K:AV->ai->Prop}
def RC(l:List UInt8): (⟨l.toArray⟩:ByteArray).toList=l:=by
 have key:∀ (n:Nat) (b:ByteArray) (i:Nat) (r:List UInt8),b.size-i=n->ByteArray.toList.loop b i r=r.reverse++b.data.toList.drop i:=by
  intro n
  induction n with
  | zero =>
    intro b i r h;unfold ByteArray.toList.loop;rw[aj ae]
    have:b.data.toList.length<=i:=by
     have:b.data.toList.length=b.size:=by rw[ff];rfl
     omega
    rw[List.drop_eq_nil_of_le this,bZ]
  | succ n ih =>
    intro b i r h;have hi:i<b.size:=ae;unfold ByteArray.toList.loop;rw[au hi,ih b (i+1) _ ae];have hi':i<b.data.toList.length:=by rw[ff];exact hi
    have hi2:i<b.data.size:=hi;rw[dZ hi',List.reverse_cons,aT,cJ]
    congr 2
    show b.data[i]! = _;rw[getElem!_pos b.data i hi2];simp
 have:=key _ ⟨l.toArray⟩ 0 [] rfl;simpa[ByteArray.toList]using this
def Fp (t : TypeId) (k : IntKind) (n m : Int) (w : World) :
    (binOp .add t (.int k n) (.int k m)).run P w = .ok (.int k (dw k (n+m))) w/\(binOp .sub t (.int k n) (.int k m)).run P w = .ok (.int k (dw k (n-m))) w /\
    (binOp .mul t (.int k n) (.int k m)).run P w = .ok (.int k (dw k (n*m))) w:=by
 simp[binOp,Op.intArith,dw]
def VY (t : TypeId) (k : IntKind) (n m : Int) (w : World) (h : m ≠ 0) :
    (binOp .quo t (.int k n) (.int k m)).run P w = .ok (.int k (dw k (n.tdiv m))) w/\(binOp .rem t (.int k n) (.int k m)).run P w = .ok (.int k (n.tmod m)) w:=by
 simp[binOp,Op.intDiv,dw,h]
def Dc (t : TypeId) (k : IntKind) (n m : Int) (w : World) :
    (binOp .and t (.int k n) (.int k m)).run P w = .ok (.int k (od .and k n m)) w/\(binOp .or t (.int k n) (.int k m)).run P w = .ok (.int k (od .or k n m)) w /\
    (binOp .xor t (.int k n) (.int k m)).run P w = .ok (.int k (od .xor k n m)) w/\(binOp .andNot t (.int k n) (.int k m)).run P w = .ok (.int k (od .andNot k n m)) w:=by
 simp[binOp,Op.intBits,od]
def OH (t : TypeId) (k k' : IntKind) (n m : Int) (w : World) (h : 0 <= m) :
    (binOp .shl t (.int k n) (.int k' m)).run P w = .ok (.int k (dw k (n*2 ^ (Nat.min m.toNat k.bits)))) w/\(binOp .shr t (.int k n) (.int k' m)).run P w = .ok (.int k (n.fdiv (2 ^ (Nat.min m.toNat k.bits)))) w:=by
 have h1:¬ m<0:=ae;simp[binOp,Op.shift,dw,h1,Nat.min_def]
def yJ (t : TypeId) (k : IntKind) (n m : Int) (w : World) :
    (binOp .eql t (.int k n) (.int k m)).run P w = .ok (.bool (n==m)) w/\(binOp .neq t (.int k n) (.int k m)).run P w = .ok (.bool (!(n==m))) w /\
    (binOp .lss t (.int k n) (.int k m)).run P w = .ok (.bool (decide (n<m))) w/\(binOp .leq t (.int k n) (.int k m)).run P w = .ok (.bool (decide (n<=m))) w /\
    (binOp .gtr t (.int k n) (.int k m)).run P w = .ok (.bool (decide (m<n))) w/\(binOp .geq t (.int k n) (.int k m)).run P w = .ok (.bool (decide (m<=n))) w:=by
 simp[binOp,Op.intCmp,bne]
def yK (t : TypeId) (s u : List UInt8) (w : World) :
    (binOp .eql t (.string ⟨s.toArray⟩) (.string ⟨u.toArray⟩)).run P w = .ok (.bool (s==u)) w/\(binOp .neq t (.string ⟨s.toArray⟩) (.string ⟨u.toArray⟩)).run P w = .ok (.bool (!(s==u))) w /\
    (binOp .lss t (.string ⟨s.toArray⟩) (.string ⟨u.toArray⟩)).run P w = .ok (.bool (Op.bytesLess s u)) w/\(binOp .leq t (.string ⟨s.toArray⟩) (.string ⟨u.toArray⟩)).run P w = .ok (.bool (Op.bytesLess s u || s==u)) w /\
    (binOp .gtr t (.string ⟨s.toArray⟩) (.string ⟨u.toArray⟩)).run P w = .ok (.bool (!(Op.bytesLess s u || s==u))) w/\(binOp .geq t (.string ⟨s.toArray⟩) (.string ⟨u.toArray⟩)).run P w = .ok (.bool (!Op.bytesLess s u)) w:=by
 simp[binOp,Op.stringOp,RC]
def afM (t : TypeId) (s u : List UInt8) (w : World) (h : ((s.length + u.length : Nat) : Int) <= IntKind.i64.max) :
    (binOp .add t (.string ⟨s.toArray⟩) (.string ⟨u.toArray⟩)).run P w = .ok (.string ⟨(s++u).toArray⟩) w:=by
 have h1:¬ (((⟨s.toArray⟩:ByteArray).size+(⟨u.toArray⟩:ByteArray).size:Nat):Int)>IntKind.i64.max:=by
  simp only[ByteArray.size,List.size_toArray];omega
 simp only[binOp,Op.stringOp,aj h1,Sem.run_pure]
 congr 2
def Z3 {op : BinOp} {t : TypeId} {x y : AV} {a b : Value} (hR : Rel g w σ) (hx : VR g w x a) (hy : VR g w y b)
    (hK:kJ op x y fun v=>K v σ):bX P (binOp op t a b) g w σ K:=by
 cases hx<;>cases hy<;>(try (cases op<;>exact hK.elim))
 case int.int k n k' m =>
  cases op<;>simp only[kJ]at hK
  case shl=>exact bX.pure hR (OH t k k' n m w hK.1).1 (.int _ _) hK.2
  case shr=>exact bX.pure hR (OH t k k' n m w hK.1).2 (.int _ _) hK.2
  all_goals obtain⟨rfl,hK⟩:=hK
  case add=>exact bX.pure hR (Fp t k n m w).1 (.int _ _) hK
  case sub=>exact bX.pure hR (Fp t k n m w).2.1 (.int _ _) hK
  case mul=>exact bX.pure hR (Fp t k n m w).2.2 (.int _ _) hK
  case quo=>exact bX.pure hR (VY t k n m w hK.1).1 (.int _ _) hK.2
  case rem=>exact bX.pure hR (VY t k n m w hK.1).2 (.int _ _) hK.2
  case and=>exact bX.pure hR (Dc t k n m w).1 (.int _ _) hK
  case or=>exact bX.pure hR (Dc t k n m w).2.1 (.int _ _) hK
  case xor=>exact bX.pure hR (Dc t k n m w).2.2.1 (.int _ _) hK
  case andNot=>exact bX.pure hR (Dc t k n m w).2.2.2 (.int _ _) hK
  case eql=>exact bX.pure hR (yJ t k n m w).1 (.bool _) hK
  case neq=>exact bX.pure hR (yJ t k n m w).2.1 (.bool _) hK
  case lss=>exact bX.pure hR (yJ t k n m w).2.2.1 (.bool _) hK
  case leq=>exact bX.pure hR (yJ t k n m w).2.2.2.1 (.bool _) hK
  case gtr=>exact bX.pure hR (yJ t k n m w).2.2.2.2.1 (.bool _) hK
  case geq=>exact bX.pure hR (yJ t k n m w).2.2.2.2.2 (.bool _) hK
 case str.str s u =>
  cases op<;>simp only[kJ]at hK
  case add=>exact bX.pure hR (afM t s u w hK.1) (.str _) hK.2
  case eql=>exact bX.pure hR (yK t s u w).1 (.bool _) hK
  case neq=>exact bX.pure hR (yK t s u w).2.1 (.bool _) hK
  case lss=>exact bX.pure hR (yK t s u w).2.2.1 (.bool _) hK
  case leq=>exact bX.pure hR (yK t s u w).2.2.2.1 (.bool _) hK
  case gtr=>exact bX.pure hR (yK t s u w).2.2.2.2.1 (.bool _) hK
  case geq=>exact bX.pure hR (yK t s u w).2.2.2.2.2 (.bool _) hK
def acI{op:UnOp}{x:AV}{a:Value}(hR:Rel g w σ)(hx:VR g w x a)(hK:Ff op x fun v=>K v σ): bX P (Op.unary op a) g w σ K:=by
 cases hx<;>(try (cases op<;>exact hK.elim))
 case bool b =>
  cases op<;>simp only[Ff]at hK
  case not=>exact bX.pure hR (by simp[Op.unary]) (.bool _) hK
 case int k n =>
  cases op<;>simp only[Ff]at hK
  case neg=>exact bX.pure hR (by simp[Op.unary,Op.intArith];rfl) (.int k _) hK
  case xor=>exact bX.pure hR (by simp[Op.unary,Op.intBits];rfl) (.int k _) hK
def XJ {s d : TypeId} {k k' : IntKind} {x : AV} {a : Value} (hR : Rel g w σ) (h1 : P.underlying s = some (.int k')) (h2 : P.underlying d = some (.int k)) (hx : VR g w x a)
    (hK:match (generalizing:=false) x with | .int _ n=>K (.int k (dw k n)) σ | _=>False):bX P (convert s d a) g w σ K:=by
 cases hx<;>simp only at hK
 case int k0 n=>exact bX.pure hR (by simp[convert,bn h1,bn h2,Conv.intToInt];rfl) (.int k _) hK
def Z4 {s d : TypeId} {x : AV} {a : Value} (hR : Rel g w σ) (h1 : P.underlying s = some .string) (h2 : P.underlying d = some .string) (hx : VR g w x a) (hs : ∃ u, x = .str u)
    (hK:K x σ):bX P (convert s d a) g w σ K:=by
 obtain⟨u,rfl⟩:=hs;cases hx;exact bX.pure hR (by simp[convert,bn h1,bn h2]) (.str _) hK
def Qt {x : AV} {a : Value} {i : Nat} (hR : Rel g w σ) (hx : VR g w x a) (hK : match (generalizing := false) x with | .bU vs => i < vs.length /\ K (vs.getD i .undef) σ | _ => False) :
    bX P (Instr.extract a i) g w σ K:=by
 cases hx<;>simp only at hK
 case bU cs vs hl h =>
  obtain⟨h1,h2⟩:=hK;have h3:i<vs.size:=ae;exact bX.pure hR (v:=vs.getD i Go.undef) (by simp[Instr.extract,h3]) (h i h1) h2
def XK {t : TypeId} {x y : AV} {a b : Value} (hR : Rel g w σ) (hu : P.underlying t = some .string) (hx : VR g w x a) (hy : VR g w y b)
    (hK:match (generalizing:=false) x,y with | .str s,.int _ k=>0<=k/\k<s.length/\K (.int .u8 (s.getD k.toNat 0).toNat) σ | _,_=>False):bX P (Instr.index t a b) g w σ K:=by
 cases hx<;>cases hy<;>simp only at hK
 case str.int s k n =>
  obtain⟨h1,h2,h3⟩:=hK;have h4:n.toNat<s.length:=ae
  have h5:(⟨s.toArray⟩:ByteArray)[n.toNat]? = some (s.getD n.toNat 0):=by
   have:n.toNat<(⟨s.toArray⟩:ByteArray).size:=by simpa[ByteArray.size]using h4
   rw[getElem?_pos (⟨s.toArray⟩:ByteArray) n.toNat this]
   congr 1
   simp[ByteArray.getElem_eq_getElem_data,h4]
  refine bX.pure hR ?_ (.int .u8 _) h3;simp only[Instr.index,asIntOf,Sem.run_bind,Sem.run_pure,Result.andThen_ok,bn hu,au h1,h5]
end
