/- Part. -/
import Derived.Test.YtcjcnfcedihckaaGreatDoorW01
set_option linter.all false
namespace Go.AM
variable {P:Program}
def I4{op:BinOp}{x y:AV}{K K':AV->Prop}(h:∀ v,K v->K' v): jD op x y K->jD op x y K':=by
 unfold jD;split<;>intro hh<;>first|exact h _ hh|exact⟨hh.1,h _ hh.2⟩|exact⟨hh.1,hh.2.1,h _ hh.2.2⟩|exact hh.elim
def YY{op:BinOp}{x y:AV}{K:AV->Prop}: jD op x y K-> ∃ v,jD op x y (fun v'=>v'=v)/\K v:=by
 unfold jD;split<;>intro hh<;>first|exact⟨_,rfl,hh⟩|exact⟨_,⟨hh.1,rfl⟩,hh.2⟩|exact⟨_,⟨hh.1,hh.2.1,rfl⟩,hh.2.2⟩|exact hh.elim
def LD{op:UnOp}{x:AV}{K K':AV->Prop}(h:∀ v,K v->K' v): Bm op x K->Bm op x K':=by
 unfold Bm;split<;>intro hh<;>simp_all
def aat{op:UnOp}{x:AV}{K:AV->Prop}: Bm op x K-> ∃ v,Bm op x (fun v'=>v'=v)/\K v:=by
 unfold Bm;split<;>intro hh<;>simp_all
def cF{x:Option AV}{d y:Nat}{K K':Nat->Prop}(h:∀ v,K v->K' v): bound x d y K->bound x d y K':=by
 unfold bound;split<;>intro hh<;>simp_all
def ku{x:Option AV}{d y:Nat}{K:Nat->Prop}: bound x d y K-> ∃ v,bound x d y (fun v'=>v'=v)/\K v:=by
 unfold bound;split<;>intro hh<;>simp_all
def DN{el:El}{x:AV}{off:Nat}{ag:Bool}{n:Nat}{K K':AV->Prop}(h:∀ v,K v->K' v): partOf el x off ag n K->partOf el x off ag n K':=by
 unfold partOf;split
 ·exact h _
 ·rintro⟨h1,h2⟩;refine⟨h1,?_⟩;split at h2
  ·exact⟨h _ h2.1,h2.2⟩
  ·exact h2.elim
def I5{el:El}{x:AV}{off:Nat}{ag:Bool}{n:Nat}{K:AV->Prop}: partOf el x off ag n K-> ∃ v,partOf el x off ag n (fun v'=>v'=v)/\K v:=by
 unfold partOf;split
 ·intro h;exact⟨_,rfl,h⟩
 ·rintro⟨h1,h2⟩;split at h2
  ·exact⟨_,⟨h1,rfl,h2.2⟩,h2.1⟩
  ·exact h2.elim
def iU{σ : ae}{l:Nat}{o:aY}(τ : ae)(h : σ[l]? = some o): (σ++ τ)[l]? = some o:=by
 rw[aC (aN.1 h).1];exact h
def lD{σ : ae}{ag:Bool}{n:Nat}{p:AV}{K K':AV->Prop}(h:∀ v,K v->K' v): ik σ ag n p K->ik σ ag n p K':=by
 unfold ik;intro hh;split at hh
 ·split at hh
  ·exact⟨hh.1,hh.2.1,h _ hh.2.2⟩
  ·exact hh.elim
 ·exact DN h hh
 ·split at hh
  ·exact⟨hh.1,hh.2.1,hh.2.2.1,DN h hh.2.2.2⟩
  ·exact hh.elim
 ·exact hh.elim
def tD{σ : ae}{ag:Bool}{n:Nat}{p:AV}{K:AV->Prop}(hh:ik σ ag n p K): ∃ v,(∀ τ,ik (σ++ τ) ag n p (fun v'=>v'=v))/\K v:=by
 unfold ik at hh;split at hh
 ·split at hh
  ·rename_i h;exact⟨_,fun τ=>by simp only[ik,iU τ h];exact⟨hh.1,hh.2.1,trivial⟩,hh.2.2⟩
  ·exact hh.elim
 ·obtain⟨v,h1,h2⟩:=I5 hh;exact⟨v,fun τ=>h1,h2⟩
 ·split at hh
  ·rename_i h;obtain⟨v,h1,h2⟩:=I5 hh.2.2.2;exact⟨v,fun τ=>by simp only[ik,iU τ h];exact⟨hh.1,hh.2.1,hh.2.2.1,h1⟩,h2⟩
  ·exact hh.elim
 ·exact hh.elim
def ud{σ : ae}{n:Nat}{p v:AV}{K K':ae->Prop}(h:∀ v,K v->K' v): nC σ n p v K->nC σ n p v K':=by
 unfold nC;rintro⟨h1,h2,hh⟩;refine⟨h1,h2,?_⟩;split at hh
 ·split at hh
  ·exact⟨hh.1,h _ hh.2⟩
  ·exact hh.elim
 ·split at hh
  ·exact⟨hh.1,hh.2.1,hh.2.2.1,hh.2.2.2.1,hh.2.2.2.2.1,h _ hh.2.2.2.2.2⟩
  ·exact hh.elim
 ·exact hh.elim
def jW{σ : ae}{el:El}{x:AV}{K K':List AV->Prop}(h:∀ v,K v->K' v): fM σ el x K->fM σ el x K':=by
 unfold fM;intro hh;split at hh
 ·exact h _ hh
 ·exact⟨hh.1,h _ hh.2⟩
 ·refine⟨hh.1,?_⟩;have hh:=hh.2;split at hh
  ·exact⟨hh.1,hh.2.1,h _ hh.2.2⟩
  ·exact hh.elim
 ·exact⟨hh.1,h _ hh.2⟩
 ·exact⟨hh.1,hh.2.1,lD (fun _=>h _) hh.2.2⟩
 ·exact hh.elim
def Eo{σ : ae}{el:El}{x:AV}{K:List AV->Prop}(hh:fM σ el x K): ∃ v,(∀ τ,fM (σ++ τ) el x (fun v'=>v'=v))/\K v:=by
 unfold fM at hh;split at hh
 ·exact⟨_,fun τ=>rfl,hh⟩
 ·exact⟨_,fun τ=>⟨hh.1,rfl⟩,hh.2⟩
 ·obtain⟨h0,hh⟩:=hh;split at hh
  ·rename_i h;exact⟨_,fun τ=>by simp only[fM,iU τ h];exact⟨h0,hh.1,hh.2.1,trivial⟩,hh.2.2⟩
  ·exact hh.elim
 ·exact⟨_,fun τ=>⟨hh.1,rfl⟩,hh.2⟩
 ·obtain⟨h0,h1,hh⟩:=hh;obtain⟨v,h2,h3⟩:=tD hh;exact⟨_,fun τ=>⟨h0,h1,lD (fun v' e=>congrArg AV.cells e) (h2 τ)⟩,h3⟩
 ·exact hh.elim
def I6{σ : ae}{T:Option TypeId}{el:El}{x y:AV}{K K':AV->ae->Prop}(h:∀ v s,K v s->K' v s): oF σ T el x y K->oF σ T el x y K':=by
 unfold oF;refine jW fun ys hh=>⟨hh.1,?_⟩;have hh:=hh.2;split at hh
 ·split at hh
  ·simp_all
  ·rename_i h0;simp only[h0,if_false];exact⟨hh.1,h _ _ hh.2⟩
 ·refine⟨hh.1,?_⟩;have hh:=hh.2;split at hh
  ·rename_i h0;simp only[h0,if_true];exact h _ _ hh
  ·rename_i h0;simp only[h0,if_false];exact⟨hh.1,h _ _ hh.2⟩
 ·refine⟨hh.1,?_⟩;have hh:=hh.2;split at hh
  ·exact⟨hh.1,hh.2.1,hh.2.2.1,hh.2.2.2.1,hh.2.2.2.2.1,hh.2.2.2.2.2.1,h _ _ hh.2.2.2.2.2.2⟩
  ·exact hh.elim
 ·exact hh.elim
def I7{op:Bool}{x y:AV}{K K':AV->Prop}(h:∀ v,K v->K' v): Bn op x y K->Bn op x y K':=by
 unfold Bn;split<;>intro hh<;>simp_all
def YZ{op:Bool}{x y:AV}{K:AV->Prop}: Bn op x y K-> ∃ v,Bn op x y (fun v'=>v'=v)/\K v:=by
 unfold Bn;split<;>intro hh<;>simp_all
def r8{op:Bool}{K K':AV->Prop}(h:∀ v,K v->K' v): ∀(ys:List AV) (x:AV),qS op x ys K->qS op x ys K'
 | [],x=>h x
 | y::ys,x=>I7 fun z=>r8 h ys z
def Ep{op:Bool}{K:AV->Prop}: ∀(ys:List AV) (x:AV),qS op x ys K-> ∃ v,qS op x ys (fun v'=>v'=v)/\K v
 | [],x=>fun h=>⟨x,rfl,h⟩
 | y :: ys, x => fun h => by
   obtain⟨z,h1,h2⟩:=YZ h;obtain⟨v,h3,h4⟩:=Ep ys z h2;exact⟨v,I7 (fun z' e=>by subst e;exact h3) h1,h4⟩
def yf{e:Env}{K K':List AV->Prop}(h:∀ v,K v->K' v): ∀(ps:List (Nat × Nat × AX)) (z:List AV),lW z e ps K->lW z e ps K'
 | [],z=>h z
 |(off,n,x)::r,z=>fun hh=>⟨hh.1,hh.2.1,hh.2.2.1,yf h r _ hh.2.2.2⟩
def I8{e:Env}{K:List AV->Prop}: ∀(ps:List (Nat × Nat × AX)) (z:List AV),lW z e ps K-> ∃ v,lW z e ps (fun v'=>v'=v)/\K v
 | [],z=>fun h=>⟨z,rfl,h⟩
 | (off, n, x) :: r, z => fun hh => by
   obtain⟨v,h1,h2⟩:=I8 r _ hh.2.2.2;exact⟨v,⟨hh.1,hh.2.1,hh.2.2.1,h1⟩,h2⟩
def r9{el:El}{e:Env}{K K':List AV->Prop}(h:∀ v,K v->K' v): ∀(ps:List (Nat × AX)) (z:List AV),kT el z e ps K->kT el z e ps K'
 | [],z=>h z
 |(i,x)::r,z=>fun hh=>⟨hh.1,hh.2.1,r9 h r _ hh.2.2⟩
def zu{el:El}{e:Env}{K:List AV->Prop}: ∀(ps:List (Nat × AX)) (z:List AV),kT el z e ps K-> ∃ v,kT el z e ps (fun v'=>v'=v)/\K v
 | [],z=>fun h=>⟨z,rfl,h⟩
 | (i, x) :: r, z => fun hh => by
   obtain⟨v,h1,h2⟩:=zu r _ hh.2.2;exact⟨v,⟨hh.1,hh.2.1,h1⟩,h2⟩
def AX.uses: AX->List Nat
 | .t n=>[n]
 | .c _=>[]
def AX.QM: Option AX->List Nat
 | some x=>x.uses
 | none=>[]
def AX.oP(l:List AX): List Nat:=l.flatMap AX.uses
def bp.uses: bp->List Nat
 | .mv x | .box x | .wq _ x | .load _ _ x | .pK x | .un _ x | .qZ _ x | .Pq x | .Pr x | .Bl x | .C9 _ x | .oM _ x | .field _ _ _ x | .ext x _ | .len _ x | .panic x | .Ek x | .Em x | .AG _ x | .FH x | .FI _ x | .C_ _ x=>x.uses
 | .pick c a b=>c.uses++a.uses++b.uses
 | .alloc _ _ | .lB _ | .hold=>[]
 | .ex _ xs=>AX.oP xs
 | .kS k _ _=>[k]
 | .oN k _ _ x y=>k::(x.uses++y.uses)
 | .oO k _ _ x y=>k::(x.uses++y.uses)
 | .build _ ps=>AX.oP (ps.map (·.2.2))
 | .jF _ _ _ _ ps=>AX.oP (ps.map (·.2))
 | .store _ x v=>x.uses++v.uses
 | .bin _ x y | .rG _ _ _ x y | .f_ _ _ x y | .lC x y | .yd _ _ x y | .app _ _ x y | .wo _ x y | .DM _ x y | .nB _ _ x y | .pL _ _ x y=>x.uses++y.uses
 | .wm _ f c=>AX.oP f++AX.oP c
 | .p7 x lo hi | .uz _ x lo hi=>x.uses++AX.QM lo++AX.QM hi
 | .call _ f args | .q8 f args=>f.uses++AX.oP args
 | .min x xs | .max x xs=>x.uses++AX.oP xs
def AX.eK{e e':Env}{x:AX}(h:∀ t ∈ x.uses,e t=e' t): x.ev e=x.ev e':=by
 cases x with
 | t n=>exact h n (by simp[AX.uses])
 | c a=>rfl
def AX.xo{e e':Env}{x:Option AX}(h:∀ t ∈ AX.QM x,e t=e' t): x.map (AX.ev e)=x.map (AX.ev e'):=by
 cases x with
 | none=>rfl
 | some x=>exact congrArg some (AX.eK h)
def AX.nO{e e':Env}{l:List AX}(h:∀ t ∈ AX.oP l,e t=e' t): l.map (AX.ev e)=l.map (AX.ev e'):=by
 refine List.map_congr_left fun x hx=>AX.eK fun t ht=>h t ?_;exact List.mem_flatMap.2 ⟨x,hx,ht⟩
def Bp{e e':Env}{K:List AV->Prop}: ∀(ps:List (Nat × Nat × AX)) (z:List AV),(∀ t ∈ AX.oP (ps.map (·.2.2)),e t=e' t)->lW z e ps K=lW z e' ps K
 | [],z,_=>rfl
 | (off, n, x) :: r, z, h => by
   have h1:x.ev e=x.ev e':=AX.eK fun t ht=>h t (by simp[AX.oP,ht]);simp only[lW,h1];rw[Bp r _ fun t ht=>h t (by simp only[aZ,AX.oP,da,List.mem_append];exact .inr ht)]
def AH{el:El}{e e':Env}{K:List AV->Prop}: ∀(ps:List (Nat × AX)) (z:List AV),(∀ t ∈ AX.oP (ps.map (·.2)),e t=e' t)->kT el z e ps K=kT el z e' ps K
 | [],z,_=>rfl
 | (i, x) :: r, z, h => by
   have h1:x.ev e=x.ev e':=AX.eK fun t ht=>h t (by simp[AX.oP,ht]);simp only[kT,h1];rw[AH r _ fun t ht=>h t (by simp only[aZ,AX.oP,da,List.mem_append];exact .inr ht)]
def rH{o:bp}{e e':Env}{σ : ae}{K Kp:AV->ae->Prop}(h:∀ t ∈ o.uses,e t=e' t): o.run P e σ K Kp=o.run P e' σ K Kp:=by
 cases o<;>simp only[bp.uses,List.mem_append]at h
 case build z ps=>exact Bp ps _ h
 case jF mt el z n ps=>exact AH ps _ h
 case ex o xs=>simp only[bp.run,AX.nO h]
 case alloc=>rfl
 case lB=>rfl
 case hold=>rfl
 case kS k T cs=>simp only[bp.run,h k (by simp)]
 case oN k T el x y=>simp only[bp.run,h k (by simp),AX.eK (x:=x) (fun t ht=>h t (by simp[ht])),AX.eK (x:=y) (fun t ht=>h t (by simp[ht]))]
 case oO k el z x y=>simp only[bp.run,h k (by simp),AX.eK (x:=x) (fun t ht=>h t (by simp[ht])),AX.eK (x:=y) (fun t ht=>h t (by simp[ht]))]
 case pick c a b=>simp only[bp.run,AX.eK (fun t ht=>h t (.inl (.inl ht))),AX.eK (fun t ht=>h t (.inl (.inr ht))),AX.eK (fun t ht=>h t (.inr ht))]
 case wm f a b=>simp only[bp.run,AX.nO (fun t ht=>h t (.inl ht)),AX.nO (fun t ht=>h t (.inr ht))]
 case p7 x lo hi=>simp only[bp.run,AX.eK (fun t ht=>h t (.inl (.inl ht))),AX.xo (fun t ht=>h t (.inl (.inr ht))),AX.xo (fun t ht=>h t (.inr ht))]
 case uz el x lo hi=>simp only[bp.run,AX.eK (fun t ht=>h t (.inl (.inl ht))),AX.xo (fun t ht=>h t (.inl (.inr ht))),AX.xo (fun t ht=>h t (.inr ht))]
 case call q f args=>simp only[bp.run,AX.eK (fun t ht=>h t (.inl ht)),AX.nO (fun t ht=>h t (.inr ht))]
 case q8 f args=>simp only[bp.run,AX.eK (fun t ht=>h t (.inl ht)),AX.nO (fun t ht=>h t (.inr ht))]
 case min x xs=>simp only[bp.run,AX.eK (fun t ht=>h t (.inl ht)),AX.nO (fun t ht=>h t (.inr ht))]
 case max x xs=>simp only[bp.run,AX.eK (fun t ht=>h t (.inl ht)),AX.nO (fun t ht=>h t (.inr ht))]
 all_goals first
  | simp only[bp.run,AX.eK h]
  | simp only[bp.run,AX.eK (fun t ht=>h t (.inl ht)),AX.eK (fun t ht=>h t (.inr ht))]
inductive Cls where
 | pu|rd|al|st|ap|cw|no
deriving DecidableEq
def fD.cls: fD->Cls
 | .I3 .. | .Hz .. | .SY ..=> .pu
 | .inv _ | .pc _=> .no
 | .Eh .. | .Ei | .HA _ | .Ej _=> .rd
 | .FF=> .al
 | .cw ..=> .cw
 | _=> .cw
def bp.cls: bp->Cls
 | .ex o _=>o.cls
 | .mv _ | .pick .. | .build .. | .pK _ | .bin .. | .rG .. | .un .. | .qZ .. | .Pq _ | .C9 .. | .wm .. | .p7 .. | .oM .. | .field .. | .lC .. | .yd .. | .ext .. | .len .. | .min .. | .max .. | .pL ..=> .pu
 | .jF mt ..=>if mt then .al else .pu
 | .load .. | .Bl _ | .uz .. | .f_ .. | .AG ..=> .rd
 | .call q ..=>if q then .rd else .no
 | .alloc .. | .box _ | .wq .. | .Pr _ | .nB .. | .lB _=> .al
 | .store .. | .q8 .. | .kS .. | .oN .. | .oO ..=> .st
 | .app ..=> .ap
 | _=> .no
def iK{lo:Option AV}{hi mx:AV}{cap:Nat}{K K':Nat->Nat->Nat->Prop}(h:∀ a b c,K a b c->K' a b c): oe lo hi mx cap K->oe lo hi mx cap K' :=
 cF fun _=>cF fun _=>cF fun _=>h _ _ _
def I9{σ : ae}{el:El}{x:AV}{lo:Option AV}{hi mx:AV}{K K':AV->ae->Prop}(h:∀ v s,K v s->K' v s): ye σ el x lo hi mx K->ye σ el x lo hi mx K':=by
 unfold ye;split
 ·exact iK fun _ _ _=>h _ _
 ·exact fun hh=>⟨hh.1,iK (fun _ _ _=>h _ _) hh.2⟩
 ·refine fun hh=>⟨hh.1,?_⟩;have hh:=hh.2;split at hh
  ·refine⟨hh.1,hh.2.1,hh.2.2.1,iK (fun l b m=>?_) hh.2.2.2⟩;by_cases e:m=l
   ·simp only[e,if_true];exact h _ _
   ·simp only[e,if_false];exact fun k=>⟨k.1,h _ _ k.2⟩
  ·exact hh.elim
 ·exact id
def S0{σ : ae}{el:El}{x y:AV}{K K':AV->ae->Prop}(h:∀ v s,K v s->K' v s): En σ el x y K->En σ el x y K':=by
 unfold En;split
 ·refine fun hh=>⟨hh.1,jW (fun ys hh=>⟨hh.1,?_⟩) hh.2⟩;have hh:=hh.2;split at hh
  ·exact⟨hh.1,hh.2.1,hh.2.2.1,hh.2.2.2.1,h _ _ hh.2.2.2.2⟩
  ·exact hh.elim
 ·exact I6 h
def QN{σ : ae}{el:El}{x y:AV}{K K':AV->ae->Prop}(h:∀ v s,K v s->K' v s): FJ σ el x y K->FJ σ el x y K':=by
 unfold FJ;refine jW fun ys hh=>⟨hh.1,?_⟩;have hh:=hh.2;unfold Bo at *;split at hh
 ·exact h _ _ hh
 ·exact⟨hh.1,h _ _ hh.2⟩
 ·exact⟨hh.1,hh.2.1,ud (fun s=>h _ s) hh.2.2⟩
 ·refine⟨hh.1,?_⟩;have hh:=hh.2;split at hh
  ·exact⟨hh.1,hh.2.1,hh.2.2.1,h _ _ hh.2.2.2⟩
  ·exact hh.elim
 ·exact hh.elim
def uA{el:El}{n:Nat}{p:AV}{lo hi:Option AV}{K K':AV->Prop}(h:∀ v,K v->K' v): zm el n p lo hi K->zm el n p lo hi K' :=
 fun hh=>⟨hh.1,cF (fun _=>cF fun _=>h _) hh.2⟩
def zw{el:El}{x:AV}{lo:Option AV}{hi mx:AV}{K K':AV->Prop}(h:∀ v,K v->K' v): ua el x lo hi mx K->ua el x lo hi mx K':=by
 unfold ua;split
 ·exact iK fun _ _ _=>h _
 ·exact fun hh=>⟨hh.1,iK (fun _ _ _=>h _) hh.2⟩
 ·exact fun hh=>⟨hh.1,iK (fun _ _ _=>h _) hh.2⟩
 ·exact id
def QO{σ : ae}{el:El}{x y:AV}{K K':AV->Prop}(h:∀ v,K v->K' v): Da σ el x y K->Da σ el x y K':=by
 unfold Da;refine jW fun ys hh=>⟨hh.1,hh.2.1,?_⟩;have hh:=hh.2.2;split at hh
 ·exact⟨hh.1,h _ hh.2⟩
 ·exact⟨hh.1,hh.2.1,h _ hh.2.2⟩
 ·exact hh.elim
def FL{σ : ae}{x:AV}{K K':Bool->Prop}(h:∀ v,K v->K' v): vE σ x K->vE σ x K':=by
 unfold vE;split
 ·exact h _
 ·exact h _
 ·exact h _
 ·split
  ·exact fun hh=>⟨hh.1,hh.2.1,h _ hh.2.2⟩
  ·exact id
 ·exact id
def Wf{σ : ae}{x:AV}{K:Bool->Prop}(hh:vE σ x K): ∃ v,(∀ τ,vE (σ++ τ) x (fun v'=>v'=v))/\K v:=by
 unfold vE at hh ⊢;split at hh
 ·exact⟨_,fun _=>rfl,hh⟩
 ·exact⟨_,fun _=>rfl,hh⟩
 ·exact⟨_,fun _=>rfl,hh⟩
 ·split at hh
  ·rename_i h1;exact⟨false,fun τ=>by simp only[iU τ h1];exact⟨hh.1,hh.2.1,trivial⟩,hh.2.2⟩
  ·exact hh.elim
 ·exact hh.elim
def I_{T:TypeId}{ok:Bool}{z x:AV}{K K':AV->Prop}(h:∀ v,K v->K' v): zn T ok z x K->zn T ok z x K':=by
 unfold zn;split
 ·split
  ·exact h _
  ·exact fun hh=>⟨hh.1,h _ hh.2⟩
 ·exact fun hh=>⟨hh.1,h _ hh.2⟩
 ·exact id
def S4{σ : ae}{n:Nat}{x:AV}{K K':AV->ae->Prop}(h:∀ v s,K v s->K' v s): zo σ n x K->zo σ n x K':=by
 unfold zo;split
 ·exact fun hh=>⟨hh.1,hh.2.1,hh.2.2.1,h _ _ hh.2.2.2⟩
 ·refine fun hh=>⟨hh.1,?_⟩;have hh:=hh.2;split at hh
  ·exact⟨hh.1,hh.2.1,hh.2.2.1,hh.2.2.2.1,hh.2.2.2.2.1,h _ _ hh.2.2.2.2.2⟩
  ·exact hh.elim
 ·exact id
def QS{σ : ae}{kd:Option IntKind}{zero x k:AV}{K K':AV->ae->Prop}(h:∀ v s,K v s->K' v s): vF σ kd zero x k K->vF σ kd zero x k K':=by
 unfold vF;split
 ·refine fun hh=>⟨hh.1,?_⟩;have hh:=hh.2;split at hh
  ·split at hh
   ·exact h _ _ hh
   ·exact h _ _ hh
   ·exact hh.elim
  ·exact hh.elim
 ·exact id
def FM{σ : ae}{x s v:AV}{K K':ae->Prop}(h:∀ s,K s->K' s): uc σ x s v K->uc σ x s v K':=by
 unfold uc;split
 ·split
  ·exact fun hh=>⟨hh.1,hh.2.1,h _ hh.2.2⟩
  ·exact id
 ·exact id
def Ja{σ : ae}{el:El}{zero x:AV}{K K':ae->Prop}(h:∀ s,K s->K' s): zp σ el zero x K->zp σ el zero x K':=by
 unfold zp;split
 ·exact h _
 ·exact h _
 ·refine fun hh=>⟨hh.1,hh.2.1,?_⟩;have hh:=hh.2.2;split at hh
  ·exact⟨hh.1,hh.2.1,hh.2.2.1,h _ hh.2.2.2⟩
  ·exact hh.elim
 ·exact id
def Y0{T:TypeId}{ok:Bool}{z x:AV}{K:AV->Prop}(hh:zn T ok z x K): ∃ v,zn T ok z x (fun v'=>v'=v)/\K v:=by
 unfold zn at hh ⊢;split at hh
 ·split at hh
  ·rename_i e;exact⟨_,by rw[if_pos e],hh⟩
  ·rename_i e;exact⟨_,by rw[if_neg e];exact⟨hh.1,rfl⟩,hh.2⟩
 ·exact⟨_,⟨hh.1,rfl⟩,hh.2⟩
 ·exact hh.elim
def Y1{σ : ae}{n:Nat}{x:AV}{K:AV->ae->Prop}(hh:zo σ n x K): ∃ v σ',zo σ n x (fun v' s'=>v'=v/\s' = σ')/\K v σ':=by
 unfold zo at hh ⊢;split at hh
 ·exact⟨_,_,⟨hh.1,hh.2.1,hh.2.2.1,rfl,rfl⟩,hh.2.2.2⟩
 ·obtain⟨h0,hh⟩:=hh;split at hh
  ·exact⟨_,_,⟨h0,hh.1,hh.2.1,hh.2.2.1,hh.2.2.2.1,hh.2.2.2.2.1,rfl,rfl⟩,hh.2.2.2.2.2⟩
  ·exact hh.elim
 ·exact hh.elim
def Wg{σ : ae}{kd:Option IntKind}{zero x k:AV}{K:AV->ae->Prop}(hh:vF σ kd zero x k K): ∃ v σ',vF σ kd zero x k (fun v' s'=>v'=v/\s' = σ')/\K v σ':=by
 unfold vF at hh ⊢;split at hh
 ·obtain⟨h0,hh⟩:=hh;split at hh
  ·split at hh
   ·exact⟨_,_,⟨h0,rfl,rfl⟩,hh⟩
   ·exact⟨_,_,⟨h0,rfl,rfl⟩,hh⟩
   ·exact hh.elim
  ·exact hh.elim
 ·exact hh.elim
def Wh{σ : ae}{x s v:AV}{K:ae->Prop}(hh:uc σ x s v K): ∃ σ',uc σ x s v (fun s'=>s' = σ')/\K σ':=by
 unfold uc at hh ⊢;split at hh
 ·split at hh
  ·exact⟨_,⟨hh.1,hh.2.1,rfl⟩,hh.2.2⟩
  ·exact hh.elim
 ·exact hh.elim
def S5{σ : ae}{x:AV}{K K':AV->ae->Prop}(h:∀ v s,K v s->K' v s): zq σ x K->zq σ x K':=by
 unfold zq;split
 ·exact h _ _
 ·exact h _ _
 ·split
  ·exact fun⟨a,b,c,d⟩=>⟨a,b,c,h _ _ d⟩
  ·exact id
 ·exact id
def Y2{σ : ae}{el:El}{zero x:AV}{K:ae->Prop}(hh:zp σ el zero x K): ∃ σ',zp σ el zero x (fun s'=>s' = σ')/\K σ':=by
 unfold zp at hh ⊢;split at hh
 ·exact⟨_,rfl,hh⟩
 ·exact⟨_,rfl,hh⟩
 ·obtain⟨h0,h1,hh⟩:=hh;split at hh
  ·exact⟨_,⟨h0,h1,hh.1,hh.2.1,hh.2.2.1,rfl⟩,hh.2.2.2⟩
  ·exact hh.elim
 ·exact hh.elim
def fD.q9{o:fD}{vs:List AV}{σ : ae}{K K' Kp S6:AV->ae->Prop}(h:∀ v s,K v s->K' v s)(hp:∀ v s,Kp v s->S6 v s): o.run P vs σ K Kp->o.run P vs σ K' S6:=by
 unfold fD.run;split
 ·exact I9 h
 ·exact I9 h
 ·exact h _ _
 ·exact fun hh=>⟨hh.1,h _ _ hh.2⟩
 ·refine fun hh=>⟨hh.1,?_⟩;have hh:=hh.2;split at hh
  ·split at hh
   ·exact h _ _ hh
   ·exact h _ _ hh
   ·exact hh.elim
  ·exact hh.elim
 ·refine fun hh=>⟨hh.1,?_⟩;have hh:=hh.2;split at hh
  ·split at hh
   ·exact h _ _ hh
   ·exact hh.elim
  ·exact hh.elim
 ·exact h _ _
 ·split
  ·exact h _ _
  ·exact id
 ·exact uA fun v=>h v σ
 ·exact uA fun v=>h v σ
 ·exact uA fun v=>h v σ
 ·exact uA fun v=>h v σ
 ·exact QN h
 ·exact S0 h
 ·exact QO fun v=>h v σ
 ·exact FL fun v=>h _ σ
 ·exact fun⟨r,s2,h1,h2,h3⟩=>⟨r,s2,h1,h2,h _ _ h3⟩
 ·exact zw fun v=>h v σ
 ·exact zw fun v=>h v σ
 ·split
  ·refine fun hh=>hh.mono fun o s=>?_;cases o
   ·exact h _ _
   ·exact hp _ _
  ·exact id
 ·exact I_ fun v=>h v σ
 ·exact S4 h
 ·exact QS h
 ·exact FM fun s=>h _ s
 ·exact Ja fun s=>h _ s
 ·rintro⟨o,h1,h2⟩;refine⟨o,h1,?_⟩;cases o
  ·exact h _ _ h2
  ·exact fun s=>hp _ _ (h2 s)
 ·exact S5 h
 ·exact id
def q9{o:bp}{e:Env}{σ : ae}{K K' Kp S6:AV->ae->Prop}(h:∀ v s,K v s->K' v s)(hp:∀ v s,Kp v s->S6 v s): o.run P e σ K Kp->o.run P e σ K' S6:=by
 cases o<;>simp only[bp.run]
 case ex o xs=>exact fD.q9 h hp
 case mv x=>exact h _ _
 case alloc T cs=>exact h _ _
 case lB el=>exact h _ _
 case hold=>exact h _ _
 case wq=>exact fun hh=>⟨hh.1,h _ _ hh.2⟩
 case kS k T cs =>
  split
  ·split
   ·exact h _ _
   ·exact id
  ·exact id
 case oN k T el x y =>
  split
  ·split
   ·split
    ·exact fun hh=>⟨hh.1,hh.2.1,hh.2.2.1,h _ _ hh.2.2.2⟩
    ·exact id
   ·exact id
  ·exact id
 case oO k el z x y =>
  split
  ·split
   ·split
    ·exact fun hh=>⟨hh.1,hh.2.1,hh.2.2.1,hh.2.2.2.1,h _ _ hh.2.2.2.2⟩
    ·exact id
   ·exact id
  ·exact id
 case C9 t x=>exact h _ _
 case wm f a b=>exact h _ _
 case box x=>exact fun hh=>⟨hh.1,h _ _ hh.2⟩
 case build z ps=>exact yf (fun v=>h _ _) _ _
 case jF mt el z n ps=>exact r9 (fun v=>by split<;>exact h _ _) _ _
 case load ag n x=>exact lD fun v=>h _ _
 case store n x v=>exact ud fun v=>h _ _
 case bin op x y=>exact I4 fun v=>h _ _
 case un op x=>exact LD fun v=>h _ _
 case app T el x y=>exact I6 h
 case C_=>exact fun hh=>⟨hh.1,h _ _ hh.2⟩
 case AG =>
  split
  ·exact h _ _
  ·refine fun hh=>⟨hh.1,?_⟩;have hh:=hh.2;split at hh
   ·exact⟨hh.1,hh.2.1,hh.2.2.1,h _ _ hh.2.2.2⟩
   ·exact hh.elim
  ·exact id
 case wo =>
  split
  ·exact fun hh=>⟨hh.1,h _ _ hh.2⟩
  ·refine fun hh=>⟨hh.1,hh.2.1,hh.2.2.1,?_⟩;have hh:=hh.2.2.2;split at hh
   ·obtain⟨a1,a2,a3,a4,a5,s,a6,a7⟩:=hh;exact⟨a1,a2,a3,a4,a5,s,a6,h _ _ a7⟩
   ·exact hh.elim
  ·exact id
 case FH =>
  split
  ·split
   ·exact fun hh=>⟨hh.1,h _ _ hh.2⟩
   ·exact id
  ·exact id
 case FI =>
  split
  ·split
   ·exact fun hh=>⟨hh.1,h _ _ hh.2⟩
   ·exact id
  ·exact id
 case DM =>
  split
  ·refine fun hh=>⟨hh.1,hh.2.1,?_⟩;have hh:=hh.2.2;split at hh
   ·exact h _ _ hh
   ·exact hh.elim
  ·exact id
 case min x xs=>exact r8 (fun v=>h _ _) _ _
 case max x xs=>exact r8 (fun v=>h _ _) _ _
 case Bl x=>exact fun hh=>⟨hh.1,jW (fun v ⟨s,h1,h2⟩=>⟨s,h1,h _ _ h2⟩) hh.2⟩
 case pick c a b=>split<;>first|exact h _ _|exact id
 case pK x=>split<;>first|exact h _ _|exact id
 case rG=>split<;>first|exact h _ _|exact id
 case qZ=>split<;>first|exact h _ _|exact id
 case Pq=>split<;>first|exact h _ _|exact id
 case pL=>split<;>first|exact h _ _|exact id
 case oM=>split<;>first|exact h _ _|exact id
 case panic=>split<;>first|exact hp _ _|exact id
 case Ek=>split<;>first|exact h _ _|exact id
 case Em =>
  split
  ·split
   ·split<;>exact h _ _
   ·exact id
  ·exact id
 case len=>split<;>first|exact h _ _|exact id
 case Pr=>split<;>first|exact fun hh=>⟨hh.1,h _ _ hh.2⟩|exact id
 case ext=>split<;>first|exact fun hh=>⟨hh.1,h _ _ hh.2⟩|exact id
 case field=>split<;>first|exact fun hh=>⟨hh.1,hh.2.1,h _ _ hh.2.2⟩|exact id
 case lC=>split<;>first|exact fun hh=>⟨hh.1,hh.2.1,h _ _ hh.2.2⟩|exact id
 case yd=>split<;>first|exact fun hh=>⟨hh.1,hh.2.1,hh.2.2.1,hh.2.2.2.1,h _ _ hh.2.2.2.2⟩|exact id
 case nB=>split<;>first|exact fun hh=>⟨hh.1,hh.2.1,hh.2.2.1,hh.2.2.2.1,h _ _ hh.2.2.2.2⟩|exact id
 case p7 x lo hi=>split<;>first|exact cF (fun _=>cF fun _=>h _ _)|exact id
 case uz el x lo hi =>
  split
  ·exact cF (fun _=>cF fun _=>h _ _)
  ·exact fun hh=>⟨hh.1,cF (fun _=>cF fun _=>h _ _) hh.2⟩
  ·refine fun hh=>⟨hh.1,?_⟩;have hh:=hh.2;split at hh
   ·exact⟨hh.1,hh.2.1,hh.2.2.1,cF (fun _=>cF fun _=>h _ _) hh.2.2.2⟩
   ·exact hh.elim
  ·exact id
 case f_ el arr x i =>
  intro hh;split at hh
  ·split at hh
   ·exact⟨hh.1,hh.2.1,hh.2.2.1,h _ _ hh.2.2.2⟩
   ·refine⟨hh.1,hh.2.1,hh.2.2.1,?_⟩;have hh:=hh.2.2.2;split at hh
    ·exact⟨hh.1,hh.2.1,h _ _ hh.2.2⟩
    ·exact hh.elim
   ·exact⟨hh.1,hh.2.1,h _ _ hh.2.2⟩
   ·exact⟨hh.1,hh.2.1,h _ _ hh.2.2⟩
   ·exact⟨hh.1,hh.2.1,h _ _ hh.2.2⟩
   ·exact hh.elim
  ·exact hh.elim
 case q8 f args =>
  split
  ·unfold C8;split
   ·exact fun⟨l,ob,mg,r,h1,h2,h3,h4,h5⟩=>⟨l,ob,mg,r,h1,h2,h3,h4,h _ _ h5⟩
   ·exact id
  ·exact id
 case call q f args =>
  split
  ·split
   ·exact fun⟨r,h1,h2⟩=>⟨r,h1,h _ _ h2⟩
   ·exact fun hh=>hh.mono fun o s=>by cases o<;>first|exact h _ _|exact hp _ _
  ·split
   ·exact id
   ·exact fun hh=>hh.mono fun o s=>by cases o<;>first|exact h _ _|exact hp _ _
  ·exact id
abbrev Is(v:AV)(σ : ae): AV->ae->Prop:=fun v' σ'=>v'=v/\σ' = σ
abbrev No: AV->ae->Prop:=fun _ _=>False
def Y3{el:El}{n:Nat}{p:AV}{lo hi:Option AV}{K:AV->Prop}(hh:zm el n p lo hi K): ∃ v,zm el n p lo hi (fun v'=>v'=v)/\K v:=by
 obtain⟨v,h1,h2⟩:=ku hh.2;obtain⟨u,h3,h4⟩:=ku h2;exact⟨_,⟨hh.1,cF (fun v' e=>by subst e;exact cF (fun u' e=>by subst e;rfl) h3) h1⟩,h4⟩
def rI{lo:Option AV}{hi mx:AV}{cap:Nat}{K:Nat->Nat->Nat->Prop}(h:oe lo hi mx cap K): ∃ a b c,oe lo hi mx cap (fun a' b' c'=>a'=a/\b'=b/\c'=c)/\K a b c:=by
 obtain⟨m,h1,h2⟩:=ku h;obtain⟨b,h3,h4⟩:=ku h2;obtain⟨a,h5,h6⟩:=ku h4;exact⟨a,b,m,cF (fun m' e=>by subst e;exact cF (fun b' e=>by subst e;exact cF (fun a' e=>⟨e,rfl,rfl⟩) h5) h3) h1,h6⟩
def Wi{el:El}{x:AV}{lo:Option AV}{hi mx:AV}{K:AV->Prop}(hh:ua el x lo hi mx K): ∃ v,ua el x lo hi mx (fun v'=>v'=v)/\K v:=by
 unfold ua at hh ⊢;split at hh
 ·obtain⟨a,b,c,h1,h2⟩:=rI hh;exact⟨_,iK (fun _ _ _ _=>rfl) h1,h2⟩
 ·obtain⟨a,b,c,h1,h2⟩:=rI hh.2;exact⟨_,⟨hh.1,iK (fun _ _ _ e=>by obtain⟨rfl,rfl,rfl⟩:=e;rfl) h1⟩,h2⟩
 ·obtain⟨a,b,c,h1,h2⟩:=rI hh.2;exact⟨_,⟨hh.1,iK (fun _ _ _ _=>rfl) h1⟩,h2⟩
 ·exact hh.elim
def fD.Db{o:fD}{vs:List AV}{σ : ae}{K Kp:AV->ae->Prop}(hc:o.cls = .pu)(hh:o.run P vs σ K Kp): ∃ v,(∀ σ',o.run P vs σ' (Is v σ') No)/\K v σ:=by
 cases o<;>simp only[fD.cls]at hc<;>(try (cases hc;done))
 ·unfold fD.run at hh ⊢
  split at hh<;>(try (rename_i h;cases h))<;>first
   |(obtain⟨v,h1,h2⟩:=Y3 hh;exact⟨v,fun σ'=>uA (fun v' e=>⟨e,rfl⟩) h1,h2⟩)
   | exact hh.elim
 ·unfold fD.run at hh ⊢
  split at hh<;>(try (rename_i h;cases h))<;>first
   |(obtain⟨v,h1,h2⟩:=Wi hh;exact⟨v,fun σ'=>zw (fun v' e=>⟨e,rfl⟩) h1,h2⟩)
   | exact hh.elim
 ·unfold fD.run at hh ⊢
  split at hh<;>(try (rename_i h;cases h))<;>first
   |(obtain⟨v,h1,h2⟩:=Y0 hh;exact⟨v,fun σ'=>I_ (fun v' e=>⟨e,rfl⟩) h1,h2⟩)
   | exact hh.elim
def fD.zx{o:fD}{vs:List AV}{σ : ae}{K Kp:AV->ae->Prop}(hc:o.cls = .rd)(hh:o.run P vs σ K Kp): ∃ v,(∀ τ,o.run P vs (σ++ τ) (Is v (σ++ τ)) No)/\K v σ:=by
 cases o<;>simp only[fD.cls]at hc<;>(try (cases hc;done))
 case Ej neg =>
  unfold fD.run at hh ⊢;split at hh<;>(try (rename_i h;cases h))<;>(try exact hh.elim);obtain⟨v,h1,h2⟩:=Wf hh;exact⟨_,fun τ=>FL (fun v' e=>by subst e;exact⟨rfl,rfl⟩) (h1 τ),h2⟩
 case HA el =>
  unfold fD.run at hh ⊢;split at hh<;>(try (rename_i h;cases h))<;>(try exact hh.elim);unfold Da at hh ⊢;obtain⟨ys,h1,h2,h3,h4⟩:=Eo hh;split at h4
  ·exact⟨_,fun τ=>jW (fun zs (e:zs=ys)=>by subst e;exact⟨h2,h3,h4.1,rfl,rfl⟩) (h1 τ),h4.2⟩
  ·exact⟨_,fun τ=>jW (fun zs (e:zs=ys)=>by subst e;exact⟨h2,h3,h4.1,h4.2.1,rfl,rfl⟩) (h1 τ),h4.2.2⟩
  ·exact h4.elim
 case Eh kd ok zero =>
  unfold fD.run at hh ⊢;split at hh<;>(try (rename_i h;cases h))
  ·exact⟨_,fun τ=>⟨hh.1,rfl,rfl⟩,hh.2⟩
  ·obtain⟨h0,hh⟩:=hh;split at hh
   ·rename_i h1;split at hh
    ·rename_i h2;exact⟨_,fun τ=>by simp only[iU τ h1,h2];exact⟨h0,rfl,rfl⟩,hh⟩
    ·rename_i h2;exact⟨_,fun τ=>by simp only[iU τ h1,h2];exact⟨h0,rfl,rfl⟩,hh⟩
    ·exact hh.elim
   ·exact hh.elim
  ·exact hh.elim
 case Ei =>
  unfold fD.run at hh ⊢;split at hh<;>(try (rename_i h;cases h))
  ·exact⟨_,fun τ=>⟨rfl,rfl⟩,hh⟩
  ·split at hh
   ·rename_i h1;exact⟨_,fun τ=>by simp only[iU τ h1];exact⟨rfl,rfl⟩,hh⟩
   ·exact hh.elim
  ·exact hh.elim
def fD.FN{o:fD}{vs:List AV}{σ : ae}{K Kp:AV->ae->Prop}(hc:o.cls = .al)(hh:o.run P vs σ K Kp): ∃ v τ,o.run P vs σ (Is v (σ++ τ)) No/\K v (σ++ τ):=by
 cases o<;>simp only[fD.cls]at hc<;>(try (cases hc;done));unfold fD.run at hh ⊢;split at hh<;>(try (rename_i h;cases h))
 ·exact⟨_,_,⟨rfl,rfl⟩,hh⟩
 ·exact hh.elim
def fD.FO{o:fD}: o.cls≠ .st/\o.cls≠ .ap:=by cases o<;>simp[fD.cls]
def Db{o:bp}{e:Env}{σ : ae}{K Kp:AV->ae->Prop}(hc:o.cls = .pu)(hh:o.run P e σ K Kp): ∃ v,(∀ σ',o.run P e σ' (Is v σ') No)/\K v σ:=by
 cases o<;>simp only[bp.cls]at hc<;>(try (cases hc;done))<;>simp only[bp.run]at hh ⊢
 case ex o xs=>exact fD.Db hc hh
 case mv x=>exact⟨_,fun _=>⟨rfl,rfl⟩,hh⟩
 case C9 t x=>exact⟨_,fun _=>⟨rfl,rfl⟩,hh⟩
 case wm f a b=>exact⟨_,fun _=>⟨rfl,rfl⟩,hh⟩
 case build z ps=>obtain⟨v,h1,h2⟩:=I8 _ _ hh;exact⟨_,fun _=>yf (fun v' e=>⟨congrArg AV.agg e,rfl⟩) _ _ h1,h2⟩
 case jF mt el z n ps =>
  cases mt
  ·obtain⟨v,h1,h2⟩:=zu _ _ hh;simp only[aB,if_false]at h2 ⊢;exact⟨_,fun _=>r9 (fun v' e=>⟨congrArg (AV.aO true el) e,rfl⟩) _ _ h1,h2⟩
  ·cases hc
 case bin op x y=>obtain⟨v,h1,h2⟩:=YY hh;exact⟨v,fun _=>I4 (fun v' e=>⟨e,rfl⟩) h1,h2⟩
 case un op x=>obtain⟨v,h1,h2⟩:=aat hh;exact⟨v,fun _=>LD (fun v' e=>⟨e,rfl⟩) h1,h2⟩
 case min x xs=>obtain⟨v,h1,h2⟩:=Ep _ _ hh;exact⟨v,fun _=>r8 (fun v' e=>⟨e,rfl⟩) _ _ h1,h2⟩
 case max x xs=>obtain⟨v,h1,h2⟩:=Ep _ _ hh;exact⟨v,fun _=>r8 (fun v' e=>⟨e,rfl⟩) _ _ h1,h2⟩
 case pick c a b=>split at hh<;>first|exact⟨_,fun _=>⟨rfl,rfl⟩,hh⟩|exact hh.elim
 case pK x=>split at hh<;>first|exact⟨_,fun _=>⟨rfl,rfl⟩,hh⟩|exact hh.elim
 case rG=>split at hh<;>first|exact⟨_,fun _=>⟨rfl,rfl⟩,hh⟩|exact hh.elim
 case qZ=>split at hh<;>first|exact⟨_,fun _=>⟨rfl,rfl⟩,hh⟩|exact hh.elim
 case Pq=>split at hh<;>first|exact⟨_,fun _=>⟨rfl,rfl⟩,hh⟩|exact hh.elim
 case pL=>split at hh<;>first|exact⟨_,fun _=>⟨rfl,rfl⟩,hh⟩|exact hh.elim
 case oM=>split at hh<;>first|exact⟨_,fun _=>⟨rfl,rfl⟩,hh⟩|exact hh.elim
 case len=>split at hh<;>first|exact⟨_,fun _=>⟨rfl,rfl⟩,hh⟩|exact hh.elim
 case ext=>split at hh<;>first|exact⟨_,fun _=>⟨hh.1,rfl,rfl⟩,hh.2⟩|exact hh.elim
 case field=>split at hh<;>first|exact⟨_,fun _=>⟨hh.1,hh.2.1,rfl,rfl⟩,hh.2.2⟩|exact hh.elim
 case lC=>split at hh<;>first|exact⟨_,fun _=>⟨hh.1,hh.2.1,rfl,rfl⟩,hh.2.2⟩|exact hh.elim
 case yd=>split at hh<;>first|exact⟨_,fun _=>⟨hh.1,hh.2.1,hh.2.2.1,hh.2.2.2.1,rfl,rfl⟩,hh.2.2.2.2⟩|exact hh.elim
 case p7 x lo hi =>
  split at hh
  ·obtain⟨v,h1,h2⟩:=ku hh;obtain⟨u,h3,h4⟩:=ku h2;exact⟨_,fun _=>cF (fun v' e=>by subst e;exact cF (fun u' e=>by subst e;exact⟨rfl,rfl⟩) h3) h1,h4⟩
  ·exact hh.elim
 case call q f args=>split at hc<;>cases hc
def zx{o:bp}{e:Env}{σ : ae}{K Kp:AV->ae->Prop}(hc:o.cls = .rd)(hh:o.run P e σ K Kp): ∃ v,(∀ τ,o.run P e (σ++ τ) (Is v (σ++ τ)) No)/\K v σ:=by
 cases o<;>simp only[bp.cls]at hc<;>(try (cases hc;done))<;>simp only[bp.run]at hh ⊢
 case ex o xs=>exact fD.zx hc hh
 case jF mt el z n ps=>split at hc<;>cases hc
 case load ag n x=>obtain⟨v,h1,h2⟩:=tD hh;exact⟨v,fun τ=>lD (fun v' e=>⟨e,rfl⟩) (h1 τ),h2⟩
 case Bl x =>
  obtain⟨v,h1,s,h2,h3⟩:=Eo hh.2;exact⟨_,fun τ=>⟨hh.1,jW (fun v' (e:v'=v)=>⟨s,by rw[e];exact h2,rfl,rfl⟩) (h1 τ)⟩,h3⟩
 case AG el x =>
  split at hh
  ·exact⟨_,fun _=>⟨rfl,rfl⟩,hh⟩
  ·obtain⟨h0,hh⟩:=hh;split at hh
   ·rename_i h;refine⟨_,fun τ=>⟨h0,?_⟩,hh.2.2.2⟩;simp only[iU τ h];exact⟨hh.1,hh.2.1,hh.2.2.1,by trivial⟩
   ·exact hh.elim
  ·exact hh.elim
 case uz el x lo hi =>
  split at hh
  ·obtain⟨v,h1,h2⟩:=ku hh;obtain⟨u,h3,h4⟩:=ku h2;exact⟨_,fun _=>cF (fun v' e=>by subst e;exact cF (fun u' e=>by subst e;exact⟨rfl,rfl⟩) h3) h1,h4⟩
  ·obtain⟨v,h1,h2⟩:=ku hh.2;obtain⟨u,h3,h4⟩:=ku h2;exact⟨_,fun _=>⟨hh.1,cF (fun v' e=>by subst e;exact cF (fun u' e=>by subst e;exact⟨rfl,rfl⟩) h3) h1⟩,h4⟩
  ·obtain⟨h0,hh⟩:=hh;split at hh
   ·rename_i h;obtain⟨v,h1,h2⟩:=ku hh.2.2.2;obtain⟨u,h3,h4⟩:=ku h2;refine⟨_,fun τ=>⟨h0,?_⟩,h4⟩;simp only[iU τ h];exact⟨hh.1,hh.2.1,hh.2.2.1,cF (fun v' e=>by subst e;exact cF (fun u' e=>by subst e;exact⟨rfl,rfl⟩) h3) h1⟩
   ·exact hh.elim
  ·exact hh.elim
 case f_ el arr x i =>
  split at hh
  ·split at hh
   ·exact⟨_,fun τ=>⟨hh.1,hh.2.1,hh.2.2.1,rfl,rfl⟩,hh.2.2.2⟩
   ·obtain⟨h0,h1,h2,hh⟩:=hh;split at hh
    ·rename_i h;refine⟨_,fun τ=>⟨h0,h1,h2,?_⟩,hh.2.2⟩;simp only[iU τ h];exact⟨hh.1,hh.2.1,by trivial⟩
    ·exact hh.elim
   ·exact⟨_,fun τ=>⟨hh.1,hh.2.1,rfl,rfl⟩,hh.2.2⟩
   ·exact⟨_,fun τ=>⟨hh.1,hh.2.1,rfl,rfl⟩,hh.2.2⟩
   ·exact⟨_,fun τ=>⟨hh.1,hh.2.1,rfl,rfl⟩,hh.2.2⟩
   ·exact hh.elim
  ·exact hh.elim
 case call q f args =>
  cases q with
  | false=>cases hc
  | true =>
    split at hh
    ·simp only[if_true]at hh ⊢;obtain⟨r,h1,h2⟩:=hh;exact⟨r,fun τ=>⟨r,fun τ'=>by rw[bt σ];exact h1 _,rfl,rfl⟩,h2⟩
    ·exact hh.elim
    ·exact hh.elim
def FN{o:bp}{e:Env}{σ : ae}{K Kp:AV->ae->Prop}(hc:o.cls = .al)(hh:o.run P e σ K Kp): ∃ v τ,o.run P e σ (Is v (σ++ τ)) No/\K v (σ++ τ):=by
 cases o<;>simp only[bp.cls]at hc<;>(try (cases hc;done))<;>simp only[bp.run]at hh ⊢
 case ex o xs=>exact fD.FN hc hh
 case alloc T cs=>exact⟨_,_,⟨rfl,rfl⟩,hh⟩
 case wq=>exact⟨_,_,⟨hh.1,rfl,rfl⟩,hh.2⟩
 case lB el=>exact⟨_,_,⟨rfl,rfl⟩,hh⟩
 case box x=>exact⟨_,_,⟨hh.1,rfl,rfl⟩,hh.2⟩
 case Pr x=>split at hh<;>first|exact⟨_,_,⟨hh.1,rfl,rfl⟩,hh.2⟩|exact hh.elim
 case nB=>split at hh<;>first|exact⟨_,_,⟨hh.1,hh.2.1,hh.2.2.1,hh.2.2.2.1,rfl,rfl⟩,hh.2.2.2.2⟩|exact hh.elim
 case call q f args=>split at hc<;>cases hc
 case jF mt el z n ps =>
  cases mt
  ·cases hc
  ·obtain⟨v,h1,h2⟩:=zu _ _ hh;simp only[if_true]at h2 ⊢;exact⟨_,_,r9 (fun v' e=>by subst e;exact⟨rfl,rfl⟩) _ _ h1,h2⟩
def Bq{σ : ae}{n:Nat}{p v:AV}{K:ae->Prop}(hh:nC σ n p v K): ∃ l o o',σ[l]? = some o/\o.like o'/\p.obj=some l/\nC σ n p v (fun s=>s = σ.set l o')/\K (σ.set l o'):=by
 unfold nC at hh;obtain⟨h1,h2,hh⟩:=hh;split at hh
 ·split at hh
  ·rename_i h;exact⟨_,_,_,h,trivial,rfl,by simp only[nC,h];exact⟨h1,h2,hh.1,trivial⟩,hh.2⟩
  ·exact hh.elim
 ·split at hh
  ·rename_i h;obtain⟨e1,e2,e3,e4,e5,hK⟩:=hh;subst e1;exact⟨_,_,_,h,⟨_,rfl,by simp⟩,rfl,by simp only[nC,h];exact⟨h1,h2,trivial,e2,e3,e4,e5,trivial⟩,hK⟩
  ·exact hh.elim
 ·exact hh.elim
def acC{o:bp}{e:Env}{σ : ae}{K Kp:AV->ae->Prop}(hc:o.cls = .st)(hh:o.run P e σ K Kp): ∃ v σ',o.run P e σ (Is v σ') No/\K v σ':=by
 cases o<;>simp only[bp.cls]at hc<;>(try (cases hc;done))<;>simp only[bp.run]at hh ⊢
 case ex=>exact absurd hc fD.FO.1
 case jF=>split at hc<;>cases hc
 case call=>split at hc<;>cases hc
 case q8 f args =>
  split at hh
  ·unfold C8 at *;split at hh
   ·obtain⟨l,ob,mg,r,h1,h2,h3,h4,h5⟩:=hh;exact⟨r,_,⟨l,ob,mg,r,h1,h2,h3,h4,rfl,rfl⟩,h5⟩
   ·exact hh.elim
  ·exact hh.elim
 case store n x v =>
  obtain⟨l,o,o',_,_,_,h1,h2⟩:=Bq hh;exact⟨_,_,ud (fun s e=>⟨rfl,e⟩) h1,h2⟩
 case kS k T cs =>
  split at hh
  ·rename_i n h1;split at hh
   ·rename_i h2;exact⟨_,_,⟨rfl,rfl⟩,hh⟩
   ·exact hh.elim
  ·exact hh.elim
 case oN k T el x y =>
  split at hh
  ·split at hh
   ·split at hh
    ·exact⟨_,_,⟨hh.1,hh.2.1,hh.2.2.1,rfl,rfl⟩,hh.2.2.2⟩
    ·exact hh.elim
   ·exact hh.elim
  ·exact hh.elim
 case oO k el z x y =>
  split at hh
  ·split at hh
   ·split at hh
    ·exact⟨_,_,⟨hh.1,hh.2.1,hh.2.2.1,hh.2.2.2.1,rfl,rfl⟩,hh.2.2.2.2⟩
    ·exact hh.elim
   ·exact hh.elim
  ·exact hh.elim
def Yf{o:bp}{e:Env}{σ : ae}{K Kp:AV->ae->Prop}(hc:o.cls = .ap)(hh:o.run P e σ K Kp): ∃ v σ',o.run P e σ (Is v σ') No/\K v σ':=by
 cases o<;>simp only[bp.cls]at hc<;>(try (cases hc;done))<;>simp only[bp.run]at hh ⊢
 case ex=>exact absurd hc fD.FO.2
 case jF=>split at hc<;>cases hc
 case call=>split at hc<;>cases hc
 case app T el x y =>
  have key:∀ ys:List AV,∀ K':AV->ae->Prop,(ys.all (fun a=>a.fits el)=true/\match x.ev e with
   | .au=>if ys.length=0 then K' .au σ else fJ ys.length el/\K' (.own el σ.length ys.length 0 ys.length) (σ++[.cy T el ys])
   | .aO true bj xs=>bj=el/\if ys.length=0 then K' (.aO true el xs) σ else fJ (xs.length+ys.length) el/\K' (.own el σ.length (xs.length+ys.length) 0 (xs.length+ys.length)) (σ++[.cy T el (xs++ys)])
   | .own bj l m lo n => bj = el /\ match σ[l]? with
     | some (.cy T' bg xs)=>(T'=none\/T'=T)/\bg=el/\m=xs.length/\lo=0/\n=xs.length/\fJ (xs.length+ys.length) el/\K' (.own el l (xs.length+ys.length) 0 (xs.length+ys.length)) (σ.set l (.cy T' el (xs++ys)))
     | _=>False
   | _=>False)-> ∃ v σ',K' v σ'/\(ys.all (fun a=>a.fits el)=true/\match x.ev e with
   | .au=>if ys.length=0 then Is v σ' .au σ else fJ ys.length el/\Is v σ' (.own el σ.length ys.length 0 ys.length) (σ++[.cy T el ys])
   | .aO true bj xs=>bj=el/\if ys.length=0 then Is v σ' (.aO true el xs) σ else fJ (xs.length+ys.length) el/\Is v σ' (.own el σ.length (xs.length+ys.length) 0 (xs.length+ys.length)) (σ++[.cy T el (xs++ys)])
   | .own bj l m lo n => bj = el /\ match σ[l]? with
     | some (.cy T' bg xs)=>(T'=none\/T'=T)/\bg=el/\m=xs.length/\lo=0/\n=xs.length/\fJ (xs.length+ys.length) el/\Is v σ' (.own el l (xs.length+ys.length) 0 (xs.length+ys.length)) (σ.set l (.cy T' el (xs++ys)))
     | _=>False
   | _=>False):=fun ys K'=>by
   rintro⟨h1,h2⟩;split at h2
   ·split at h2
    ·exact⟨_,_,h2,h1,by rw[if_pos (by assumption)];exact⟨rfl,rfl⟩⟩
    ·exact⟨_,_,h2.2,h1,by rw[if_neg (by assumption)];exact⟨h2.1,rfl,rfl⟩⟩
   ·obtain⟨rfl,h2⟩:=h2;split at h2
    ·exact⟨_,_,h2,h1,rfl,by rw[if_pos (by assumption)];exact⟨rfl,rfl⟩⟩
    ·exact⟨_,_,h2.2,h1,rfl,by rw[if_neg (by assumption)];exact⟨h2.1,rfl,rfl⟩⟩
   ·obtain⟨rfl,h2⟩:=h2;split at h2
    ·rename_i hk;refine⟨_,_,h2.2.2.2.2.2.2,h1,rfl,?_⟩;exact⟨h2.1,h2.2.1,h2.2.2.1,h2.2.2.2.1,h2.2.2.2.2.1,h2.2.2.2.2.2.1,rfl,rfl⟩
    ·exact h2.elim
   ·exact h2.elim
  have hh:fM σ el (y.ev e) fun ys=> ∃ v σ',K v σ'/\_:=jW (fun ys h=>key ys K h) hh
  have out:∀ {B:List AV->AV->ae->Prop},(fM σ el (y.ev e) fun ys=> ∃ v σ',K v σ'/\B ys v σ')-> ∃ v σ',(fM σ el (y.ev e) fun ys=>B ys v σ')/\K v σ':=fun {B} h=>by
   unfold fM at *;split at h
   ·obtain⟨v,s,h1,h2⟩:=h;exact⟨v,s,h2,h1⟩
   ·obtain⟨h0,v,s,h1,h2⟩:=h;exact⟨v,s,⟨h0,h2⟩,h1⟩
   ·obtain⟨h0,h⟩:=h;split at h
    ·obtain⟨q1,q2,v,s,h1,h2⟩:=h;exact⟨v,s,⟨h0,q1,q2,h2⟩,h1⟩
    ·exact h.elim
   ·obtain⟨h0,v,s,h1,h2⟩:=h;exact⟨v,s,⟨h0,h2⟩,h1⟩
   ·obtain⟨h0,h0',h⟩:=h;obtain⟨u,h1,v,s,h2,h3⟩:=tD h;exact⟨v,s,⟨h0,h0',lD (fun u' (e:u'=u)=>by subst e;exact h3) (by simpa using h1 [])⟩,h2⟩
   ·exact h.elim
  exact out hh
def Jb{σ : ae}{el:El}{x:AV}{K:List AV->Prop}(hh:fM σ el x K): ∃ v,fM σ el x (fun v'=>v'=v)/\K v:=by
 obtain⟨v,h1,h2⟩:=Eo hh;exact⟨v,by simpa using h1 [],h2⟩
def Y4{σ : ae}{T:Option TypeId}{el:El}{x y:AV}{K:AV->ae->Prop}(hh:oF σ T el x y K): ∃ v σ',oF σ T el x y (Is v σ')/\K v σ':=by
 have:=Yf (P:=default) (o:= .app T el (.c x) (.c y)) (e:=fun _=> .undef) (σ:=σ) (K:=K) (Kp:=No) rfl hh;obtain⟨v,σ',h1,h2⟩:=this;exact⟨v,σ',h1,h2⟩
def Y5{σ : ae}{x:AV}{K:AV->ae->Prop}(hh:zq σ x K): ∃ v σ',zq σ x (Is v σ')/\K v σ':=by
 unfold zq at hh ⊢;split at hh
 ·exact⟨_,_,⟨rfl,rfl⟩,hh⟩
 ·exact⟨_,_,⟨rfl,rfl⟩,hh⟩
 ·split at hh
  ·exact⟨_,_,⟨hh.1,hh.2.1,hh.2.2.1,rfl,rfl⟩,hh.2.2.2⟩
  ·exact hh.elim
 ·exact hh.elim
def fD.det{o:fD}{vs:List AV}{σ : ae}{K Kp:AV->ae->Prop}(hni:o.cls≠ .no)(hh:o.run P vs σ K Kp): ∃ v σ',o.run P vs σ (Is v σ') No/\K v σ':=by
 cases o with
 | inv n=>exact absurd rfl hni
 | pc n=>exact absurd rfl hni
 | cw n k Bk =>
   unfold fD.run at hh ⊢;split at hh<;>(try (rename_i h;cases h))<;>(try exact hh.elim);obtain⟨r,s2,h1,h2,h3⟩:=hh;exact⟨r,s2,⟨r,s2,h1,h2,rfl,rfl⟩,h3⟩
 | Ej neg =>
   obtain⟨v,h1,h2⟩:=fD.zx (o:= .Ej neg) rfl hh;exact⟨v,σ,by simpa using h1 [],h2⟩
 | HA el =>
   obtain⟨v,h1,h2⟩:=fD.zx (o:= .HA el) rfl hh;exact⟨v,σ,by simpa using h1 [],h2⟩
 | Hz el lo =>
   obtain⟨v,h1,h2⟩:=fD.Db (o:= .Hz el lo) rfl hh;exact⟨v,σ,h1 _,h2⟩
 | SY T ok z =>
   obtain⟨v,h1,h2⟩:=fD.Db (o:= .SY T ok z) rfl hh;exact⟨v,σ,h1 _,h2⟩
 | s2a n =>
   unfold fD.run at hh ⊢;split at hh<;>(try (rename_i h;cases h))<;>(try exact hh.elim);obtain⟨v,σ',h1,h2⟩:=Y1 hh;exact⟨v,σ',h1,h2⟩
 | Wd kd z =>
   unfold fD.run at hh ⊢;split at hh<;>(try (rename_i h;cases h))<;>(try exact hh.elim);obtain⟨v,σ',h1,h2⟩:=Wg hh;exact⟨v,σ',h1,h2⟩
 | QJ =>
   unfold fD.run at hh ⊢;split at hh<;>(try (rename_i h;cases h))<;>(try exact hh.elim);obtain⟨σ',h1,h2⟩:=Wh hh;exact⟨_,σ',FM (fun s e=>⟨rfl,e⟩) h1,h2⟩
 | clr el z =>
   unfold fD.run at hh ⊢;split at hh<;>(try (rename_i h;cases h))<;>(try exact hh.elim);obtain⟨σ',h1,h2⟩:=Y2 hh;exact⟨_,σ',Ja (fun s e=>⟨rfl,e⟩) h1,h2⟩
 | SZ =>
   unfold fD.run at hh ⊢;split at hh<;>(try (rename_i h;cases h))<;>(try exact hh.elim);obtain⟨v,σ',h1,h2⟩:=Y5 hh;exact⟨v,σ',h1,h2⟩
 | I3 el n lo hi =>
   obtain⟨v,h1,h2⟩:=fD.Db (o:= .I3 el n lo hi) rfl hh;exact⟨v,σ,h1 σ,h2⟩
 | Eh kd ok zero =>
   obtain⟨v,h1,h2⟩:=fD.zx (o:= .Eh kd ok zero) rfl hh;exact⟨v,σ,by simpa using h1 [],h2⟩
 | Ei =>
   obtain⟨v,h1,h2⟩:=fD.zx (o:= .Ei) rfl hh;exact⟨v,σ,by simpa using h1 [],h2⟩
 | FF =>
   obtain⟨v,τ,h1,h2⟩:=fD.FN (o:= .FF) rfl hh;exact⟨v,_,h1,h2⟩
 | FG kd =>
   unfold fD.run at hh ⊢;split at hh<;>(try (rename_i h;cases h))<;>(try exact hh.elim);obtain⟨h0,hh⟩:=hh;split at hh
   ·rename_i h1;split at hh
    ·rename_i h2;refine⟨_,_,?_,hh⟩;exact⟨h0,rfl,rfl⟩
    ·exact hh.elim
   ·exact hh.elim
 | Yd el lo =>
   have key:∀ {x:AV} {l:Option AV} {h m:AV},ye σ el x l h m K-> ∃ v σ',ye σ el x l h m (Is v σ')/\K v σ':=fun {x l h m} hh=>by
    unfold ye at hh ⊢;split at hh
    ·obtain⟨a,b,c,h1,h2⟩:=rI hh;exact⟨_,_,iK (fun _ _ _ _=>⟨rfl,rfl⟩) h1,h2⟩
    ·obtain⟨a,b,c,h1,h2⟩:=rI hh.2;exact⟨_,_,⟨hh.1,iK (fun _ _ _ e=>by obtain⟨rfl,rfl,rfl⟩:=e;exact⟨rfl,rfl⟩) h1⟩,h2⟩
    ·obtain⟨h0,hh⟩:=hh;split at hh
     ·rename_i hk;obtain⟨k1,k2,k3,hh⟩:=hh;obtain⟨a,b,c,h1,h2⟩:=rI hh;by_cases e:c=a
      ·rw[if_pos e]at h2;exact⟨_,_,⟨h0,k1,k2,k3,iK (fun _ _ _ e'=>by obtain⟨rfl,rfl,rfl⟩:=e';rw[if_pos e];exact⟨rfl,rfl⟩) h1⟩,h2⟩
      ·rw[if_neg e]at h2;exact⟨_,_,⟨h0,k1,k2,k3,iK (fun _ _ _ e'=>by obtain⟨rfl,rfl,rfl⟩:=e';rw[if_neg e];exact⟨h2.1,rfl,rfl⟩) h1⟩,h2.2⟩
     ·exact hh.elim
    ·exact hh.elim
   unfold fD.run at hh ⊢;split at hh<;>(try (rename_i h;cases h))<;>first|exact key hh|exact hh.elim
 | copy el =>
   unfold fD.run at hh ⊢;split at hh<;>(try (rename_i h;cases h))<;>(try exact hh.elim)
   ·rename_i x y;obtain⟨ys,h1,h2,h3⟩:=Jb hh
    have key:∃ v σ',Bo σ el x ys (Is v σ')/\K v σ':=by
     unfold Bo at h3 ⊢;split at h3
     ·exact⟨_,_,⟨rfl,rfl⟩,h3⟩
     ·exact⟨_,_,⟨h3.1,rfl,rfl⟩,h3.2⟩
     ·obtain⟨l,o,o',_,_,_,h4,h5⟩:=Bq h3.2.2;exact⟨_,_,⟨h3.1,h3.2.1,ud (fun s e=>⟨rfl,e⟩) h4⟩,h5⟩
     ·obtain⟨h0,h3⟩:=h3;split at h3
      ·exact⟨_,_,⟨h0,h3.1,h3.2.1,h3.2.2.1,rfl,rfl⟩,h3.2.2.2⟩
      ·exact h3.elim
     ·exact h3.elim
    obtain⟨v,σ',h4,h5⟩:=key;exact⟨v,σ',jW (fun ys' (e:ys'=ys)=>by subst e;exact⟨h2,h4⟩) h1,h5⟩
 | Ye el =>
   unfold fD.run at hh ⊢;split at hh<;>(try (rename_i h;cases h))<;>(try exact hh.elim)
   ·unfold En at hh ⊢;split at hh
    ·obtain⟨h0,hh⟩:=hh;obtain⟨ys,h1,h2,h3⟩:=Jb hh;split at h3
     ·rename_i hk;refine⟨_,_,⟨h0,jW (fun ys' (e:ys'=ys)=>⟨e ▸ h2,?_⟩) h1⟩,h3.2.2.2.2⟩;subst e;exact⟨h3.1,h3.2.1,h3.2.2.1,h3.2.2.2.1,rfl,rfl⟩
     ·exact h3.elim
    ·exact Y4 hh
def bp.D(P:Program)(o:bp)(e:Env)(σ : ae)(v:AV)(σ':ae): Prop :=
 match o.cls with
 | .pu=>(∀ s,o.run P e s (Is v s) No)/\σ' = σ
 | .rd=>(∀ τ,o.run P e (σ++ τ) (Is v (σ++ τ)) No)/\σ' = σ
 | .al=>o.run P e σ (Is v σ') No
 | .st=>o.run P e σ (Is v σ') No
 | .ap=>o.run P e σ (Is v σ') No
 | .cw=>o.run P e σ (Is v σ') No
 | .no=>False
def rJ{o:bp}{e:Env}{σ : ae}{K Kp:AV->ae->Prop}{v:AV}{σ':ae}(hK:K v σ')(h:o.run P e σ (Is v σ') No): o.run P e σ K Kp :=
 q9 (fun v' s h=>by obtain⟨e1,e2⟩:=h;subst e1;subst e2;exact hK) (fun _ _ h=>False.elim h) h
def acD{o:bp}{e:Env}{σ : ae}{K Kp:AV->ae->Prop}(hc:o.cls = .cw)(hh:o.run P e σ K Kp): ∃ v σ',o.run P e σ (Is v σ') No/\K v σ':=by
 cases o<;>simp only[bp.cls]at hc<;>(try (cases hc;done))
 case jF=>split at hc<;>cases hc
 case call=>split at hc<;>cases hc
 case ex o xs=>exact fD.det (by rw[hc];decide) (show o.run P (xs.map (AX.ev e)) σ K Kp from hh)
def Dc{o:bp}{e:Env}{σ : ae}{K Kp:AV->ae->Prop}(hc:o.cls≠ .no): o.run P e σ K Kp↔ ∃ v σ',o.D P e σ v σ'/\K v σ':=by
 unfold bp.D;constructor
 ·intro hh;split
  ·rename_i h;obtain⟨v,h1,h2⟩:=Db h hh;exact⟨v,σ,⟨h1,rfl⟩,h2⟩
  ·rename_i h;obtain⟨v,h1,h2⟩:=zx h hh;exact⟨v,σ,⟨h1,rfl⟩,h2⟩
  ·rename_i h;obtain⟨v,τ,h1,h2⟩:=FN h hh;exact⟨v,_,h1,h2⟩
  ·rename_i h;exact acC h hh
  ·rename_i h;exact Yf h hh
  ·rename_i h;exact acD h hh
  ·rename_i h;exact(hc h).elim
 ·rintro⟨v,σ',hD,hK⟩;split at hD
  ·obtain⟨h1,rfl⟩:=hD;exact rJ hK (h1 _)
  ·obtain⟨h1,rfl⟩:=hD;have h2:=h1 [];rw[bS]at h2;exact rJ hK h2
  ·exact rJ hK hD
  ·exact rJ hK hD
  ·exact rJ hK hD
  ·exact rJ hK hD
  ·exact hD.elim
def Ps{o:bp}{e e':Env}{σ : ae}{v:AV}{σ':ae}(h:∀ t ∈ o.uses,e t=e' t)(hD:o.D P e σ v σ'): o.D P e' σ v σ':=by
 unfold bp.D at *;split at hD
 ·exact⟨fun s=>by rw[<-rH h];exact hD.1 s,hD.2⟩
 ·exact⟨fun s=>by rw[<-rH h];exact hD.1 s,hD.2⟩
 ·rw[<-rH h];exact hD
 ·rw[<-rH h];exact hD
 ·rw[<-rH h];exact hD
 ·rw[<-rH h];exact hD
 ·exact hD.elim
def aau{o:bp}{e:Env}{σ : ae}{v:AV}{σ':ae}(hc:o.cls = .pu\/o.cls = .rd)(hD:o.D P e σ v σ'): σ' = σ:=by
 unfold bp.D at hD;rcases hc with hc|hc<;>simp only[hc]at hD<;>exact hD.2
def aav{o:bp}{e:Env}{σ : ae}{v:AV}{σ':ae}(hc:o.cls = .pu\/o.cls = .rd)(hD:o.D P e σ v σ')(τ : ae): o.D P e (σ++ τ) v (σ++ τ):=by
 unfold bp.D at *;rcases hc with hc|hc<;>simp only[hc]at hD ⊢
 ·exact⟨hD.1,trivial⟩
 ·exact⟨fun agu=>by rw[bt];exact hD.1 _,trivial⟩
def aaw{o:bp}{e:Env}{σ : ae}{v:AV}{σ':ae}(hc:o.cls = .pu)(hD:o.D P e σ v σ')(s:ae): o.D P e s v s:=by
 unfold bp.D at *;simp only[hc]at hD ⊢;exact⟨hD.1,trivial⟩
def ad7{o:bp}{e:Env}{σ : ae}{v:AV}{σ':ae}(hc:o.cls = .al)(hD:o.D P e σ v σ'): ∃ τ,σ' = σ++ τ:=by
 unfold bp.D at hD;simp only[hc]at hD;obtain⟨v',τ,_,h⟩:=FN hc hD;exact⟨τ,h.2.symm⟩
def bp.pM: bp->Option (Option AX)
 | .load _ _ x=>some (some x)
 | .uz .. | .f_ ..=>some none
 | _=>none
def bp.q_: bp->Option AX
 | .store _ x _=>some x
 | .q8 _ (x::_)=>some x
 | .kS k _ _=>some (.t k)
 | .oN k _ _ _ _=>some (.t k)
 | .oO k _ _ _ _=>some (.t k)
 | .app _ _ x _=>some x
 | _=>none
def qx(p q:AV): Prop:= ∀ l,p.obj=some l->q.obj=some l->False
def Pt{σ τ : ae}{l:Nat}{o:aY}(h:l < σ.length): σ.set l o++ τ =(σ++ τ).set l o:=by
 rw[List.set_append_left _ _ h]
def Jc{σ : ae}{ag:Bool}{n:Nat}{p:AV}{K:AV->Prop}{l:Nat}{o:aY}(h:p.obj≠some l)(hh:ik σ ag n p K): ik (σ.set l o) ag n p K:=by
 unfold ik at *;split at hh
 ·rename_i l' off;have hne:l≠l':=fun e=>h (by rw[e];rfl);rw[List.getElem?_set_ne hne];exact hh
 ·exact hh
 ·rename_i el l' m i off;have hne:l≠l':=fun e=>h (by rw[e];rfl);rw[List.getElem?_set_ne hne];exact hh
 ·exact hh
def acE {o : bp} {e : Env} {σ : ae} {v : AV} {σ' : ae} {l : Nat} {ob mg : aY} {rx : Option AX} (hr : o.pM = some rx) (hl : σ[l]? = some ob) (FP : ob.like mg) (hap : ∀ x, rx = some x -> (x.ev e).obj ≠ some l) (hD : o.D P e σ v σ') :
    o.D P e (σ.set l mg) v (σ.set l mg):=by
 have hlt:l < σ.length:=(aN.1 hl).1;have hc:o.cls = .rd:=by cases o<;>simp[bp.pM]at hr<;>rfl
 unfold bp.D at *;simp only[hc]at hD ⊢;refine⟨fun τ=>?_,trivial⟩;have h:=hD.1 τ;rw[Pt hlt];have hl':(σ++ τ)[l]? = some ob:=iU τ hl;generalize σ++ τ = s at *;have Br:l<s.length:=(aN.1 hl').1
 have shape:∀ (k:Nat) (T:Option TypeId) (el:El) (xs:List AV),s[k]? = some (.cy T el xs)-> ∃ ys,(s.set l mg)[k]? = some (.cy T el ys)/\ys.length=xs.length:=fun k T el xs hk=>by
  by_cases s8:l=k
  ·subst s8;rw[hl']at hk;cases hk;obtain⟨ys,rfl,h2⟩:=FP;exact⟨ys,by simp[Br],h2⟩
  ·exact⟨xs,by rw[List.getElem?_set_ne s8];exact hk,rfl⟩
 cases o<;>simp only[bp.pM]at hr<;>(try (cases hr;done))<;>simp only[bp.run]at h ⊢
 case load ag n x =>
  cases hr;exact lD (fun v' h=>⟨h.1,rfl⟩) (Jc (hap x rfl) h)
 case uz el x lo hi =>
  split at h
  ·exact cF (fun _=>cF fun _ h=>⟨h.1,rfl⟩) h
  ·exact⟨h.1,cF (fun _=>cF fun _ h=>⟨h.1,rfl⟩) h.2⟩
  ·refine⟨h.1,?_⟩;have h:=h.2;split at h
   ·rename_i hk;obtain⟨ys,h1,h2⟩:=shape _ _ _ _ hk;simp only[h1,h2];exact⟨h.1,h.2.1,h.2.2.1,cF (fun _=>cF fun _ h=>⟨h.1,rfl⟩) h.2.2.2⟩
   ·exact h.elim
  ·exact h
 case f_ el arr x i =>
  split at h
  ·split at h
   ·exact⟨h.1,h.2.1,h.2.2.1,h.2.2.2.1,rfl⟩
   ·refine⟨h.1,h.2.1,h.2.2.1,?_⟩;have h:=h.2.2.2;split at h
    ·rename_i hk;obtain⟨ys,h1,h2⟩:=shape _ _ _ _ hk;simp only[h1,h2];exact⟨h.1,h.2.1,h.2.2.1,rfl⟩
    ·exact h.elim
   ·exact⟨h.1,h.2.1,h.2.2.1,rfl⟩
   ·exact⟨h.1,h.2.1,h.2.2.1,rfl⟩
   ·exact⟨h.1,h.2.1,h.2.2.1,rfl⟩
   ·exact h.elim
  ·exact h.elim
def aax{o:bp}{e:Env}{σ : ae}{v:AV}{σ':ae}(hc:o.cls = .st)(hD:o.D P e σ v σ'): ∃ y l ob mg,o.q_=some y/\σ[l]? = some ob/\ob.like mg/\(y.ev e).obj=some l/\σ' = σ.set l mg:=by
 unfold bp.D at hD;simp only[hc]at hD;cases o<;>simp only[bp.cls]at hc<;>(try (cases hc;done))<;>simp only[bp.run]at hD
 case ex=>exact absurd hc fD.FO.1
 case jF=>split at hc<;>cases hc
 case call=>split at hc<;>cases hc
 case q8 f args =>
  split at hD
  ·cases args with
   | nil=>exact hD.elim
   | cons x xs =>
     obtain⟨l,ob,mg,r,h1,h2,h3,_,h5⟩:=hD;exact⟨x,l,ob,mg,rfl,h2,h3,h1,h5.2.symm⟩
  ·exact hD.elim
 case store n x v =>
  obtain⟨l,ob,mg,h1,h2,h3,_,h5⟩:=Bq hD;exact⟨x,l,ob,mg,rfl,h1,h2,h3,h5.2.symm⟩
 case kS k T cs =>
  split at hD
  ·rename_i n h1;split at hD
   ·rename_i h2;refine⟨.t k,n,.resv,.bW T cs,rfl,h2,trivial,?_,hD.2.symm⟩;simp only[AX.ev,h1,AV.obj]
   ·exact hD.elim
  ·exact hD.elim
 case oN k T el x y =>
  split at hD
  ·rename_i n h1;split at hD
   ·rename_i h2;split at hD
    ·refine⟨.t k,n,.resv,.cy T el _,rfl,h2,trivial,?_,hD.2.2.2.2.symm⟩;simp only[AX.ev,h1,AV.obj]
    ·exact hD.elim
   ·exact hD.elim
  ·exact hD.elim
 case oO k el z x y =>
  split at hD
  ·rename_i n h1;split at hD
   ·rename_i h2;split at hD
    ·refine⟨.t k,n,.resv,.vec el _,rfl,h2,trivial,?_,hD.2.2.2.2.2.symm⟩;simp only[AX.ev,h1,AV.obj]
    ·exact hD.elim
   ·exact hD.elim
  ·exact hD.elim
def bp.Lo: bp->Option Nat
 | .kS k _ _=>some k
 | .oN k _ _ _ _=>some k
 | .oO k _ _ _ _=>some k
 | _=>none
def Yg {o : bp} {k : Nat} {e : Env} {σ : ae} {v : AV} {σ' : ae} (h : o.Lo = some k) (hD : o.D P e σ v σ') :
    ∃ n ob,e k = .ref n 0/\σ[n]? = some .resv/\ob≠ .resv/\σ' = σ.set n ob/\ ∀ s:ae,s[n]? = some .resv->o.D P e s v (s.set n ob):=by
 cases o<;>simp[bp.Lo]at h
 case kS k' T cs =>
  subst h;have hD:bp.run P (.kS k' T cs) e σ (Is v σ') No:=hD;simp only[bp.run]at hD;split at hD
  ·rename_i n h1;split at hD
   ·rename_i h2;refine⟨n,_,h1,h2,by simp,hD.2.symm,fun s hs=>?_⟩;show bp.run P (.kS k' T cs) e s (Is v _) No;simp only[bp.run,h1,hs];exact⟨hD.1,rfl⟩
   ·exact hD.elim
  ·exact hD.elim
 case oN k' T el x y =>
  subst h;have hD:bp.run P (.oN k' T el x y) e σ (Is v σ') No:=hD;simp only[bp.run]at hD;split at hD
  ·rename_i n h1;split at hD
   ·rename_i h2;split at hD
    ·rename_i ys h3;refine⟨n,_,h1,h2,by simp,hD.2.2.2.2.symm,fun s hs=>?_⟩;show bp.run P (.oN k' T el x y) e s (Is v _) No;simp only[bp.run,h1,hs,h3];exact⟨hD.1,hD.2.1,hD.2.2.1,hD.2.2.2.1,rfl⟩
    ·exact hD.elim
   ·exact hD.elim
  ·exact hD.elim
 case oO k' el z x y =>
  subst h;have hD:bp.run P (.oO k' el z x y) e σ (Is v σ') No:=hD;simp only[bp.run]at hD;split at hD
  ·rename_i n h1;split at hD
   ·rename_i h2;split at hD
    ·rename_i i m h3 h4;refine⟨n,_,h1,h2,by simp,hD.2.2.2.2.2.symm,fun s hs=>?_⟩;show bp.run P (.oO k' el z x y) e s (Is v _) No;simp only[bp.run,h1,hs,h3,h4];exact⟨hD.1,hD.2.1,hD.2.2.1,hD.2.2.2.1,hD.2.2.2.2.1,rfl⟩
    ·exact hD.elim
   ·exact hD.elim
  ·exact hD.elim
def bp.oA: bp->Option AX
 | .load _ _ x=>some x
 | .uz _ x _ _=>some x
 | .f_ _ _ x _=>some x
 | _=>none
def FQ{o:bp}{x:AX}(h:o.oA=some x): o.cls = .rd:=by
 cases o<;>simp[bp.oA]at h<;>rfl
def Pu{o:bp}{e:Env}{σ : ae}{v:AV}{σ':ae}{x:AX}{l:Nat}{ob:aY}(hr:o.oA=some x)(hlt:l < σ.length)(hne:(x.ev e).obj≠some l)(hD:o.D P e σ v σ'): o.D P e (σ.set l ob) v (σ.set l ob):=by
 have hc:=FQ hr;unfold bp.D at *;simp only[hc]at hD ⊢;refine⟨fun τ=>?_,trivial⟩;have h:=hD.1 τ;rw[Pt hlt];generalize σ++ τ = s at *;cases o<;>simp only[bp.oA]at hr<;>(try (cases hr;done))<;>cases hr<;>simp only[bp.run]at h ⊢
 case load ag n =>
  exact lD (fun v' h=>⟨h.1,rfl⟩) (Jc hne h)
 case uz el lo hi =>
  split at h
  ·exact cF (fun _=>cF fun _ h=>⟨h.1,rfl⟩) h
  ·exact⟨h.1,cF (fun _=>cF fun _ h=>⟨h.1,rfl⟩) h.2⟩
  ·rename_i bj l' m o n hx;have Wj:l≠l':=fun e=>hne (by rw[hx,e];rfl);refine⟨h.1,?_⟩;have h:=h.2;rw[List.getElem?_set_ne Wj];split at h
   ·rename_i hk;simp only[hk];exact⟨h.1,h.2.1,h.2.2.1,cF (fun _=>cF fun _ h=>⟨h.1,rfl⟩) h.2.2.2⟩
   ·exact h.elim
  ·exact h
 case f_ el arr i =>
  split at h
  ·split at h
   ·exact⟨h.1,h.2.1,h.2.2.1,h.2.2.2.1,rfl⟩
   ·rename_i bj l' m o n hx;have Wj:l≠l':=fun e=>hne (by rw[hx,e];rfl);refine⟨h.1,h.2.1,h.2.2.1,?_⟩;have h:=h.2.2.2;rw[List.getElem?_set_ne Wj];split at h
    ·rename_i hk;simp only[hk];exact⟨h.1,h.2.1,h.2.2.1,rfl⟩
    ·exact h.elim
   ·exact⟨h.1,h.2.1,h.2.2.1,rfl⟩
   ·exact⟨h.1,h.2.1,h.2.2.1,rfl⟩
   ·exact⟨h.1,h.2.1,h.2.2.1,rfl⟩
   ·exact h.elim
  ·exact h.elim
def ad8{o:bp}{e:Env}{σ : ae}{v:AV}{σ':ae}(hc:o.cls = .ap)(hD:o.D P e σ v σ'): ∃ y,o.q_=some y/\((∃ τ,σ' = σ++ τ)\/ ∃ l ob,l < σ.length/\(y.ev e).obj=some l/\σ' = σ.set l ob):=by
 unfold bp.D at hD;simp only[hc]at hD;cases o<;>simp only[bp.cls]at hc<;>(try (cases hc;done))<;>simp only[bp.run]at hD
 case ex=>exact absurd hc fD.FO.2
 case jF=>split at hc<;>cases hc
 case call=>split at hc<;>cases hc
 case app T el x y =>
  refine⟨x,rfl,?_⟩
  have key:∀ ys:List AV,(match x.ev e with
   | .au=>if ys.length=0 then Is v σ' .au σ else fJ ys.length el/\Is v σ' (.own el σ.length ys.length 0 ys.length) (σ++[.cy T el ys])
   | .aO true bj xs=>bj=el/\if ys.length=0 then Is v σ' (.aO true el xs) σ else fJ (xs.length+ys.length) el/\Is v σ' (.own el σ.length (xs.length+ys.length) 0 (xs.length+ys.length)) (σ++[.cy T el (xs++ys)])
   | .own bj l m lo n => bj = el /\ match σ[l]? with
     | some (.cy T' bg xs)=>(T'=none\/T'=T)/\bg=el/\m=xs.length/\lo=0/\n=xs.length/\fJ (xs.length+ys.length) el/\Is v σ' (.own el l (xs.length+ys.length) 0 (xs.length+ys.length)) (σ.set l (.cy T' el (xs++ys)))
     | _=>False
   | _=>False)->(∃ τ,σ' = σ++ τ)\/ ∃ l ob,l < σ.length/\(x.ev e).obj=some l/\σ' = σ.set l ob:=fun ys h=>by
   split at h
   ·split at h
    ·exact .inl ⟨[],by rw[bS];exact h.2.symm⟩
    ·exact .inl ⟨_,h.2.2.symm⟩
   ·have h:=h.2;split at h
    ·exact .inl ⟨[],by rw[bS];exact h.2.symm⟩
    ·exact .inl ⟨_,h.2.2.symm⟩
   ·rename_i bj l m lo n hx;have h:=h.2;split at h
    ·rename_i hk;exact .inr ⟨l,_,(aN.1 hk).1,by rw[hx];rfl,h.2.2.2.2.2.2.2.symm⟩
    ·exact h.elim
   ·exact h.elim
  unfold oF fM at hD;split at hD
  ·exact key _ hD.2
  ·exact key _ hD.2.2
  ·have hD:=hD.2;split at hD
   ·exact key _ hD.2.2.2
   ·exact hD.elim
  ·exact key _ hD.2.2
  ·obtain⟨u,_,h2⟩:=tD hD.2.2;exact key _ h2.2
  ·exact hD.elim
