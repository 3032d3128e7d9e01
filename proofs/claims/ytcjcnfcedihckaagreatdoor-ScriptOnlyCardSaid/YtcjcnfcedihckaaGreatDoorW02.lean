/- Part. -/
import Derived.Test.YtcjcnfcedihckaaGreatDoorW01
set_option linter.all false
namespace Go.AM
variable {P:Program}
def J8{op:BinOp}{x y:AV}{K K':AV->Prop}(h:∀ v,K v->K' v): jJ op x y K->jJ op x y K':=by
 unfold jJ;split<;>intro hh<;>first|exact h _ hh|exact⟨hh.1,h _ hh.2⟩|exact⟨hh.1,hh.2.1,h _ hh.2.2⟩|exact hh.elim
def Z9{op:BinOp}{x y:AV}{K:AV->Prop}: jJ op x y K-> ∃ v,jJ op x y (fun v'=>v'=v)/\K v:=by
 unfold jJ;split<;>intro hh<;>first|exact⟨_,rfl,hh⟩|exact⟨_,⟨hh.1,rfl⟩,hh.2⟩|exact⟨_,⟨hh.1,hh.2.1,rfl⟩,hh.2.2⟩|exact hh.elim
def MP{op:UnOp}{x:AV}{K K':AV->Prop}(h:∀ v,K v->K' v): BV op x K->BV op x K':=by
 unfold BV;split<;>intro hh<;>simp_all
def abE{op:UnOp}{x:AV}{K:AV->Prop}: BV op x K-> ∃ v,BV op x (fun v'=>v'=v)/\K v:=by
 unfold BV;split<;>intro hh<;>simp_all
def cI{x:Option AV}{d y:Nat}{K K':Nat->Prop}(h:∀ v,K v->K' v): bound x d y K->bound x d y K':=by
 unfold bound;split<;>intro hh<;>simp_all
def kN{x:Option AV}{d y:Nat}{K:Nat->Prop}: bound x d y K-> ∃ v,bound x d y (fun v'=>v'=v)/\K v:=by
 unfold bound;split<;>intro hh<;>simp_all
def Et{el:El}{x:AV}{off:Nat}{ag:Bool}{n:Nat}{K K':AV->Prop}(h:∀ v,K v->K' v): partOf el x off ag n K->partOf el x off ag n K':=by
 unfold partOf;split
 ·exact h _
 ·rintro⟨h1,h2⟩;refine⟨h1,?_⟩;split at h2
  ·exact⟨h _ h2.1,h2.2⟩
  ·exact h2.elim
def J9{el:El}{x:AV}{off:Nat}{ag:Bool}{n:Nat}{K:AV->Prop}: partOf el x off ag n K-> ∃ v,partOf el x off ag n (fun v'=>v'=v)/\K v:=by
 unfold partOf;split
 ·intro h;exact⟨_,rfl,h⟩
 ·rintro⟨h1,h2⟩;split at h2
  ·exact⟨_,⟨h1,rfl,h2.2⟩,h2.1⟩
  ·exact h2.elim
def je{σ : ae}{l:Nat}{o:aZ}(τ : ae)(h : σ[l]? = some o): (σ++ τ)[l]? = some o:=by
 rw[aH (aP.1 h).1];exact h
def lP{σ : ae}{ag:Bool}{n:Nat}{p:AV}{K K':AV->Prop}(h:∀ v,K v->K' v): iI σ ag n p K->iI σ ag n p K':=by
 unfold iI;intro hh;split at hh
 ·split at hh
  ·exact⟨hh.1,hh.2.1,h _ hh.2.2⟩
  ·exact hh.elim
 ·exact Et h hh
 ·split at hh
  ·exact⟨hh.1,hh.2.1,hh.2.2.1,Et h hh.2.2.2⟩
  ·exact hh.elim
 ·exact hh.elim
def uf{σ : ae}{ag:Bool}{n:Nat}{p:AV}{K:AV->Prop}(hh:iI σ ag n p K): ∃ v,(∀ τ,iI (σ++ τ) ag n p (fun v'=>v'=v))/\K v:=by
 unfold iI at hh;split at hh
 ·split at hh
  ·rename_i h;exact⟨_,fun τ=>by simp only[iI,je τ h];exact⟨hh.1,hh.2.1,trivial⟩,hh.2.2⟩
  ·exact hh.elim
 ·obtain⟨v,h1,h2⟩:=J9 hh;exact⟨v,fun τ=>h1,h2⟩
 ·split at hh
  ·rename_i h;obtain⟨v,h1,h2⟩:=J9 hh.2.2.2;exact⟨v,fun τ=>by simp only[iI,je τ h];exact⟨hh.1,hh.2.1,hh.2.2.1,h1⟩,h2⟩
  ·exact hh.elim
 ·exact hh.elim
def uM{σ : ae}{n:Nat}{p v:AV}{K K':ae->Prop}(h:∀ v,K v->K' v): nT σ n p v K->nT σ n p v K':=by
 unfold nT;rintro⟨h1,h2,hh⟩;refine⟨h1,h2,?_⟩;split at hh
 ·split at hh
  ·exact⟨hh.1,h _ hh.2⟩
  ·exact hh.elim
 ·split at hh
  ·exact⟨hh.1,hh.2.1,hh.2.2.1,hh.2.2.2.1,hh.2.2.2.2.1,h _ hh.2.2.2.2.2⟩
  ·exact hh.elim
 ·exact hh.elim
def kp{σ : ae}{el:El}{x:AV}{K K':List AV->Prop}(h:∀ v,K v->K' v): fP σ el x K->fP σ el x K':=by
 unfold fP;intro hh;split at hh
 ·exact h _ hh
 ·exact⟨hh.1,h _ hh.2⟩
 ·refine⟨hh.1,?_⟩;have hh:=hh.2;split at hh
  ·exact⟨hh.1,hh.2.1,h _ hh.2.2⟩
  ·exact hh.elim
 ·exact⟨hh.1,h _ hh.2⟩
 ·exact⟨hh.1,hh.2.1,lP (fun _=>h _) hh.2.2⟩
 ·exact hh.elim
def Fh{σ : ae}{el:El}{x:AV}{K:List AV->Prop}(hh:fP σ el x K): ∃ v,(∀ τ,fP (σ++ τ) el x (fun v'=>v'=v))/\K v:=by
 unfold fP at hh;split at hh
 ·exact⟨_,fun τ=>rfl,hh⟩
 ·exact⟨_,fun τ=>⟨hh.1,rfl⟩,hh.2⟩
 ·obtain⟨h0,hh⟩:=hh;split at hh
  ·rename_i h;exact⟨_,fun τ=>by simp only[fP,je τ h];exact⟨h0,hh.1,hh.2.1,trivial⟩,hh.2.2⟩
  ·exact hh.elim
 ·exact⟨_,fun τ=>⟨hh.1,rfl⟩,hh.2⟩
 ·obtain⟨h0,h1,hh⟩:=hh;obtain⟨v,h2,h3⟩:=uf hh;exact⟨_,fun τ=>⟨h0,h1,lP (fun v' e=>congrArg AV.cells e) (h2 τ)⟩,h3⟩
 ·exact hh.elim
def J_{σ : ae}{T:Option TypeId}{el:El}{x y:AV}{K K':AV->ae->Prop}(h:∀ v s,K v s->K' v s): oY σ T el x y K->oY σ T el x y K':=by
 unfold oY;refine kp fun ys hh=>⟨hh.1,?_⟩;have hh:=hh.2;split at hh
 ·split at hh
  ·simp_all
  ·rename_i h0;simp only[h0,if_false];exact⟨hh.1,h _ _ hh.2⟩
 ·refine⟨hh.1,?_⟩;have hh:=hh.2;split at hh
  ·rename_i h0;simp only[h0,if_true];exact h _ _ hh
  ·rename_i h0;simp only[h0,if_false];exact⟨hh.1,h _ _ hh.2⟩
 ·refine⟨hh.1,?_⟩;have hh:=hh.2;split at hh
  ·exact⟨hh.1,hh.2.1,hh.2.2.1,hh.2.2.2.1,hh.2.2.2.2.1,hh.2.2.2.2.2.1,h _ _ hh.2.2.2.2.2.2⟩
  ·exact hh.elim
 ·exact hh.elim
def Ka{op:Bool}{x y:AV}{K K':AV->Prop}(h:∀ v,K v->K' v): BW op x y K->BW op x y K':=by
 unfold BW;split<;>intro hh<;>simp_all
def Z_{op:Bool}{x y:AV}{K:AV->Prop}: BW op x y K-> ∃ v,BW op x y (fun v'=>v'=v)/\K v:=by
 unfold BW;split<;>intro hh<;>simp_all
def sO{op:Bool}{K K':AV->Prop}(h:∀ v,K v->K' v): ∀(ys:List AV) (x:AV),rE op x ys K->rE op x ys K'
 | [],x=>h x
 | y::ys,x=>Ka fun z=>sO h ys z
def Fi{op:Bool}{K:AV->Prop}: ∀(ys:List AV) (x:AV),rE op x ys K-> ∃ v,rE op x ys (fun v'=>v'=v)/\K v
 | [],x=>fun h=>⟨x,rfl,h⟩
 | y :: ys, x => fun h => by
   obtain⟨z,h1,h2⟩:=Z_ h;obtain⟨v,h3,h4⟩:=Fi ys z h2;exact⟨v,Ka (fun z' e=>by subst e;exact h3) h1,h4⟩
def yL{e:Env}{K K':List AV->Prop}(h:∀ v,K v->K' v): ∀(ps:List (Nat × Nat × AX)) (z:List AV),mu z e ps K->mu z e ps K'
 | [],z=>h z
 |(off,n,x)::r,z=>fun hh=>⟨hh.1,hh.2.1,hh.2.2.1,yL h r _ hh.2.2.2⟩
def Kc{e:Env}{K:List AV->Prop}: ∀(ps:List (Nat × Nat × AX)) (z:List AV),mu z e ps K-> ∃ v,mu z e ps (fun v'=>v'=v)/\K v
 | [],z=>fun h=>⟨z,rfl,h⟩
 | (off, n, x) :: r, z => fun hh => by
   obtain⟨v,h1,h2⟩:=Kc r _ hh.2.2.2;exact⟨v,⟨hh.1,hh.2.1,hh.2.2.1,h1⟩,h2⟩
def sQ{el:El}{e:Env}{K K':List AV->Prop}(h:∀ v,K v->K' v): ∀(ps:List (Nat × AX)) (z:List AV),lz el z e ps K->lz el z e ps K'
 | [],z=>h z
 |(i,x)::r,z=>fun hh=>⟨hh.1,hh.2.1,sQ h r _ hh.2.2⟩
def zX{el:El}{e:Env}{K:List AV->Prop}: ∀(ps:List (Nat × AX)) (z:List AV),lz el z e ps K-> ∃ v,lz el z e ps (fun v'=>v'=v)/\K v
 | [],z=>fun h=>⟨z,rfl,h⟩
 | (i, x) :: r, z => fun hh => by
   obtain⟨v,h1,h2⟩:=zX r _ hh.2.2;exact⟨v,⟨hh.1,hh.2.1,h1⟩,h2⟩
def AX.uses: AX->List Nat
 | .t n=>[n]
 | .c _=>[]
def AX.R6: Option AX->List Nat
 | some x=>x.uses
 | none=>[]
def AX.pA(l:List AX): List Nat:=l.flatMap AX.uses
def br.uses: br->List Nat
 | .mv x | .box x | .wU _ x | .load _ _ x | .qd x | .un _ x | .nw _ x | .QK x | .QL x | .uZ x | .DK _ x | .po _ x | .field _ _ _ x | .ext x _ | .len _ x | .panic x | .Fe x | .Ff x | .Bf _ x | .Gt x | .Gu _ x | .DL _ x=>x.uses
 | .pick c a b=>c.uses++a.uses++b.uses
 | .alloc _ _ | .lp _ | .hold=>[]
 | .ex _ xs=>AX.pA xs
 | .lu k _ _=>[k]
 | .pq k _ _ x y=>k::(x.uses++y.uses)
 | .pz k _ _ x y=>k::(x.uses++y.uses)
 | .build _ ps=>AX.pA (ps.map (·.2.2))
 | .jI _ _ _ _ ps=>AX.pA (ps.map (·.2))
 | .store _ x v=>x.uses++v.uses
 | .bin _ x y | .r_ _ _ _ x y | .gG _ _ x y | .j_ x y | .yJ _ _ x y | .app _ _ x y | .wT _ x y | .Es _ x y | .nS _ _ x y | .qf _ _ x y=>x.uses++y.uses
 | .wS _ f c=>AX.pA f++AX.pA c
 | .pH x lo hi | .tS _ x lo hi=>x.uses++AX.R6 lo++AX.R6 hi
 | .call _ f args | .rL f args=>f.uses++AX.pA args
 | .min x xs | .max x xs=>x.uses++AX.pA xs
def AX.eP{e e':Env}{x:AX}(h:∀ t ∈ x.uses,e t=e' t): x.ev e=x.ev e':=by
 cases x with
 | t n=>exact h n (by simp[AX.uses])
 | c a=>rfl
def AX.xV{e e':Env}{x:Option AX}(h:∀ t ∈ AX.R6 x,e t=e' t): x.map (AX.ev e)=x.map (AX.ev e'):=by
 cases x with
 | none=>rfl
 | some x=>exact congrArg some (AX.eP h)
def AX.oa{e e':Env}{l:List AX}(h:∀ t ∈ AX.pA l,e t=e' t): l.map (AX.ev e)=l.map (AX.ev e'):=by
 refine List.map_congr_left fun x hx=>AX.eP fun t ht=>h t ?_;exact List.mem_flatMap.2 ⟨x,hx,ht⟩
def BY{e e':Env}{K:List AV->Prop}: ∀(ps:List (Nat × Nat × AX)) (z:List AV),(∀ t ∈ AX.pA (ps.map (·.2.2)),e t=e' t)->mu z e ps K=mu z e' ps K
 | [],z,_=>rfl
 | (off, n, x) :: r, z, h => by
   have h1:x.ev e=x.ev e':=AX.eP fun t ht=>h t (by simp[AX.pA,ht]);simp only[mu,h1];rw[BY r _ fun t ht=>h t (by simp only[aU,AX.pA,dw,iz];exact .inr ht)]
def Bg{el:El}{e e':Env}{K:List AV->Prop}: ∀(ps:List (Nat × AX)) (z:List AV),(∀ t ∈ AX.pA (ps.map (·.2)),e t=e' t)->lz el z e ps K=lz el z e' ps K
 | [],z,_=>rfl
 | (i, x) :: r, z, h => by
   have h1:x.ev e=x.ev e':=AX.eP fun t ht=>h t (by simp[AX.pA,ht]);simp only[lz,h1];rw[Bg r _ fun t ht=>h t (by simp only[aU,AX.pA,dw,iz];exact .inr ht)]
def sj{o:br}{e e':Env}{σ : ae}{K Kp:AV->ae->Prop}(h:∀ t ∈ o.uses,e t=e' t): o.run P e σ K Kp=o.run P e' σ K Kp:=by
 cases o<;>simp only[br.uses,List.mem_append]at h
 case build z ps=>exact BY ps _ h
 case jI mt el z n ps=>exact Bg ps _ h
 case ex o xs=>simp only[br.run,AX.oa h]
 case alloc=>rfl
 case lp=>rfl
 case hold=>rfl
 case lu k T cs=>simp only[br.run,h k (by simp)]
 case pq k T el x y=>simp only[br.run,h k (by simp),AX.eP (x:=x) (fun t ht=>h t (by simp[ht])),AX.eP (x:=y) (fun t ht=>h t (by simp[ht]))]
 case pz k el z x y=>simp only[br.run,h k (by simp),AX.eP (x:=x) (fun t ht=>h t (by simp[ht])),AX.eP (x:=y) (fun t ht=>h t (by simp[ht]))]
 case pick c a b=>simp only[br.run,AX.eP (fun t ht=>h t (.inl (.inl ht))),AX.eP (fun t ht=>h t (.inl (.inr ht))),AX.eP (fun t ht=>h t (.inr ht))]
 case wS f a b=>simp only[br.run,AX.oa (fun t ht=>h t (.inl ht)),AX.oa (fun t ht=>h t (.inr ht))]
 case pH x lo hi=>simp only[br.run,AX.eP (fun t ht=>h t (.inl (.inl ht))),AX.xV (fun t ht=>h t (.inl (.inr ht))),AX.xV (fun t ht=>h t (.inr ht))]
 case tS el x lo hi=>simp only[br.run,AX.eP (fun t ht=>h t (.inl (.inl ht))),AX.xV (fun t ht=>h t (.inl (.inr ht))),AX.xV (fun t ht=>h t (.inr ht))]
 case call q f args=>simp only[br.run,AX.eP (fun t ht=>h t (.inl ht)),AX.oa (fun t ht=>h t (.inr ht))]
 case rL f args=>simp only[br.run,AX.eP (fun t ht=>h t (.inl ht)),AX.oa (fun t ht=>h t (.inr ht))]
 case min x xs=>simp only[br.run,AX.eP (fun t ht=>h t (.inl ht)),AX.oa (fun t ht=>h t (.inr ht))]
 case max x xs=>simp only[br.run,AX.eP (fun t ht=>h t (.inl ht)),AX.oa (fun t ht=>h t (.inr ht))]
 all_goals first
  | simp only[br.run,AX.eP h]
  | simp only[br.run,AX.eP (fun t ht=>h t (.inl ht)),AX.eP (fun t ht=>h t (.inr ht))]
inductive Cls where
 | pu|rd|al|st|ap|cw|no
deriving DecidableEq
def fM.cls: fM->Cls
 | .J7 .. | .IP .. | .Uj ..=> .pu
 | .inv _ | .pc _=> .no
 | .Fa .. | .Fb | .IQ _ | .Fc _=> .rd
 | .Gr=> .al
 | .cw ..=> .cw
 | _=> .cw
def br.cls: br->Cls
 | .ex o _=>o.cls
 | .mv _ | .pick .. | .build .. | .qd _ | .bin .. | .r_ .. | .un .. | .nw .. | .QK _ | .DK .. | .wS .. | .pH .. | .po .. | .field .. | .j_ .. | .yJ .. | .ext .. | .len .. | .min .. | .max .. | .qf ..=> .pu
 | .jI mt ..=>if mt then .al else .pu
 | .load .. | .uZ _ | .tS .. | .gG .. | .Bf ..=> .rd
 | .call q ..=>if q then .rd else .no
 | .alloc .. | .box _ | .wU .. | .QL _ | .nS .. | .lp _=> .al
 | .store .. | .rL .. | .lu .. | .pq .. | .pz ..=> .st
 | .app ..=> .ap
 | _=> .no
def iV{lo:Option AV}{hi mx:AV}{cap:Nat}{K K':Nat->Nat->Nat->Prop}(h:∀ a b c,K a b c->K' a b c): oK lo hi mx cap K->oK lo hi mx cap K' :=
 cI fun _=>cI fun _=>cI fun _=>h _ _ _
def Ke{σ : ae}{el:El}{x:AV}{lo:Option AV}{hi mx:AV}{K K':AV->ae->Prop}(h:∀ v s,K v s->K' v s): yK σ el x lo hi mx K->yK σ el x lo hi mx K':=by
 unfold yK;split
 ·exact iV fun _ _ _=>h _ _
 ·exact fun hh=>⟨hh.1,iV (fun _ _ _=>h _ _) hh.2⟩
 ·refine fun hh=>⟨hh.1,?_⟩;have hh:=hh.2;split at hh
  ·refine⟨hh.1,hh.2.1,hh.2.2.1,iV (fun l b m=>?_) hh.2.2.2⟩;by_cases e:m=l
   ·simp only[e,if_true];exact h _ _
   ·simp only[e,if_false];exact fun k=>⟨k.1,h _ _ k.2⟩
  ·exact hh.elim
 ·exact id
def Ul{σ : ae}{el:El}{x y:AV}{K K':AV->ae->Prop}(h:∀ v s,K v s->K' v s): Fg σ el x y K->Fg σ el x y K':=by
 unfold Fg;split
 ·refine fun hh=>⟨hh.1,kp (fun ys hh=>⟨hh.1,?_⟩) hh.2⟩;have hh:=hh.2;split at hh
  ·exact⟨hh.1,hh.2.1,hh.2.2.1,hh.2.2.2.1,h _ _ hh.2.2.2.2⟩
  ·exact hh.elim
 ·exact J_ h
def R7{σ : ae}{el:El}{x y:AV}{K K':AV->ae->Prop}(h:∀ v s,K v s->K' v s): Gv σ el x y K->Gv σ el x y K':=by
 unfold Gv;refine kp fun ys hh=>⟨hh.1,?_⟩;have hh:=hh.2;unfold BX at *;split at hh
 ·exact h _ _ hh
 ·exact⟨hh.1,h _ _ hh.2⟩
 ·exact⟨hh.1,hh.2.1,uM (fun s=>h _ s) hh.2.2⟩
 ·refine⟨hh.1,?_⟩;have hh:=hh.2;split at hh
  ·exact⟨hh.1,hh.2.1,hh.2.2.1,h _ _ hh.2.2.2⟩
  ·exact hh.elim
 ·exact hh.elim
def u0{el:El}{n:Nat}{p:AV}{lo hi:Option AV}{K K':AV->Prop}(h:∀ v,K v->K' v): zS el n p lo hi K->zS el n p lo hi K' :=
 fun hh=>⟨hh.1,cI (fun _=>cI fun _=>h _) hh.2⟩
def zY{el:El}{x:AV}{lo:Option AV}{hi mx:AV}{K K':AV->Prop}(h:∀ v,K v->K' v): uK el x lo hi mx K->uK el x lo hi mx K':=by
 unfold uK;split
 ·exact iV fun _ _ _=>h _
 ·exact fun hh=>⟨hh.1,iV (fun _ _ _=>h _) hh.2⟩
 ·exact fun hh=>⟨hh.1,iV (fun _ _ _=>h _) hh.2⟩
 ·exact id
def R8{σ : ae}{el:El}{x y:AV}{K K':AV->Prop}(h:∀ v,K v->K' v): DM σ el x y K->DM σ el x y K':=by
 unfold DM;refine kp fun ys hh=>⟨hh.1,hh.2.1,?_⟩;have hh:=hh.2.2;split at hh
 ·exact⟨hh.1,h _ hh.2⟩
 ·exact⟨hh.1,hh.2.1,h _ hh.2.2⟩
 ·exact hh.elim
def Gx{σ : ae}{x:AV}{K K':Bool->Prop}(h:∀ v,K v->K' v): wc σ x K->wc σ x K':=by
 unfold wc;split
 ·exact h _
 ·exact h _
 ·exact h _
 ·split
  ·exact fun hh=>⟨hh.1,hh.2.1,h _ hh.2.2⟩
  ·exact id
 ·exact id
def Xp{σ : ae}{x:AV}{K:Bool->Prop}(hh:wc σ x K): ∃ v,(∀ τ,wc (σ++ τ) x (fun v'=>v'=v))/\K v:=by
 unfold wc at hh ⊢;split at hh
 ·exact⟨_,fun _=>rfl,hh⟩
 ·exact⟨_,fun _=>rfl,hh⟩
 ·exact⟨_,fun _=>rfl,hh⟩
 ·split at hh
  ·rename_i h1;exact⟨false,fun τ=>by simp only[je τ h1];exact⟨hh.1,hh.2.1,trivial⟩,hh.2.2⟩
  ·exact hh.elim
 ·exact hh.elim
def Kf{T:TypeId}{ok:Bool}{z x:AV}{K K':AV->Prop}(h:∀ v,K v->K' v): zT T ok z x K->zT T ok z x K':=by
 unfold zT;split
 ·split
  ·exact h _
  ·exact fun hh=>⟨hh.1,h _ hh.2⟩
 ·exact fun hh=>⟨hh.1,h _ hh.2⟩
 ·exact id
def Um{σ : ae}{n:Nat}{x:AV}{K K':AV->ae->Prop}(h:∀ v s,K v s->K' v s): zU σ n x K->zU σ n x K':=by
 unfold zU;split
 ·exact fun hh=>⟨hh.1,hh.2.1,hh.2.2.1,h _ _ hh.2.2.2⟩
 ·refine fun hh=>⟨hh.1,?_⟩;have hh:=hh.2;split at hh
  ·exact⟨hh.1,hh.2.1,hh.2.2.1,hh.2.2.2.1,hh.2.2.2.2.1,h _ _ hh.2.2.2.2.2⟩
  ·exact hh.elim
 ·exact id
def R9{σ : ae}{kd:Option IntKind}{zero x k:AV}{K K':AV->ae->Prop}(h:∀ v s,K v s->K' v s): wg σ kd zero x k K->wg σ kd zero x k K':=by
 unfold wg;split
 ·refine fun hh=>⟨hh.1,?_⟩;have hh:=hh.2;split at hh
  ·split at hh
   ·exact h _ _ hh
   ·exact h _ _ hh
   ·exact hh.elim
  ·exact hh.elim
 ·exact id
def Gy{σ : ae}{x s v:AV}{K K':ae->Prop}(h:∀ s,K s->K' s): uL σ x s v K->uL σ x s v K':=by
 unfold uL;split
 ·split
  ·exact fun hh=>⟨hh.1,hh.2.1,h _ hh.2.2⟩
  ·exact id
 ·exact id
def Kg{σ : ae}{el:El}{zero x:AV}{K K':ae->Prop}(h:∀ s,K s->K' s): zV σ el zero x K->zV σ el zero x K':=by
 unfold zV;split
 ·exact h _
 ·exact h _
 ·refine fun hh=>⟨hh.1,hh.2.1,?_⟩;have hh:=hh.2.2;split at hh
  ·exact⟨hh.1,hh.2.1,hh.2.2.1,h _ hh.2.2.2⟩
  ·exact hh.elim
 ·exact id
def aac{T:TypeId}{ok:Bool}{z x:AV}{K:AV->Prop}(hh:zT T ok z x K): ∃ v,zT T ok z x (fun v'=>v'=v)/\K v:=by
 unfold zT at hh ⊢;split at hh
 ·split at hh
  ·rename_i e;exact⟨_,by rw[if_pos e],hh⟩
  ·rename_i e;exact⟨_,by rw[if_neg e];exact⟨hh.1,rfl⟩,hh.2⟩
 ·exact⟨_,⟨hh.1,rfl⟩,hh.2⟩
 ·exact hh.elim
def aad{σ : ae}{n:Nat}{x:AV}{K:AV->ae->Prop}(hh:zU σ n x K): ∃ v σ',zU σ n x (fun v' s'=>v'=v/\s' = σ')/\K v σ':=by
 unfold zU at hh ⊢;split at hh
 ·exact⟨_,_,⟨hh.1,hh.2.1,hh.2.2.1,rfl,rfl⟩,hh.2.2.2⟩
 ·obtain⟨h0,hh⟩:=hh;split at hh
  ·exact⟨_,_,⟨h0,hh.1,hh.2.1,hh.2.2.1,hh.2.2.2.1,hh.2.2.2.2.1,rfl,rfl⟩,hh.2.2.2.2.2⟩
  ·exact hh.elim
 ·exact hh.elim
def Xq{σ : ae}{kd:Option IntKind}{zero x k:AV}{K:AV->ae->Prop}(hh:wg σ kd zero x k K): ∃ v σ',wg σ kd zero x k (fun v' s'=>v'=v/\s' = σ')/\K v σ':=by
 unfold wg at hh ⊢;split at hh
 ·obtain⟨h0,hh⟩:=hh;split at hh
  ·split at hh
   ·exact⟨_,_,⟨h0,rfl,rfl⟩,hh⟩
   ·exact⟨_,_,⟨h0,rfl,rfl⟩,hh⟩
   ·exact hh.elim
  ·exact hh.elim
 ·exact hh.elim
def Xr{σ : ae}{x s v:AV}{K:ae->Prop}(hh:uL σ x s v K): ∃ σ',uL σ x s v (fun s'=>s' = σ')/\K σ':=by
 unfold uL at hh ⊢;split at hh
 ·split at hh
  ·exact⟨_,⟨hh.1,hh.2.1,rfl⟩,hh.2.2⟩
  ·exact hh.elim
 ·exact hh.elim
def Un{σ : ae}{x:AV}{K K':AV->ae->Prop}(h:∀ v s,K v s->K' v s): zW σ x K->zW σ x K':=by
 unfold zW;split
 ·exact h _ _
 ·exact h _ _
 ·split
  ·exact fun⟨a,b,c,d⟩=>⟨a,b,c,h _ _ d⟩
  ·exact id
 ·exact id
def aae{σ : ae}{el:El}{zero x:AV}{K:ae->Prop}(hh:zV σ el zero x K): ∃ σ',zV σ el zero x (fun s'=>s' = σ')/\K σ':=by
 unfold zV at hh ⊢;split at hh
 ·exact⟨_,rfl,hh⟩
 ·exact⟨_,rfl,hh⟩
 ·obtain⟨h0,h1,hh⟩:=hh;split at hh
  ·exact⟨_,⟨h0,h1,hh.1,hh.2.1,hh.2.2.1,rfl⟩,hh.2.2.2⟩
  ·exact hh.elim
 ·exact hh.elim
def fM.rM{o:fM}{vs:List AV}{σ : ae}{K K' Kp Uo:AV->ae->Prop}(h:∀ v s,K v s->K' v s)(hp:∀ v s,Kp v s->Uo v s): o.run P vs σ K Kp->o.run P vs σ K' Uo:=by
 unfold fM.run;split
 ·exact Ke h
 ·exact Ke h
 ·exact h _ _
 ·exact fun hh=>⟨hh.1,h _ _ hh.2⟩
 ·refine fun hh=>⟨hh.1,?_⟩;have hh:=hh.2;split at hh
  ·split at hh
   ·exact h _ _ hh
   ·exact h _ _ hh
   ·exact hh.elim
  ·exact hh.elim
 ·refine fun hh=>⟨hh.1,?_⟩;have hh:=hh.2;split at hh
  ·split at hh
   ·exact h _ _ hh
   ·exact hh.elim
  ·exact hh.elim
 ·exact h _ _
 ·split
  ·exact h _ _
  ·exact id
 ·exact u0 fun v=>h v σ
 ·exact u0 fun v=>h v σ
 ·exact u0 fun v=>h v σ
 ·exact u0 fun v=>h v σ
 ·exact R7 h
 ·exact Ul h
 ·exact R8 fun v=>h v σ
 ·exact Gx fun v=>h _ σ
 ·exact fun⟨r,s2,h1,h2,h3⟩=>⟨r,s2,h1,h2,h _ _ h3⟩
 ·exact zY fun v=>h v σ
 ·exact zY fun v=>h v σ
 ·split
  ·refine fun hh=>hh.mono fun o s=>?_;cases o
   ·exact h _ _
   ·exact hp _ _
  ·exact id
 ·exact Kf fun v=>h v σ
 ·exact Um h
 ·exact R9 h
 ·exact Gy fun s=>h _ s
 ·exact Kg fun s=>h _ s
 ·rintro⟨o,h1,h2⟩;refine⟨o,h1,?_⟩;cases o
  ·exact h _ _ h2
  ·exact fun s=>hp _ _ (h2 s)
 ·exact Un h
 ·exact id
def rM{o:br}{e:Env}{σ : ae}{K K' Kp Uo:AV->ae->Prop}(h:∀ v s,K v s->K' v s)(hp:∀ v s,Kp v s->Uo v s): o.run P e σ K Kp->o.run P e σ K' Uo:=by
 cases o<;>simp only[br.run]
 case ex o xs=>exact fM.rM h hp
 case mv x=>exact h _ _
 case alloc T cs=>exact h _ _
 case lp el=>exact h _ _
 case hold=>exact h _ _
 case wU=>exact fun hh=>⟨hh.1,h _ _ hh.2⟩
 case lu k T cs =>
  split
  ·split
   ·exact h _ _
   ·exact id
  ·exact id
 case pq k T el x y =>
  split
  ·split
   ·split
    ·exact fun hh=>⟨hh.1,hh.2.1,hh.2.2.1,h _ _ hh.2.2.2⟩
    ·exact id
   ·exact id
  ·exact id
 case pz k el z x y =>
  split
  ·split
   ·split
    ·exact fun hh=>⟨hh.1,hh.2.1,hh.2.2.1,hh.2.2.2.1,h _ _ hh.2.2.2.2⟩
    ·exact id
   ·exact id
  ·exact id
 case DK t x=>exact h _ _
 case wS f a b=>exact h _ _
 case box x=>exact fun hh=>⟨hh.1,h _ _ hh.2⟩
 case build z ps=>exact yL (fun v=>h _ _) _ _
 case jI mt el z n ps=>exact sQ (fun v=>by split<;>exact h _ _) _ _
 case load ag n x=>exact lP fun v=>h _ _
 case store n x v=>exact uM fun v=>h _ _
 case bin op x y=>exact J8 fun v=>h _ _
 case un op x=>exact MP fun v=>h _ _
 case app T el x y=>exact J_ h
 case DL=>exact fun hh=>⟨hh.1,h _ _ hh.2⟩
 case Bf =>
  split
  ·exact h _ _
  ·refine fun hh=>⟨hh.1,?_⟩;have hh:=hh.2;split at hh
   ·exact⟨hh.1,hh.2.1,hh.2.2.1,h _ _ hh.2.2.2⟩
   ·exact hh.elim
  ·exact id
 case wT =>
  split
  ·exact fun hh=>⟨hh.1,h _ _ hh.2⟩
  ·refine fun hh=>⟨hh.1,hh.2.1,hh.2.2.1,?_⟩;have hh:=hh.2.2.2;split at hh
   ·obtain⟨a1,a2,a3,a4,a5,s,a6,a7⟩:=hh;exact⟨a1,a2,a3,a4,a5,s,a6,h _ _ a7⟩
   ·exact hh.elim
  ·exact id
 case Gt =>
  split
  ·split
   ·exact fun hh=>⟨hh.1,h _ _ hh.2⟩
   ·exact id
  ·exact id
 case Gu =>
  split
  ·split
   ·exact fun hh=>⟨hh.1,h _ _ hh.2⟩
   ·exact id
  ·exact id
 case Es =>
  split
  ·refine fun hh=>⟨hh.1,hh.2.1,?_⟩;have hh:=hh.2.2;split at hh
   ·exact h _ _ hh
   ·exact hh.elim
  ·exact id
 case min x xs=>exact sO (fun v=>h _ _) _ _
 case max x xs=>exact sO (fun v=>h _ _) _ _
 case uZ x=>exact fun hh=>⟨hh.1,kp (fun v ⟨s,h1,h2⟩=>⟨s,h1,h _ _ h2⟩) hh.2⟩
 case pick c a b=>split<;>first|exact h _ _|exact id
 case qd x=>split<;>first|exact h _ _|exact id
 case r_=>split<;>first|exact h _ _|exact id
 case nw=>split<;>first|exact h _ _|exact id
 case QK=>split<;>first|exact h _ _|exact id
 case qf=>split<;>first|exact h _ _|exact id
 case po=>split<;>first|exact h _ _|exact id
 case panic=>split<;>first|exact hp _ _|exact id
 case Fe=>split<;>first|exact h _ _|exact id
 case Ff =>
  split
  ·split
   ·split<;>exact h _ _
   ·exact id
  ·exact id
 case len=>split<;>first|exact h _ _|exact id
 case QL=>split<;>first|exact fun hh=>⟨hh.1,h _ _ hh.2⟩|exact id
 case ext=>split<;>first|exact fun hh=>⟨hh.1,h _ _ hh.2⟩|exact id
 case field=>split<;>first|exact fun hh=>⟨hh.1,hh.2.1,h _ _ hh.2.2⟩|exact id
 case j_=>split<;>first|exact fun hh=>⟨hh.1,hh.2.1,h _ _ hh.2.2⟩|exact id
 case yJ=>split<;>first|exact fun hh=>⟨hh.1,hh.2.1,hh.2.2.1,hh.2.2.2.1,h _ _ hh.2.2.2.2⟩|exact id
 case nS=>split<;>first|exact fun hh=>⟨hh.1,hh.2.1,hh.2.2.1,hh.2.2.2.1,h _ _ hh.2.2.2.2⟩|exact id
 case pH x lo hi=>split<;>first|exact cI (fun _=>cI fun _=>h _ _)|exact id
 case tS el x lo hi =>
  split
  ·exact cI (fun _=>cI fun _=>h _ _)
  ·exact fun hh=>⟨hh.1,cI (fun _=>cI fun _=>h _ _) hh.2⟩
  ·refine fun hh=>⟨hh.1,?_⟩;have hh:=hh.2;split at hh
   ·exact⟨hh.1,hh.2.1,hh.2.2.1,cI (fun _=>cI fun _=>h _ _) hh.2.2.2⟩
   ·exact hh.elim
  ·exact id
 case gG el arr x i =>
  intro hh;split at hh
  ·split at hh
   ·exact⟨hh.1,hh.2.1,hh.2.2.1,h _ _ hh.2.2.2⟩
   ·refine⟨hh.1,hh.2.1,hh.2.2.1,?_⟩;have hh:=hh.2.2.2;split at hh
    ·exact⟨hh.1,hh.2.1,h _ _ hh.2.2⟩
    ·exact hh.elim
   ·exact⟨hh.1,hh.2.1,h _ _ hh.2.2⟩
   ·exact⟨hh.1,hh.2.1,h _ _ hh.2.2⟩
   ·exact⟨hh.1,hh.2.1,h _ _ hh.2.2⟩
   ·exact hh.elim
  ·exact hh.elim
 case rL f args =>
  split
  ·unfold DJ;split
   ·exact fun⟨l,ob,mF,r,h1,h2,h3,h4,h5⟩=>⟨l,ob,mF,r,h1,h2,h3,h4,h _ _ h5⟩
   ·exact id
  ·exact id
 case call q f args =>
  split
  ·split
   ·exact fun⟨r,h1,h2⟩=>⟨r,h1,h _ _ h2⟩
   ·exact fun hh=>hh.mono fun o s=>by cases o<;>first|exact h _ _|exact hp _ _
  ·split
   ·exact id
   ·exact fun hh=>hh.mono fun o s=>by cases o<;>first|exact h _ _|exact hp _ _
  ·exact id
abbrev Is(v:AV)(σ : ae): AV->ae->Prop:=fun v' σ'=>v'=v/\σ' = σ
abbrev No: AV->ae->Prop:=fun _ _=>False
def aaf{el:El}{n:Nat}{p:AV}{lo hi:Option AV}{K:AV->Prop}(hh:zS el n p lo hi K): ∃ v,zS el n p lo hi (fun v'=>v'=v)/\K v:=by
 obtain⟨v,h1,h2⟩:=kN hh.2;obtain⟨u,h3,h4⟩:=kN h2;exact⟨_,⟨hh.1,cI (fun v' e=>by subst e;exact cI (fun u' e=>by subst e;rfl) h3) h1⟩,h4⟩
def sk{lo:Option AV}{hi mx:AV}{cap:Nat}{K:Nat->Nat->Nat->Prop}(h:oK lo hi mx cap K): ∃ a b c,oK lo hi mx cap (fun a' b' c'=>a'=a/\b'=b/\c'=c)/\K a b c:=by
 obtain⟨m,h1,h2⟩:=kN h;obtain⟨b,h3,h4⟩:=kN h2;obtain⟨a,h5,h6⟩:=kN h4;exact⟨a,b,m,cI (fun m' e=>by subst e;exact cI (fun b' e=>by subst e;exact cI (fun a' e=>⟨e,rfl,rfl⟩) h5) h3) h1,h6⟩
def Xs{el:El}{x:AV}{lo:Option AV}{hi mx:AV}{K:AV->Prop}(hh:uK el x lo hi mx K): ∃ v,uK el x lo hi mx (fun v'=>v'=v)/\K v:=by
 unfold uK at hh ⊢;split at hh
 ·obtain⟨a,b,c,h1,h2⟩:=sk hh;exact⟨_,iV (fun _ _ _ _=>rfl) h1,h2⟩
 ·obtain⟨a,b,c,h1,h2⟩:=sk hh.2;exact⟨_,⟨hh.1,iV (fun _ _ _ e=>by obtain⟨rfl,rfl,rfl⟩:=e;rfl) h1⟩,h2⟩
 ·obtain⟨a,b,c,h1,h2⟩:=sk hh.2;exact⟨_,⟨hh.1,iV (fun _ _ _ _=>rfl) h1⟩,h2⟩
 ·exact hh.elim
def fM.DN{o:fM}{vs:List AV}{σ : ae}{K Kp:AV->ae->Prop}(hc:o.cls = .pu)(hh:o.run P vs σ K Kp): ∃ v,(∀ σ',o.run P vs σ' (Is v σ') No)/\K v σ:=by
 cases o<;>simp only[fM.cls]at hc<;>(try (cases hc;done))
 ·unfold fM.run at hh ⊢
  split at hh<;>(try (rename_i h;cases h))<;>first
   |(obtain⟨v,h1,h2⟩:=aaf hh;exact⟨v,fun σ'=>u0 (fun v' e=>⟨e,rfl⟩) h1,h2⟩)
   | exact hh.elim
 ·unfold fM.run at hh ⊢
  split at hh<;>(try (rename_i h;cases h))<;>first
   |(obtain⟨v,h1,h2⟩:=Xs hh;exact⟨v,fun σ'=>zY (fun v' e=>⟨e,rfl⟩) h1,h2⟩)
   | exact hh.elim
 ·unfold fM.run at hh ⊢
  split at hh<;>(try (rename_i h;cases h))<;>first
   |(obtain⟨v,h1,h2⟩:=aac hh;exact⟨v,fun σ'=>Kf (fun v' e=>⟨e,rfl⟩) h1,h2⟩)
   | exact hh.elim
def fM.zZ{o:fM}{vs:List AV}{σ : ae}{K Kp:AV->ae->Prop}(hc:o.cls = .rd)(hh:o.run P vs σ K Kp): ∃ v,(∀ τ,o.run P vs (σ++ τ) (Is v (σ++ τ)) No)/\K v σ:=by
 cases o<;>simp only[fM.cls]at hc<;>(try (cases hc;done))
 case Fc neg =>
  unfold fM.run at hh ⊢;split at hh<;>(try (rename_i h;cases h))<;>(try exact hh.elim);obtain⟨v,h1,h2⟩:=Xp hh;exact⟨_,fun τ=>Gx (fun v' e=>by subst e;exact⟨rfl,rfl⟩) (h1 τ),h2⟩
 case IQ el =>
  unfold fM.run at hh ⊢;split at hh<;>(try (rename_i h;cases h))<;>(try exact hh.elim);unfold DM at hh ⊢;obtain⟨ys,h1,h2,h3,h4⟩:=Fh hh;split at h4
  ·exact⟨_,fun τ=>kp (fun zs (e:zs=ys)=>by subst e;exact⟨h2,h3,h4.1,rfl,rfl⟩) (h1 τ),h4.2⟩
  ·exact⟨_,fun τ=>kp (fun zs (e:zs=ys)=>by subst e;exact⟨h2,h3,h4.1,h4.2.1,rfl,rfl⟩) (h1 τ),h4.2.2⟩
  ·exact h4.elim
 case Fa kd ok zero =>
  unfold fM.run at hh ⊢;split at hh<;>(try (rename_i h;cases h))
  ·exact⟨_,fun τ=>⟨hh.1,rfl,rfl⟩,hh.2⟩
  ·obtain⟨h0,hh⟩:=hh;split at hh
   ·rename_i h1;split at hh
    ·rename_i h2;exact⟨_,fun τ=>by simp only[je τ h1,h2];exact⟨h0,rfl,rfl⟩,hh⟩
    ·rename_i h2;exact⟨_,fun τ=>by simp only[je τ h1,h2];exact⟨h0,rfl,rfl⟩,hh⟩
    ·exact hh.elim
   ·exact hh.elim
  ·exact hh.elim
 case Fb =>
  unfold fM.run at hh ⊢;split at hh<;>(try (rename_i h;cases h))
  ·exact⟨_,fun τ=>⟨rfl,rfl⟩,hh⟩
  ·split at hh
   ·rename_i h1;exact⟨_,fun τ=>by simp only[je τ h1];exact⟨rfl,rfl⟩,hh⟩
   ·exact hh.elim
  ·exact hh.elim
def fM.Gz{o:fM}{vs:List AV}{σ : ae}{K Kp:AV->ae->Prop}(hc:o.cls = .al)(hh:o.run P vs σ K Kp): ∃ v τ,o.run P vs σ (Is v (σ++ τ)) No/\K v (σ++ τ):=by
 cases o<;>simp only[fM.cls]at hc<;>(try (cases hc;done));unfold fM.run at hh ⊢;split at hh<;>(try (rename_i h;cases h))
 ·exact⟨_,_,⟨rfl,rfl⟩,hh⟩
 ·exact hh.elim
def fM.GA{o:fM}: o.cls≠ .st/\o.cls≠ .ap:=by cases o<;>simp[fM.cls]
def DN{o:br}{e:Env}{σ : ae}{K Kp:AV->ae->Prop}(hc:o.cls = .pu)(hh:o.run P e σ K Kp): ∃ v,(∀ σ',o.run P e σ' (Is v σ') No)/\K v σ:=by
 cases o<;>simp only[br.cls]at hc<;>(try (cases hc;done))<;>simp only[br.run]at hh ⊢
 case ex o xs=>exact fM.DN hc hh
 case mv x=>exact⟨_,fun _=>⟨rfl,rfl⟩,hh⟩
 case DK t x=>exact⟨_,fun _=>⟨rfl,rfl⟩,hh⟩
 case wS f a b=>exact⟨_,fun _=>⟨rfl,rfl⟩,hh⟩
 case build z ps=>obtain⟨v,h1,h2⟩:=Kc _ _ hh;exact⟨_,fun _=>yL (fun v' e=>⟨congrArg AV.agg e,rfl⟩) _ _ h1,h2⟩
 case jI mt el z n ps =>
  cases mt
  ·obtain⟨v,h1,h2⟩:=zX _ _ hh;simp only[aB,if_false]at h2 ⊢;exact⟨_,fun _=>sQ (fun v' e=>⟨congrArg (AV.aO true el) e,rfl⟩) _ _ h1,h2⟩
  ·cases hc
 case bin op x y=>obtain⟨v,h1,h2⟩:=Z9 hh;exact⟨v,fun _=>J8 (fun v' e=>⟨e,rfl⟩) h1,h2⟩
 case un op x=>obtain⟨v,h1,h2⟩:=abE hh;exact⟨v,fun _=>MP (fun v' e=>⟨e,rfl⟩) h1,h2⟩
 case min x xs=>obtain⟨v,h1,h2⟩:=Fi _ _ hh;exact⟨v,fun _=>sO (fun v' e=>⟨e,rfl⟩) _ _ h1,h2⟩
 case max x xs=>obtain⟨v,h1,h2⟩:=Fi _ _ hh;exact⟨v,fun _=>sO (fun v' e=>⟨e,rfl⟩) _ _ h1,h2⟩
 case pick c a b=>split at hh<;>first|exact⟨_,fun _=>⟨rfl,rfl⟩,hh⟩|exact hh.elim
 case qd x=>split at hh<;>first|exact⟨_,fun _=>⟨rfl,rfl⟩,hh⟩|exact hh.elim
 case r_=>split at hh<;>first|exact⟨_,fun _=>⟨rfl,rfl⟩,hh⟩|exact hh.elim
 case nw=>split at hh<;>first|exact⟨_,fun _=>⟨rfl,rfl⟩,hh⟩|exact hh.elim
 case QK=>split at hh<;>first|exact⟨_,fun _=>⟨rfl,rfl⟩,hh⟩|exact hh.elim
 case qf=>split at hh<;>first|exact⟨_,fun _=>⟨rfl,rfl⟩,hh⟩|exact hh.elim
 case po=>split at hh<;>first|exact⟨_,fun _=>⟨rfl,rfl⟩,hh⟩|exact hh.elim
 case len=>split at hh<;>first|exact⟨_,fun _=>⟨rfl,rfl⟩,hh⟩|exact hh.elim
 case ext=>split at hh<;>first|exact⟨_,fun _=>⟨hh.1,rfl,rfl⟩,hh.2⟩|exact hh.elim
 case field=>split at hh<;>first|exact⟨_,fun _=>⟨hh.1,hh.2.1,rfl,rfl⟩,hh.2.2⟩|exact hh.elim
 case j_=>split at hh<;>first|exact⟨_,fun _=>⟨hh.1,hh.2.1,rfl,rfl⟩,hh.2.2⟩|exact hh.elim
 case yJ=>split at hh<;>first|exact⟨_,fun _=>⟨hh.1,hh.2.1,hh.2.2.1,hh.2.2.2.1,rfl,rfl⟩,hh.2.2.2.2⟩|exact hh.elim
 case pH x lo hi =>
  split at hh
  ·obtain⟨v,h1,h2⟩:=kN hh;obtain⟨u,h3,h4⟩:=kN h2;exact⟨_,fun _=>cI (fun v' e=>by subst e;exact cI (fun u' e=>by subst e;exact⟨rfl,rfl⟩) h3) h1,h4⟩
  ·exact hh.elim
 case call q f args=>split at hc<;>cases hc
def zZ{o:br}{e:Env}{σ : ae}{K Kp:AV->ae->Prop}(hc:o.cls = .rd)(hh:o.run P e σ K Kp): ∃ v,(∀ τ,o.run P e (σ++ τ) (Is v (σ++ τ)) No)/\K v σ:=by
 cases o<;>simp only[br.cls]at hc<;>(try (cases hc;done))<;>simp only[br.run]at hh ⊢
 case ex o xs=>exact fM.zZ hc hh
 case jI mt el z n ps=>split at hc<;>cases hc
 case load ag n x=>obtain⟨v,h1,h2⟩:=uf hh;exact⟨v,fun τ=>lP (fun v' e=>⟨e,rfl⟩) (h1 τ),h2⟩
 case uZ x =>
  obtain⟨v,h1,s,h2,h3⟩:=Fh hh.2;exact⟨_,fun τ=>⟨hh.1,kp (fun v' (e:v'=v)=>⟨s,by rw[e];exact h2,rfl,rfl⟩) (h1 τ)⟩,h3⟩
 case Bf el x =>
  split at hh
  ·exact⟨_,fun _=>⟨rfl,rfl⟩,hh⟩
  ·obtain⟨h0,hh⟩:=hh;split at hh
   ·rename_i h;refine⟨_,fun τ=>⟨h0,?_⟩,hh.2.2.2⟩;simp only[je τ h];exact⟨hh.1,hh.2.1,hh.2.2.1,by trivial⟩
   ·exact hh.elim
  ·exact hh.elim
 case tS el x lo hi =>
  split at hh
  ·obtain⟨v,h1,h2⟩:=kN hh;obtain⟨u,h3,h4⟩:=kN h2;exact⟨_,fun _=>cI (fun v' e=>by subst e;exact cI (fun u' e=>by subst e;exact⟨rfl,rfl⟩) h3) h1,h4⟩
  ·obtain⟨v,h1,h2⟩:=kN hh.2;obtain⟨u,h3,h4⟩:=kN h2;exact⟨_,fun _=>⟨hh.1,cI (fun v' e=>by subst e;exact cI (fun u' e=>by subst e;exact⟨rfl,rfl⟩) h3) h1⟩,h4⟩
  ·obtain⟨h0,hh⟩:=hh;split at hh
   ·rename_i h;obtain⟨v,h1,h2⟩:=kN hh.2.2.2;obtain⟨u,h3,h4⟩:=kN h2;refine⟨_,fun τ=>⟨h0,?_⟩,h4⟩;simp only[je τ h];exact⟨hh.1,hh.2.1,hh.2.2.1,cI (fun v' e=>by subst e;exact cI (fun u' e=>by subst e;exact⟨rfl,rfl⟩) h3) h1⟩
   ·exact hh.elim
  ·exact hh.elim
 case gG el arr x i =>
  split at hh
  ·split at hh
   ·exact⟨_,fun τ=>⟨hh.1,hh.2.1,hh.2.2.1,rfl,rfl⟩,hh.2.2.2⟩
   ·obtain⟨h0,h1,h2,hh⟩:=hh;split at hh
    ·rename_i h;refine⟨_,fun τ=>⟨h0,h1,h2,?_⟩,hh.2.2⟩;simp only[je τ h];exact⟨hh.1,hh.2.1,by trivial⟩
    ·exact hh.elim
   ·exact⟨_,fun τ=>⟨hh.1,hh.2.1,rfl,rfl⟩,hh.2.2⟩
   ·exact⟨_,fun τ=>⟨hh.1,hh.2.1,rfl,rfl⟩,hh.2.2⟩
   ·exact⟨_,fun τ=>⟨hh.1,hh.2.1,rfl,rfl⟩,hh.2.2⟩
   ·exact hh.elim
  ·exact hh.elim
 case call q f args =>
  cases q with
  | false=>cases hc
  | true =>
    split at hh
    ·simp only[if_true]at hh ⊢;obtain⟨r,h1,h2⟩:=hh;exact⟨r,fun τ=>⟨r,fun τ'=>by rw[bx σ];exact h1 _,rfl,rfl⟩,h2⟩
    ·exact hh.elim
    ·exact hh.elim
def Gz{o:br}{e:Env}{σ : ae}{K Kp:AV->ae->Prop}(hc:o.cls = .al)(hh:o.run P e σ K Kp): ∃ v τ,o.run P e σ (Is v (σ++ τ)) No/\K v (σ++ τ):=by
 cases o<;>simp only[br.cls]at hc<;>(try (cases hc;done))<;>simp only[br.run]at hh ⊢
 case ex o xs=>exact fM.Gz hc hh
 case alloc T cs=>exact⟨_,_,⟨rfl,rfl⟩,hh⟩
 case wU=>exact⟨_,_,⟨hh.1,rfl,rfl⟩,hh.2⟩
 case lp el=>exact⟨_,_,⟨rfl,rfl⟩,hh⟩
 case box x=>exact⟨_,_,⟨hh.1,rfl,rfl⟩,hh.2⟩
 case QL x=>split at hh<;>first|exact⟨_,_,⟨hh.1,rfl,rfl⟩,hh.2⟩|exact hh.elim
 case nS=>split at hh<;>first|exact⟨_,_,⟨hh.1,hh.2.1,hh.2.2.1,hh.2.2.2.1,rfl,rfl⟩,hh.2.2.2.2⟩|exact hh.elim
 case call q f args=>split at hc<;>cases hc
 case jI mt el z n ps =>
  cases mt
  ·cases hc
  ·obtain⟨v,h1,h2⟩:=zX _ _ hh;simp only[if_true]at h2 ⊢;exact⟨_,_,sQ (fun v' e=>by subst e;exact⟨rfl,rfl⟩) _ _ h1,h2⟩
def BZ{σ : ae}{n:Nat}{p v:AV}{K:ae->Prop}(hh:nT σ n p v K): ∃ l o o',σ[l]? = some o/\o.like o'/\p.obj=some l/\nT σ n p v (fun s=>s = σ.set l o')/\K (σ.set l o'):=by
 unfold nT at hh;obtain⟨h1,h2,hh⟩:=hh;split at hh
 ·split at hh
  ·rename_i h;exact⟨_,_,_,h,trivial,rfl,by simp only[nT,h];exact⟨h1,h2,hh.1,trivial⟩,hh.2⟩
  ·exact hh.elim
 ·split at hh
  ·rename_i h;obtain⟨e1,e2,e3,e4,e5,hK⟩:=hh;subst e1;exact⟨_,_,_,h,⟨_,rfl,by simp⟩,rfl,by simp only[nT,h];exact⟨h1,h2,trivial,e2,e3,e4,e5,trivial⟩,hK⟩
  ·exact hh.elim
 ·exact hh.elim
def adQ{o:br}{e:Env}{σ : ae}{K Kp:AV->ae->Prop}(hc:o.cls = .st)(hh:o.run P e σ K Kp): ∃ v σ',o.run P e σ (Is v σ') No/\K v σ':=by
 cases o<;>simp only[br.cls]at hc<;>(try (cases hc;done))<;>simp only[br.run]at hh ⊢
 case ex=>exact absurd hc fM.GA.1
 case jI=>split at hc<;>cases hc
 case call=>split at hc<;>cases hc
 case rL f args =>
  split at hh
  ·unfold DJ at *;split at hh
   ·obtain⟨l,ob,mF,r,h1,h2,h3,h4,h5⟩:=hh;exact⟨r,_,⟨l,ob,mF,r,h1,h2,h3,h4,rfl,rfl⟩,h5⟩
   ·exact hh.elim
  ·exact hh.elim
 case store n x v =>
  obtain⟨l,o,o',_,_,_,h1,h2⟩:=BZ hh;exact⟨_,_,uM (fun s e=>⟨rfl,e⟩) h1,h2⟩
 case lu k T cs =>
  split at hh
  ·rename_i n h1;split at hh
   ·rename_i h2;exact⟨_,_,⟨rfl,rfl⟩,hh⟩
   ·exact hh.elim
  ·exact hh.elim
 case pq k T el x y =>
  split at hh
  ·split at hh
   ·split at hh
    ·exact⟨_,_,⟨hh.1,hh.2.1,hh.2.2.1,rfl,rfl⟩,hh.2.2.2⟩
    ·exact hh.elim
   ·exact hh.elim
  ·exact hh.elim
 case pz k el z x y =>
  split at hh
  ·split at hh
   ·split at hh
    ·exact⟨_,_,⟨hh.1,hh.2.1,hh.2.2.1,hh.2.2.2.1,rfl,rfl⟩,hh.2.2.2.2⟩
    ·exact hh.elim
   ·exact hh.elim
  ·exact hh.elim
def Zn{o:br}{e:Env}{σ : ae}{K Kp:AV->ae->Prop}(hc:o.cls = .ap)(hh:o.run P e σ K Kp): ∃ v σ',o.run P e σ (Is v σ') No/\K v σ':=by
 cases o<;>simp only[br.cls]at hc<;>(try (cases hc;done))<;>simp only[br.run]at hh ⊢
 case ex=>exact absurd hc fM.GA.2
 case jI=>split at hc<;>cases hc
 case call=>split at hc<;>cases hc
 case app T el x y =>
  have key:∀ ys:List AV,∀ K':AV->ae->Prop,(ys.all (fun a=>a.fits el)=true/\match x.ev e with
   | .au=>if ys.length=0 then K' .au σ else fR ys.length el/\K' (.own el σ.length ys.length 0 ys.length) (σ++[.cz T el ys])
   | .aO true bq xs=>bq=el/\if ys.length=0 then K' (.aO true el xs) σ else fR (xs.length+ys.length) el/\K' (.own el σ.length (xs.length+ys.length) 0 (xs.length+ys.length)) (σ++[.cz T el (xs++ys)])
   | .own bq l m lo n => bq = el /\ match σ[l]? with
     | some (.cz T' bj xs)=>(T'=none\/T'=T)/\bj=el/\m=xs.length/\lo=0/\n=xs.length/\fR (xs.length+ys.length) el/\K' (.own el l (xs.length+ys.length) 0 (xs.length+ys.length)) (σ.set l (.cz T' el (xs++ys)))
     | _=>False
   | _=>False)-> ∃ v σ',K' v σ'/\(ys.all (fun a=>a.fits el)=true/\match x.ev e with
   | .au=>if ys.length=0 then Is v σ' .au σ else fR ys.length el/\Is v σ' (.own el σ.length ys.length 0 ys.length) (σ++[.cz T el ys])
   | .aO true bq xs=>bq=el/\if ys.length=0 then Is v σ' (.aO true el xs) σ else fR (xs.length+ys.length) el/\Is v σ' (.own el σ.length (xs.length+ys.length) 0 (xs.length+ys.length)) (σ++[.cz T el (xs++ys)])
   | .own bq l m lo n => bq = el /\ match σ[l]? with
     | some (.cz T' bj xs)=>(T'=none\/T'=T)/\bj=el/\m=xs.length/\lo=0/\n=xs.length/\fR (xs.length+ys.length) el/\Is v σ' (.own el l (xs.length+ys.length) 0 (xs.length+ys.length)) (σ.set l (.cz T' el (xs++ys)))
     | _=>False
   | _=>False):=fun ys K'=>by
   rintro⟨h1,h2⟩;split at h2
   ·split at h2
    ·exact⟨_,_,h2,h1,by rw[if_pos (by assumption)];exact⟨rfl,rfl⟩⟩
    ·exact⟨_,_,h2.2,h1,by rw[if_neg (by assumption)];exact⟨h2.1,rfl,rfl⟩⟩
   ·obtain⟨rfl,h2⟩:=h2;split at h2
    ·exact⟨_,_,h2,h1,rfl,by rw[if_pos (by assumption)];exact⟨rfl,rfl⟩⟩
    ·exact⟨_,_,h2.2,h1,rfl,by rw[if_neg (by assumption)];exact⟨h2.1,rfl,rfl⟩⟩
   ·obtain⟨rfl,h2⟩:=h2;split at h2
    ·rename_i hk;refine⟨_,_,h2.2.2.2.2.2.2,h1,rfl,?_⟩;exact⟨h2.1,h2.2.1,h2.2.2.1,h2.2.2.2.1,h2.2.2.2.2.1,h2.2.2.2.2.2.1,rfl,rfl⟩
    ·exact h2.elim
   ·exact h2.elim
  have hh:fP σ el (y.ev e) fun ys=> ∃ v σ',K v σ'/\_:=kp (fun ys h=>key ys K h) hh
  have out:∀ {B:List AV->AV->ae->Prop},(fP σ el (y.ev e) fun ys=> ∃ v σ',K v σ'/\B ys v σ')-> ∃ v σ',(fP σ el (y.ev e) fun ys=>B ys v σ')/\K v σ':=fun {B} h=>by
   unfold fP at *;split at h
   ·obtain⟨v,s,h1,h2⟩:=h;exact⟨v,s,h2,h1⟩
   ·obtain⟨h0,v,s,h1,h2⟩:=h;exact⟨v,s,⟨h0,h2⟩,h1⟩
   ·obtain⟨h0,h⟩:=h;split at h
    ·obtain⟨q1,q2,v,s,h1,h2⟩:=h;exact⟨v,s,⟨h0,q1,q2,h2⟩,h1⟩
    ·exact h.elim
   ·obtain⟨h0,v,s,h1,h2⟩:=h;exact⟨v,s,⟨h0,h2⟩,h1⟩
   ·obtain⟨h0,h0',h⟩:=h;obtain⟨u,h1,v,s,h2,h3⟩:=uf h;exact⟨v,s,⟨h0,h0',lP (fun u' (e:u'=u)=>by subst e;exact h3) (by simpa using h1 [])⟩,h2⟩
   ·exact h.elim
  exact out hh
def Kh{σ : ae}{el:El}{x:AV}{K:List AV->Prop}(hh:fP σ el x K): ∃ v,fP σ el x (fun v'=>v'=v)/\K v:=by
 obtain⟨v,h1,h2⟩:=Fh hh;exact⟨v,by simpa using h1 [],h2⟩
def aag{σ : ae}{T:Option TypeId}{el:El}{x y:AV}{K:AV->ae->Prop}(hh:oY σ T el x y K): ∃ v σ',oY σ T el x y (Is v σ')/\K v σ':=by
 have:=Zn (P:=default) (o:= .app T el (.c x) (.c y)) (e:=fun _=> .undef) (σ:=σ) (K:=K) (Kp:=No) rfl hh;obtain⟨v,σ',h1,h2⟩:=this;exact⟨v,σ',h1,h2⟩
def aah{σ : ae}{x:AV}{K:AV->ae->Prop}(hh:zW σ x K): ∃ v σ',zW σ x (Is v σ')/\K v σ':=by
 unfold zW at hh ⊢;split at hh
 ·exact⟨_,_,⟨rfl,rfl⟩,hh⟩
 ·exact⟨_,_,⟨rfl,rfl⟩,hh⟩
 ·split at hh
  ·exact⟨_,_,⟨hh.1,hh.2.1,hh.2.2.1,rfl,rfl⟩,hh.2.2.2⟩
  ·exact hh.elim
 ·exact hh.elim
def fM.det{o:fM}{vs:List AV}{σ : ae}{K Kp:AV->ae->Prop}(hni:o.cls≠ .no)(hh:o.run P vs σ K Kp): ∃ v σ',o.run P vs σ (Is v σ') No/\K v σ':=by
 cases o with
 | inv n=>exact absurd rfl hni
 | pc n=>exact absurd rfl hni
 | cw n k BU =>
   unfold fM.run at hh ⊢;split at hh<;>(try (rename_i h;cases h))<;>(try exact hh.elim);obtain⟨r,s2,h1,h2,h3⟩:=hh;exact⟨r,s2,⟨r,s2,h1,h2,rfl,rfl⟩,h3⟩
 | Fc neg =>
   obtain⟨v,h1,h2⟩:=fM.zZ (o:= .Fc neg) rfl hh;exact⟨v,σ,by simpa using h1 [],h2⟩
 | IQ el =>
   obtain⟨v,h1,h2⟩:=fM.zZ (o:= .IQ el) rfl hh;exact⟨v,σ,by simpa using h1 [],h2⟩
 | IP el lo =>
   obtain⟨v,h1,h2⟩:=fM.DN (o:= .IP el lo) rfl hh;exact⟨v,σ,h1 _,h2⟩
 | Uj T ok z =>
   obtain⟨v,h1,h2⟩:=fM.DN (o:= .Uj T ok z) rfl hh;exact⟨v,σ,h1 _,h2⟩
 | s2a n =>
   unfold fM.run at hh ⊢;split at hh<;>(try (rename_i h;cases h))<;>(try exact hh.elim);obtain⟨v,σ',h1,h2⟩:=aad hh;exact⟨v,σ',h1,h2⟩
 | Xo kd z =>
   unfold fM.run at hh ⊢;split at hh<;>(try (rename_i h;cases h))<;>(try exact hh.elim);obtain⟨v,σ',h1,h2⟩:=Xq hh;exact⟨v,σ',h1,h2⟩
 | R0 =>
   unfold fM.run at hh ⊢;split at hh<;>(try (rename_i h;cases h))<;>(try exact hh.elim);obtain⟨σ',h1,h2⟩:=Xr hh;exact⟨_,σ',Gy (fun s e=>⟨rfl,e⟩) h1,h2⟩
 | clr el z =>
   unfold fM.run at hh ⊢;split at hh<;>(try (rename_i h;cases h))<;>(try exact hh.elim);obtain⟨σ',h1,h2⟩:=aae hh;exact⟨_,σ',Kg (fun s e=>⟨rfl,e⟩) h1,h2⟩
 | Uk =>
   unfold fM.run at hh ⊢;split at hh<;>(try (rename_i h;cases h))<;>(try exact hh.elim);obtain⟨v,σ',h1,h2⟩:=aah hh;exact⟨v,σ',h1,h2⟩
 | J7 el n lo hi =>
   obtain⟨v,h1,h2⟩:=fM.DN (o:= .J7 el n lo hi) rfl hh;exact⟨v,σ,h1 σ,h2⟩
 | Fa kd ok zero =>
   obtain⟨v,h1,h2⟩:=fM.zZ (o:= .Fa kd ok zero) rfl hh;exact⟨v,σ,by simpa using h1 [],h2⟩
 | Fb =>
   obtain⟨v,h1,h2⟩:=fM.zZ (o:= .Fb) rfl hh;exact⟨v,σ,by simpa using h1 [],h2⟩
 | Gr =>
   obtain⟨v,τ,h1,h2⟩:=fM.Gz (o:= .Gr) rfl hh;exact⟨v,_,h1,h2⟩
 | Gs kd =>
   unfold fM.run at hh ⊢;split at hh<;>(try (rename_i h;cases h))<;>(try exact hh.elim);obtain⟨h0,hh⟩:=hh;split at hh
   ·rename_i h1;split at hh
    ·rename_i h2;refine⟨_,_,?_,hh⟩;exact⟨h0,rfl,rfl⟩
    ·exact hh.elim
   ·exact hh.elim
 | Zl el lo =>
   have key:∀ {x:AV} {l:Option AV} {h m:AV},yK σ el x l h m K-> ∃ v σ',yK σ el x l h m (Is v σ')/\K v σ':=fun {x l h m} hh=>by
    unfold yK at hh ⊢;split at hh
    ·obtain⟨a,b,c,h1,h2⟩:=sk hh;exact⟨_,_,iV (fun _ _ _ _=>⟨rfl,rfl⟩) h1,h2⟩
    ·obtain⟨a,b,c,h1,h2⟩:=sk hh.2;exact⟨_,_,⟨hh.1,iV (fun _ _ _ e=>by obtain⟨rfl,rfl,rfl⟩:=e;exact⟨rfl,rfl⟩) h1⟩,h2⟩
    ·obtain⟨h0,hh⟩:=hh;split at hh
     ·rename_i hk;obtain⟨k1,k2,k3,hh⟩:=hh;obtain⟨a,b,c,h1,h2⟩:=sk hh;by_cases e:c=a
      ·rw[if_pos e]at h2;exact⟨_,_,⟨h0,k1,k2,k3,iV (fun _ _ _ e'=>by obtain⟨rfl,rfl,rfl⟩:=e';rw[if_pos e];exact⟨rfl,rfl⟩) h1⟩,h2⟩
      ·rw[if_neg e]at h2;exact⟨_,_,⟨h0,k1,k2,k3,iV (fun _ _ _ e'=>by obtain⟨rfl,rfl,rfl⟩:=e';rw[if_neg e];exact⟨h2.1,rfl,rfl⟩) h1⟩,h2.2⟩
     ·exact hh.elim
    ·exact hh.elim
   unfold fM.run at hh ⊢;split at hh<;>(try (rename_i h;cases h))<;>first|exact key hh|exact hh.elim
 | copy el =>
   unfold fM.run at hh ⊢;split at hh<;>(try (rename_i h;cases h))<;>(try exact hh.elim)
   ·rename_i x y;obtain⟨ys,h1,h2,h3⟩:=Kh hh
    have key:∃ v σ',BX σ el x ys (Is v σ')/\K v σ':=by
     unfold BX at h3 ⊢;split at h3
     ·exact⟨_,_,⟨rfl,rfl⟩,h3⟩
     ·exact⟨_,_,⟨h3.1,rfl,rfl⟩,h3.2⟩
     ·obtain⟨l,o,o',_,_,_,h4,h5⟩:=BZ h3.2.2;exact⟨_,_,⟨h3.1,h3.2.1,uM (fun s e=>⟨rfl,e⟩) h4⟩,h5⟩
     ·obtain⟨h0,h3⟩:=h3;split at h3
      ·exact⟨_,_,⟨h0,h3.1,h3.2.1,h3.2.2.1,rfl,rfl⟩,h3.2.2.2⟩
      ·exact h3.elim
     ·exact h3.elim
    obtain⟨v,σ',h4,h5⟩:=key;exact⟨v,σ',kp (fun ys' (e:ys'=ys)=>by subst e;exact⟨h2,h4⟩) h1,h5⟩
 | Zm el =>
   unfold fM.run at hh ⊢;split at hh<;>(try (rename_i h;cases h))<;>(try exact hh.elim)
   ·unfold Fg at hh ⊢;split at hh
    ·obtain⟨h0,hh⟩:=hh;obtain⟨ys,h1,h2,h3⟩:=Kh hh;split at h3
     ·rename_i hk;refine⟨_,_,⟨h0,kp (fun ys' (e:ys'=ys)=>⟨e ▸ h2,?_⟩) h1⟩,h3.2.2.2.2⟩;subst e;exact⟨h3.1,h3.2.1,h3.2.2.1,h3.2.2.2.1,rfl,rfl⟩
     ·exact h3.elim
    ·exact aag hh
def br.D(P:Program)(o:br)(e:Env)(σ : ae)(v:AV)(σ':ae): Prop :=
 match o.cls with
 | .pu=>(∀ s,o.run P e s (Is v s) No)/\σ' = σ
 | .rd=>(∀ τ,o.run P e (σ++ τ) (Is v (σ++ τ)) No)/\σ' = σ
 | .al=>o.run P e σ (Is v σ') No
 | .st=>o.run P e σ (Is v σ') No
 | .ap=>o.run P e σ (Is v σ') No
 | .cw=>o.run P e σ (Is v σ') No
 | .no=>False
def sn{o:br}{e:Env}{σ : ae}{K Kp:AV->ae->Prop}{v:AV}{σ':ae}(hK:K v σ')(h:o.run P e σ (Is v σ') No): o.run P e σ K Kp :=
 rM (fun v' s h=>by obtain⟨e1,e2⟩:=h;subst e1;subst e2;exact hK) (fun _ _ h=>False.elim h) h
def adR{o:br}{e:Env}{σ : ae}{K Kp:AV->ae->Prop}(hc:o.cls = .cw)(hh:o.run P e σ K Kp): ∃ v σ',o.run P e σ (Is v σ') No/\K v σ':=by
 cases o<;>simp only[br.cls]at hc<;>(try (cases hc;done))
 case jI=>split at hc<;>cases hc
 case call=>split at hc<;>cases hc
 case ex o xs=>exact fM.det (by rw[hc];decide) (show o.run P (xs.map (AX.ev e)) σ K Kp from hh)
def DO{o:br}{e:Env}{σ : ae}{K Kp:AV->ae->Prop}(hc:o.cls≠ .no): o.run P e σ K Kp↔ ∃ v σ',o.D P e σ v σ'/\K v σ':=by
 unfold br.D;constructor
 ·intro hh;split
  ·rename_i h;obtain⟨v,h1,h2⟩:=DN h hh;exact⟨v,σ,⟨h1,rfl⟩,h2⟩
  ·rename_i h;obtain⟨v,h1,h2⟩:=zZ h hh;exact⟨v,σ,⟨h1,rfl⟩,h2⟩
  ·rename_i h;obtain⟨v,τ,h1,h2⟩:=Gz h hh;exact⟨v,_,h1,h2⟩
  ·rename_i h;exact adQ h hh
  ·rename_i h;exact Zn h hh
  ·rename_i h;exact adR h hh
  ·rename_i h;exact(hc h).elim
 ·rintro⟨v,σ',hD,hK⟩;split at hD
  ·obtain⟨h1,rfl⟩:=hD;exact sn hK (h1 _)
  ·obtain⟨h1,rfl⟩:=hD;have h2:=h1 [];rw[bY]at h2;exact sn hK h2
  ·exact sn hK hD
  ·exact sn hK hD
  ·exact sn hK hD
  ·exact sn hK hD
  ·exact hD.elim
def QM{o:br}{e e':Env}{σ : ae}{v:AV}{σ':ae}(h:∀ t ∈ o.uses,e t=e' t)(hD:o.D P e σ v σ'): o.D P e' σ v σ':=by
 unfold br.D at *;split at hD
 ·exact⟨fun s=>by rw[<-sj h];exact hD.1 s,hD.2⟩
 ·exact⟨fun s=>by rw[<-sj h];exact hD.1 s,hD.2⟩
 ·rw[<-sj h];exact hD
 ·rw[<-sj h];exact hD
 ·rw[<-sj h];exact hD
 ·rw[<-sj h];exact hD
 ·exact hD.elim
def abF{o:br}{e:Env}{σ : ae}{v:AV}{σ':ae}(hc:o.cls = .pu\/o.cls = .rd)(hD:o.D P e σ v σ'): σ' = σ:=by
 unfold br.D at hD;rcases hc with hc|hc<;>simp only[hc]at hD<;>exact hD.2
def abG{o:br}{e:Env}{σ : ae}{v:AV}{σ':ae}(hc:o.cls = .pu\/o.cls = .rd)(hD:o.D P e σ v σ')(τ : ae): o.D P e (σ++ τ) v (σ++ τ):=by
 unfold br.D at *;rcases hc with hc|hc<;>simp only[hc]at hD ⊢
 ·exact⟨hD.1,trivial⟩
 ·exact⟨fun ahK=>by rw[bx];exact hD.1 _,trivial⟩
def abH{o:br}{e:Env}{σ : ae}{v:AV}{σ':ae}(hc:o.cls = .pu)(hD:o.D P e σ v σ')(s:ae): o.D P e s v s:=by
 unfold br.D at *;simp only[hc]at hD ⊢;exact⟨hD.1,trivial⟩
def afj{o:br}{e:Env}{σ : ae}{v:AV}{σ':ae}(hc:o.cls = .al)(hD:o.D P e σ v σ'): ∃ τ,σ' = σ++ τ:=by
 unfold br.D at hD;simp only[hc]at hD;obtain⟨v',τ,_,h⟩:=Gz hc hD;exact⟨τ,h.2.symm⟩
def br.qg: br->Option (Option AX)
 | .load _ _ x=>some (some x)
 | .tS .. | .gG ..=>some none
 | _=>none
def br.rN: br->Option AX
 | .store _ x _=>some x
 | .rL _ (x::_)=>some x
 | .lu k _ _=>some (.t k)
 | .pq k _ _ _ _=>some (.t k)
 | .pz k _ _ _ _=>some (.t k)
 | .app _ _ x _=>some x
 | _=>none
def qU(p q:AV): Prop:= ∀ l,p.obj=some l->q.obj=some l->False
def QN{σ τ : ae}{l:Nat}{o:aZ}(h:l < σ.length): σ.set l o++ τ =(σ++ τ).set l o:=by
 rw[List.set_append_left _ _ h]
def Ki{σ : ae}{ag:Bool}{n:Nat}{p:AV}{K:AV->Prop}{l:Nat}{o:aZ}(h:p.obj≠some l)(hh:iI σ ag n p K): iI (σ.set l o) ag n p K:=by
 unfold iI at *;split at hh
 ·rename_i l' off;have hne:l≠l':=fun e=>h (by rw[e];rfl);rw[List.getElem?_set_ne hne];exact hh
 ·exact hh
 ·rename_i el l' m i off;have hne:l≠l':=fun e=>h (by rw[e];rfl);rw[List.getElem?_set_ne hne];exact hh
 ·exact hh
def adS {o : br} {e : Env} {σ : ae} {v : AV} {σ' : ae} {l : Nat} {ob mF : aZ} {rx : Option AX} (hr : o.qg = some rx) (hl : σ[l]? = some ob) (GB : ob.like mF) (hap : ∀ x, rx = some x -> (x.ev e).obj ≠ some l) (hD : o.D P e σ v σ') :
    o.D P e (σ.set l mF) v (σ.set l mF):=by
 have hlt:l < σ.length:=(aP.1 hl).1;have hc:o.cls = .rd:=by cases o<;>simp[br.qg]at hr<;>rfl
 unfold br.D at *;simp only[hc]at hD ⊢;refine⟨fun τ=>?_,trivial⟩;have h:=hD.1 τ;rw[QN hlt];have hl':(σ++ τ)[l]? = some ob:=je τ hl;generalize σ++ τ = s at *;have B3:l<s.length:=(aP.1 hl').1
 have shape:∀ (k:Nat) (T:Option TypeId) (el:El) (xs:List AV),s[k]? = some (.cz T el xs)-> ∃ ys,(s.set l mF)[k]? = some (.cz T el ys)/\ys.length=xs.length:=fun k T el xs hk=>by
  by_cases oL:l=k
  ·subst oL;rw[hl']at hk;cases hk;obtain⟨ys,rfl,h2⟩:=GB;exact⟨ys,by simp[B3],h2⟩
  ·exact⟨xs,by rw[List.getElem?_set_ne oL];exact hk,rfl⟩
 cases o<;>simp only[br.qg]at hr<;>(try (cases hr;done))<;>simp only[br.run]at h ⊢
 case load ag n x =>
  cases hr;exact lP (fun v' h=>⟨h.1,rfl⟩) (Ki (hap x rfl) h)
 case tS el x lo hi =>
  split at h
  ·exact cI (fun _=>cI fun _ h=>⟨h.1,rfl⟩) h
  ·exact⟨h.1,cI (fun _=>cI fun _ h=>⟨h.1,rfl⟩) h.2⟩
  ·refine⟨h.1,?_⟩;have h:=h.2;split at h
   ·rename_i hk;obtain⟨ys,h1,h2⟩:=shape _ _ _ _ hk;simp only[h1,h2];exact⟨h.1,h.2.1,h.2.2.1,cI (fun _=>cI fun _ h=>⟨h.1,rfl⟩) h.2.2.2⟩
   ·exact h.elim
  ·exact h
 case gG el arr x i =>
  split at h
  ·split at h
   ·exact⟨h.1,h.2.1,h.2.2.1,h.2.2.2.1,rfl⟩
   ·refine⟨h.1,h.2.1,h.2.2.1,?_⟩;have h:=h.2.2.2;split at h
    ·rename_i hk;obtain⟨ys,h1,h2⟩:=shape _ _ _ _ hk;simp only[h1,h2];exact⟨h.1,h.2.1,h.2.2.1,rfl⟩
    ·exact h.elim
   ·exact⟨h.1,h.2.1,h.2.2.1,rfl⟩
   ·exact⟨h.1,h.2.1,h.2.2.1,rfl⟩
   ·exact⟨h.1,h.2.1,h.2.2.1,rfl⟩
   ·exact h.elim
  ·exact h.elim
def abI{o:br}{e:Env}{σ : ae}{v:AV}{σ':ae}(hc:o.cls = .st)(hD:o.D P e σ v σ'): ∃ y l ob mF,o.rN=some y/\σ[l]? = some ob/\ob.like mF/\(y.ev e).obj=some l/\σ' = σ.set l mF:=by
 unfold br.D at hD;simp only[hc]at hD;cases o<;>simp only[br.cls]at hc<;>(try (cases hc;done))<;>simp only[br.run]at hD
 case ex=>exact absurd hc fM.GA.1
 case jI=>split at hc<;>cases hc
 case call=>split at hc<;>cases hc
 case rL f args =>
  split at hD
  ·cases args with
   | nil=>exact hD.elim
   | cons x xs =>
     obtain⟨l,ob,mF,r,h1,h2,h3,_,h5⟩:=hD;exact⟨x,l,ob,mF,rfl,h2,h3,h1,h5.2.symm⟩
  ·exact hD.elim
 case store n x v =>
  obtain⟨l,ob,mF,h1,h2,h3,_,h5⟩:=BZ hD;exact⟨x,l,ob,mF,rfl,h1,h2,h3,h5.2.symm⟩
 case lu k T cs =>
  split at hD
  ·rename_i n h1;split at hD
   ·rename_i h2;refine⟨.t k,n,.resv,.cg T cs,rfl,h2,trivial,?_,hD.2.symm⟩;simp only[AX.ev,h1,AV.obj]
   ·exact hD.elim
  ·exact hD.elim
 case pq k T el x y =>
  split at hD
  ·rename_i n h1;split at hD
   ·rename_i h2;split at hD
    ·refine⟨.t k,n,.resv,.cz T el _,rfl,h2,trivial,?_,hD.2.2.2.2.symm⟩;simp only[AX.ev,h1,AV.obj]
    ·exact hD.elim
   ·exact hD.elim
  ·exact hD.elim
 case pz k el z x y =>
  split at hD
  ·rename_i n h1;split at hD
   ·rename_i h2;split at hD
    ·refine⟨.t k,n,.resv,.vec el _,rfl,h2,trivial,?_,hD.2.2.2.2.2.symm⟩;simp only[AX.ev,h1,AV.obj]
    ·exact hD.elim
   ·exact hD.elim
  ·exact hD.elim
def br.ME: br->Option Nat
 | .lu k _ _=>some k
 | .pq k _ _ _ _=>some k
 | .pz k _ _ _ _=>some k
 | _=>none
def Zo {o : br} {k : Nat} {e : Env} {σ : ae} {v : AV} {σ' : ae} (h : o.ME = some k) (hD : o.D P e σ v σ') :
    ∃ n ob,e k = .ref n 0/\σ[n]? = some .resv/\ob≠ .resv/\σ' = σ.set n ob/\ ∀ s:ae,s[n]? = some .resv->o.D P e s v (s.set n ob):=by
 cases o<;>simp[br.ME]at h
 case lu k' T cs =>
  subst h;have hD:br.run P (.lu k' T cs) e σ (Is v σ') No:=hD;simp only[br.run]at hD;split at hD
  ·rename_i n h1;split at hD
   ·rename_i h2;refine⟨n,_,h1,h2,by simp,hD.2.symm,fun s hs=>?_⟩;show br.run P (.lu k' T cs) e s (Is v _) No;simp only[br.run,h1,hs];exact⟨hD.1,rfl⟩
   ·exact hD.elim
  ·exact hD.elim
 case pq k' T el x y =>
  subst h;have hD:br.run P (.pq k' T el x y) e σ (Is v σ') No:=hD;simp only[br.run]at hD;split at hD
  ·rename_i n h1;split at hD
   ·rename_i h2;split at hD
    ·rename_i ys h3;refine⟨n,_,h1,h2,by simp,hD.2.2.2.2.symm,fun s hs=>?_⟩;show br.run P (.pq k' T el x y) e s (Is v _) No;simp only[br.run,h1,hs,h3];exact⟨hD.1,hD.2.1,hD.2.2.1,hD.2.2.2.1,rfl⟩
    ·exact hD.elim
   ·exact hD.elim
  ·exact hD.elim
 case pz k' el z x y =>
  subst h;have hD:br.run P (.pz k' el z x y) e σ (Is v σ') No:=hD;simp only[br.run]at hD;split at hD
  ·rename_i n h1;split at hD
   ·rename_i h2;split at hD
    ·rename_i i m h3 h4;refine⟨n,_,h1,h2,by simp,hD.2.2.2.2.2.symm,fun s hs=>?_⟩;show br.run P (.pz k' el z x y) e s (Is v _) No;simp only[br.run,h1,hs,h3,h4];exact⟨hD.1,hD.2.1,hD.2.2.1,hD.2.2.2.1,hD.2.2.2.2.1,rfl⟩
    ·exact hD.elim
   ·exact hD.elim
  ·exact hD.elim
def br.oT: br->Option AX
 | .load _ _ x=>some x
 | .tS _ x _ _=>some x
 | .gG _ _ x _=>some x
 | _=>none
def GC{o:br}{x:AX}(h:o.oT=some x): o.cls = .rd:=by
 cases o<;>simp[br.oT]at h<;>rfl
def QO{o:br}{e:Env}{σ : ae}{v:AV}{σ':ae}{x:AX}{l:Nat}{ob:aZ}(hr:o.oT=some x)(hlt:l < σ.length)(hne:(x.ev e).obj≠some l)(hD:o.D P e σ v σ'): o.D P e (σ.set l ob) v (σ.set l ob):=by
 have hc:=GC hr;unfold br.D at *;simp only[hc]at hD ⊢;refine⟨fun τ=>?_,trivial⟩;have h:=hD.1 τ;rw[QN hlt];generalize σ++ τ = s at *;cases o<;>simp only[br.oT]at hr<;>(try (cases hr;done))<;>cases hr<;>simp only[br.run]at h ⊢
 case load ag n =>
  exact lP (fun v' h=>⟨h.1,rfl⟩) (Ki hne h)
 case tS el lo hi =>
  split at h
  ·exact cI (fun _=>cI fun _ h=>⟨h.1,rfl⟩) h
  ·exact⟨h.1,cI (fun _=>cI fun _ h=>⟨h.1,rfl⟩) h.2⟩
  ·rename_i bq l' m o n hx;have Xt:l≠l':=fun e=>hne (by rw[hx,e];rfl);refine⟨h.1,?_⟩;have h:=h.2;rw[List.getElem?_set_ne Xt];split at h
   ·rename_i hk;simp only[hk];exact⟨h.1,h.2.1,h.2.2.1,cI (fun _=>cI fun _ h=>⟨h.1,rfl⟩) h.2.2.2⟩
   ·exact h.elim
  ·exact h
 case gG el arr i =>
  split at h
  ·split at h
   ·exact⟨h.1,h.2.1,h.2.2.1,h.2.2.2.1,rfl⟩
   ·rename_i bq l' m o n hx;have Xt:l≠l':=fun e=>hne (by rw[hx,e];rfl);refine⟨h.1,h.2.1,h.2.2.1,?_⟩;have h:=h.2.2.2;rw[List.getElem?_set_ne Xt];split at h
    ·rename_i hk;simp only[hk];exact⟨h.1,h.2.1,h.2.2.1,rfl⟩
    ·exact h.elim
   ·exact⟨h.1,h.2.1,h.2.2.1,rfl⟩
   ·exact⟨h.1,h.2.1,h.2.2.1,rfl⟩
   ·exact⟨h.1,h.2.1,h.2.2.1,rfl⟩
   ·exact h.elim
  ·exact h.elim
def afk{o:br}{e:Env}{σ : ae}{v:AV}{σ':ae}(hc:o.cls = .ap)(hD:o.D P e σ v σ'): ∃ y,o.rN=some y/\((∃ τ,σ' = σ++ τ)\/ ∃ l ob,l < σ.length/\(y.ev e).obj=some l/\σ' = σ.set l ob):=by
 unfold br.D at hD;simp only[hc]at hD;cases o<;>simp only[br.cls]at hc<;>(try (cases hc;done))<;>simp only[br.run]at hD
 case ex=>exact absurd hc fM.GA.2
 case jI=>split at hc<;>cases hc
 case call=>split at hc<;>cases hc
 case app T el x y =>
  refine⟨x,rfl,?_⟩
  have key:∀ ys:List AV,(match x.ev e with
   | .au=>if ys.length=0 then Is v σ' .au σ else fR ys.length el/\Is v σ' (.own el σ.length ys.length 0 ys.length) (σ++[.cz T el ys])
   | .aO true bq xs=>bq=el/\if ys.length=0 then Is v σ' (.aO true el xs) σ else fR (xs.length+ys.length) el/\Is v σ' (.own el σ.length (xs.length+ys.length) 0 (xs.length+ys.length)) (σ++[.cz T el (xs++ys)])
   | .own bq l m lo n => bq = el /\ match σ[l]? with
     | some (.cz T' bj xs)=>(T'=none\/T'=T)/\bj=el/\m=xs.length/\lo=0/\n=xs.length/\fR (xs.length+ys.length) el/\Is v σ' (.own el l (xs.length+ys.length) 0 (xs.length+ys.length)) (σ.set l (.cz T' el (xs++ys)))
     | _=>False
   | _=>False)->(∃ τ,σ' = σ++ τ)\/ ∃ l ob,l < σ.length/\(x.ev e).obj=some l/\σ' = σ.set l ob:=fun ys h=>by
   split at h
   ·split at h
    ·exact .inl ⟨[],by rw[bY];exact h.2.symm⟩
    ·exact .inl ⟨_,h.2.2.symm⟩
   ·have h:=h.2;split at h
    ·exact .inl ⟨[],by rw[bY];exact h.2.symm⟩
    ·exact .inl ⟨_,h.2.2.symm⟩
   ·rename_i bq l m lo n hx;have h:=h.2;split at h
    ·rename_i hk;exact .inr ⟨l,_,(aP.1 hk).1,by rw[hx];rfl,h.2.2.2.2.2.2.2.symm⟩
    ·exact h.elim
   ·exact h.elim
  unfold oY fP at hD;split at hD
  ·exact key _ hD.2
  ·exact key _ hD.2.2
  ·have hD:=hD.2;split at hD
   ·exact key _ hD.2.2.2
   ·exact hD.elim
  ·exact key _ hD.2.2
  ·obtain⟨u,_,h2⟩:=uf hD.2.2;exact key _ h2.2
  ·exact hD.elim
