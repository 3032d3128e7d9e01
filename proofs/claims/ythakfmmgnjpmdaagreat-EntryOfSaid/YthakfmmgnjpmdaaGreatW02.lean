/- Part. -/
import Derived.Test.YthakfmmgnjpmdaaGreatW01
set_option linter.all false
namespace Go.AM
variable {P:Program}
def LO{op:BinOp}{x y:AV}{K K':AV->Prop}(h:∀ v,K v->K' v): jO op x y K->jO op x y K':=by
 unfold jO;split<;>intro hh<;>first|exact h _ hh|exact⟨hh.1,h _ hh.2⟩|exact⟨hh.1,hh.2.1,h _ hh.2.2⟩|exact hh.elim
def aaK{op:BinOp}{x y:AV}{K:AV->Prop}: jO op x y K-> ∃ v,jO op x y (fun v'=>v'=v)/\K v:=by
 unfold jO;split<;>intro hh<;>first|exact⟨_,rfl,hh⟩|exact⟨_,⟨hh.1,rfl⟩,hh.2⟩|exact⟨_,⟨hh.1,hh.2.1,rfl⟩,hh.2.2⟩|exact hh.elim
def OJ{op:UnOp}{x:AV}{K K':AV->Prop}(h:∀ v,K v->K' v): C7 op x K->C7 op x K':=by
 unfold C7;split<;>intro hh<;>simp_all
def ab9{op:UnOp}{x:AV}{K:AV->Prop}: C7 op x K-> ∃ v,C7 op x (fun v'=>v'=v)/\K v:=by
 unfold C7;split<;>intro hh<;>simp_all
def cG{x:Option AV}{d y:Nat}{K K':Nat->Prop}(h:∀ v,K v->K' v): bound x d y K->bound x d y K':=by
 unfold bound;split<;>intro hh<;>simp_all
def kV{x:Option AV}{d y:Nat}{K:Nat->Prop}: bound x d y K-> ∃ v,bound x d y (fun v'=>v'=v)/\K v:=by
 unfold bound;split<;>intro hh<;>simp_all
def FQ{el:El}{x:AV}{off:Nat}{ag:Bool}{n:Nat}{K K':AV->Prop}(h:∀ v,K v->K' v): partOf el x off ag n K->partOf el x off ag n K':=by
 unfold partOf;split
 ·exact h _
 ·rintro⟨h1,h2⟩;refine⟨h1,?_⟩;split at h2
  ·exact⟨h _ h2.1,h2.2⟩
  ·exact h2.elim
def LP{el:El}{x:AV}{off:Nat}{ag:Bool}{n:Nat}{K:AV->Prop}: partOf el x off ag n K-> ∃ v,partOf el x off ag n (fun v'=>v'=v)/\K v:=by
 unfold partOf;split
 ·intro h;exact⟨_,rfl,h⟩
 ·rintro⟨h1,h2⟩;split at h2
  ·exact⟨_,⟨h1,rfl,h2.2⟩,h2.1⟩
  ·exact h2.elim
def jv{σ : ae}{l:Nat}{o:bE}(τ : ae)(h : σ[l]? = some o): (σ++ τ)[l]? = some o:=by
 rw[aV (aQ.1 h).1];exact h
def me{σ : ae}{ag:Bool}{n:Nat}{p:AV}{K K':AV->Prop}(h:∀ v,K v->K' v): iR σ ag n p K->iR σ ag n p K':=by
 unfold iR;intro hh;split at hh
 ·split at hh
  ·exact⟨hh.1,hh.2.1,h _ hh.2.2⟩
  ·exact hh.elim
 ·exact FQ h hh
 ·split at hh
  ·exact⟨hh.1,hh.2.1,hh.2.2.1,FQ h hh.2.2.2⟩
  ·exact hh.elim
 ·exact hh.elim
def uq{σ : ae}{ag:Bool}{n:Nat}{p:AV}{K:AV->Prop}(hh:iR σ ag n p K): ∃ v,(∀ τ,iR (σ++ τ) ag n p (fun v'=>v'=v))/\K v:=by
 unfold iR at hh;split at hh
 ·split at hh
  ·rename_i h;exact⟨_,fun τ=>by simp only[iR,jv τ h];exact⟨hh.1,hh.2.1,trivial⟩,hh.2.2⟩
  ·exact hh.elim
 ·obtain⟨v,h1,h2⟩:=LP hh;exact⟨v,fun τ=>h1,h2⟩
 ·split at hh
  ·rename_i h;obtain⟨v,h1,h2⟩:=LP hh.2.2.2;exact⟨v,fun τ=>by simp only[iR,jv τ h];exact⟨hh.1,hh.2.1,hh.2.2.1,h1⟩,h2⟩
  ·exact hh.elim
 ·exact hh.elim
def uO{σ : ae}{n:Nat}{p v:AV}{K K':ae->Prop}(h:∀ v,K v->K' v): n8 σ n p v K->n8 σ n p v K':=by
 unfold n8;rintro⟨h1,h2,hh⟩;refine⟨h1,h2,?_⟩;split at hh
 ·split at hh
  ·exact⟨hh.1,h _ hh.2⟩
  ·exact hh.elim
 ·split at hh
  ·exact⟨hh.1,hh.2.1,hh.2.2.1,hh.2.2.2.1,hh.2.2.2.2.1,h _ hh.2.2.2.2.2⟩
  ·exact hh.elim
 ·exact hh.elim
def kq{σ : ae}{el:El}{x:AV}{K K':List AV->Prop}(h:∀ v,K v->K' v): ja σ el x K->ja σ el x K':=by
 unfold ja;intro hh;split at hh
 ·exact h _ hh
 ·exact⟨hh.1,h _ hh.2⟩
 ·refine⟨hh.1,?_⟩;have hh:=hh.2;split at hh
  ·exact⟨hh.1,hh.2.1,h _ hh.2.2⟩
  ·exact hh.elim
 ·exact⟨hh.1,h _ hh.2⟩
 ·exact⟨hh.1,hh.2.1,me (fun _=>h _) hh.2.2⟩
 ·exact hh.elim
def GH{σ : ae}{el:El}{x:AV}{K:List AV->Prop}(hh:ja σ el x K): ∃ v,(∀ τ,ja (σ++ τ) el x (fun v'=>v'=v))/\K v:=by
 unfold ja at hh;split at hh
 ·exact⟨_,fun τ=>rfl,hh⟩
 ·exact⟨_,fun τ=>⟨hh.1,rfl⟩,hh.2⟩
 ·obtain⟨h0,hh⟩:=hh;split at hh
  ·rename_i h;exact⟨_,fun τ=>by simp only[ja,jv τ h];exact⟨h0,hh.1,hh.2.1,trivial⟩,hh.2.2⟩
  ·exact hh.elim
 ·exact⟨_,fun τ=>⟨hh.1,rfl⟩,hh.2⟩
 ·obtain⟨h0,h1,hh⟩:=hh;obtain⟨v,h2,h3⟩:=uq hh;exact⟨_,fun τ=>⟨h0,h1,me (fun v' e=>congrArg AV.cells e) (h2 τ)⟩,h3⟩
 ·exact hh.elim
def LQ{σ : ae}{T:Option TypeId}{el:El}{x y:AV}{K K':AV->ae->Prop}(h:∀ v s,K v s->K' v s): uo σ T el x y K->uo σ T el x y K':=by
 unfold uo;refine kq fun ys hh=>⟨hh.1,?_⟩;have hh:=hh.2;split at hh
 ·split at hh
  ·simp_all
  ·rename_i h0;simp only[h0,if_false];exact⟨hh.1,h _ _ hh.2⟩
 ·refine⟨hh.1,?_⟩;have hh:=hh.2;split at hh
  ·rename_i h0;simp only[h0,if_true];exact h _ _ hh
  ·rename_i h0;simp only[h0,if_false];exact⟨hh.1,h _ _ hh.2⟩
 ·refine⟨hh.1,?_⟩;have hh:=hh.2;split at hh
  ·exact⟨hh.1,hh.2.1,hh.2.2.1,hh.2.2.2.1,hh.2.2.2.2.1,hh.2.2.2.2.2.1,h _ _ hh.2.2.2.2.2.2⟩
  ·exact hh.elim
 ·exact hh.elim
def LR{op:Bool}{x y:AV}{K K':AV->Prop}(h:∀ v,K v->K' v): C8 op x y K->C8 op x y K':=by
 unfold C8;split<;>intro hh<;>simp_all
def aaL{op:Bool}{x y:AV}{K:AV->Prop}: C8 op x y K-> ∃ v,C8 op x y (fun v'=>v'=v)/\K v:=by
 unfold C8;split<;>intro hh<;>simp_all
def sX{op:Bool}{K K':AV->Prop}(h:∀ v,K v->K' v): ∀(ys:List AV) (x:AV),rV op x ys K->rV op x ys K'
 | [],x=>h x
 | y::ys,x=>LR fun z=>sX h ys z
def GI{op:Bool}{K:AV->Prop}: ∀(ys:List AV) (x:AV),rV op x ys K-> ∃ v,rV op x ys (fun v'=>v'=v)/\K v
 | [],x=>fun h=>⟨x,rfl,h⟩
 | y :: ys, x => fun h => by
   obtain⟨z,h1,h2⟩:=aaL h;obtain⟨v,h3,h4⟩:=GI ys z h2;exact⟨v,LR (fun z' e=>by subst e;exact h3) h1,h4⟩
def y9{e:Env}{K K':List AV->Prop}(h:∀ v,K v->K' v): ∀(ps:List (Nat × Nat × AX)) (z:List AV),mH z e ps K->mH z e ps K'
 | [],z=>h z
 |(off,n,x)::r,z=>fun hh=>⟨hh.1,hh.2.1,hh.2.2.1,y9 h r _ hh.2.2.2⟩
def LS{e:Env}{K:List AV->Prop}: ∀(ps:List (Nat × Nat × AX)) (z:List AV),mH z e ps K-> ∃ v,mH z e ps (fun v'=>v'=v)/\K v
 | [],z=>fun h=>⟨z,rfl,h⟩
 | (off, n, x) :: r, z => fun hh => by
   obtain⟨v,h1,h2⟩:=LS r _ hh.2.2.2;exact⟨v,⟨hh.1,hh.2.1,hh.2.2.1,h1⟩,h2⟩
def sY{el:El}{e:Env}{K K':List AV->Prop}(h:∀ v,K v->K' v): ∀(ps:List (Nat × AX)) (z:List AV),lH el z e ps K->lH el z e ps K'
 | [],z=>h z
 |(i,x)::r,z=>fun hh=>⟨hh.1,hh.2.1,sY h r _ hh.2.2⟩
def A2{el:El}{e:Env}{K:List AV->Prop}: ∀(ps:List (Nat × AX)) (z:List AV),lH el z e ps K-> ∃ v,lH el z e ps (fun v'=>v'=v)/\K v
 | [],z=>fun h=>⟨z,rfl,h⟩
 | (i, x) :: r, z => fun hh => by
   obtain⟨v,h1,h2⟩:=A2 r _ hh.2.2;exact⟨v,⟨hh.1,hh.2.1,h1⟩,h2⟩
def AX.uses: AX->List Nat
 | .t n=>[n]
 | .c _=>[]
def AX.T8: Option AX->List Nat
 | some x=>x.uses
 | none=>[]
def AX.pO(l:List AX): List Nat:=l.flatMap AX.uses
def bA.uses: bA->List Nat
 | .mv x | .box x | .C6 _ x | .load _ _ x | .mc x | .un _ x | .jE _ x | .SG x | .VZ x | .Ch x | .uN _ x | .iD _ x | .field _ _ _ x | .ext x _ | .len _ x | .panic x | .Kl x | .Km x | .V5 _ x | .p2u x | .u2p _ x | .T6 _ x=>x.uses
 | .pick c a b=>c.uses++a.uses++b.uses
 | .alloc _ _ | .ji _ | .hold=>[]
 | .ex _ xs=>AX.pO xs
 | .mC k _ _=>[k]
 | .qF k _ _ x y=>k::(x.uses++y.uses)
 | .qG k _ _ x y=>k::(x.uses++y.uses)
 | .build _ ps=>AX.pO (ps.map (·.2.2))
 | .j7 _ _ _ _ ps=>AX.pO (ps.map (·.2))
 | .store _ x v=>x.uses++v.uses
 | .bin _ x y | .jD _ _ _ x y | .fh _ _ x y | .jh x y | .Kk _ _ x y | .app _ _ x y | .Ys _ x y | .eqp _ x y | .po _ _ x y | .rU _ _ x y=>x.uses++y.uses
 | .q_ _ f c=>AX.pO f++AX.pO c
 | .p8 x lo hi | .ov _ x lo hi=>x.uses++AX.T8 lo++AX.T8 hi
 | .call _ f args | .n7 f args=>f.uses++AX.pO args
 | .min x xs | .max x xs=>x.uses++AX.pO xs
def AX.eM{e e':Env}{x:AX}(h:∀ t ∈ x.uses,e t=e' t): x.ev e=x.ev e':=by
 cases x with
 | t n=>exact h n (by simp[AX.uses])
 | c a=>rfl
def AX.yu{e e':Env}{x:Option AX}(h:∀ t ∈ AX.T8 x,e t=e' t): x.map (AX.ev e)=x.map (AX.ev e'):=by
 cases x with
 | none=>rfl
 | some x=>exact congrArg some (AX.eM h)
def AX.ow{e e':Env}{l:List AX}(h:∀ t ∈ AX.pO l,e t=e' t): l.map (AX.ev e)=l.map (AX.ev e'):=by
 refine List.map_congr_left fun x hx=>AX.eM fun t ht=>h t ?_;exact List.mem_flatMap.2 ⟨x,hx,ht⟩
def Da{e e':Env}{K:List AV->Prop}: ∀(ps:List (Nat × Nat × AX)) (z:List AV),(∀ t ∈ AX.pO (ps.map (·.2.2)),e t=e' t)->mH z e ps K=mH z e' ps K
 | [],z,_=>rfl
 | (off, n, x) :: r, z, h => by
   have h1:x.ev e=x.ev e':=AX.eM fun t ht=>h t (by simp[AX.pO,ht]);simp only[mH,h1];rw[Da r _ fun t ht=>h t (by simp only[bf,AX.pO,List.flatMap_cons,List.mem_append];exact .inr ht)]
def Ci{el:El}{e e':Env}{K:List AV->Prop}: ∀(ps:List (Nat × AX)) (z:List AV),(∀ t ∈ AX.pO (ps.map (·.2)),e t=e' t)->lH el z e ps K=lH el z e' ps K
 | [],z,_=>rfl
 | (i, x) :: r, z, h => by
   have h1:x.ev e=x.ev e':=AX.eM fun t ht=>h t (by simp[AX.pO,ht]);simp only[lH,h1];rw[Ci r _ fun t ht=>h t (by simp only[bf,AX.pO,List.flatMap_cons,List.mem_append];exact .inr ht)]
def sG{o:bA}{e e':Env}{σ : ae}{K Kp:AV->ae->Prop}(h:∀ t ∈ o.uses,e t=e' t): o.run P e σ K Kp=o.run P e' σ K Kp:=by
 cases o<;>simp only[bA.uses,List.mem_append]at h
 case build z ps=>exact Da ps _ h
 case j7 mt el z n ps=>exact Ci ps _ h
 case ex o xs=>simp only[bA.run,AX.ow h]
 case alloc=>rfl
 case ji=>rfl
 case hold=>rfl
 case mC k T cs=>simp only[bA.run,h k (by simp)]
 case qF k T el x y=>simp only[bA.run,h k (by simp),AX.eM (x:=x) (fun t ht=>h t (by simp[ht])),AX.eM (x:=y) (fun t ht=>h t (by simp[ht]))]
 case qG k el z x y=>simp only[bA.run,h k (by simp),AX.eM (x:=x) (fun t ht=>h t (by simp[ht])),AX.eM (x:=y) (fun t ht=>h t (by simp[ht]))]
 case pick c a b=>simp only[bA.run,AX.eM (fun t ht=>h t (.inl (.inl ht))),AX.eM (fun t ht=>h t (.inl (.inr ht))),AX.eM (fun t ht=>h t (.inr ht))]
 case q_ f a b=>simp only[bA.run,AX.ow (fun t ht=>h t (.inl ht)),AX.ow (fun t ht=>h t (.inr ht))]
 case p8 x lo hi=>simp only[bA.run,AX.eM (fun t ht=>h t (.inl (.inl ht))),AX.yu (fun t ht=>h t (.inl (.inr ht))),AX.yu (fun t ht=>h t (.inr ht))]
 case ov el x lo hi=>simp only[bA.run,AX.eM (fun t ht=>h t (.inl (.inl ht))),AX.yu (fun t ht=>h t (.inl (.inr ht))),AX.yu (fun t ht=>h t (.inr ht))]
 case call q f args=>simp only[bA.run,AX.eM (fun t ht=>h t (.inl ht)),AX.ow (fun t ht=>h t (.inr ht))]
 case n7 f args=>simp only[bA.run,AX.eM (fun t ht=>h t (.inl ht)),AX.ow (fun t ht=>h t (.inr ht))]
 case min x xs=>simp only[bA.run,AX.eM (fun t ht=>h t (.inl ht)),AX.ow (fun t ht=>h t (.inr ht))]
 case max x xs=>simp only[bA.run,AX.eM (fun t ht=>h t (.inl ht)),AX.ow (fun t ht=>h t (.inr ht))]
 all_goals first
  | simp only[bA.run,AX.eM h]
  | simp only[bA.run,AX.eM (fun t ht=>h t (.inl ht)),AX.eM (fun t ht=>h t (.inr ht))]
inductive Cls where
 | pu|rd|al|st|ap|cw|no
deriving DecidableEq
def fX.cls: fX->Cls
 | .OC .. | .OD .. | .OH ..=> .pu
 | .inv _ | .pc _=> .no
 | .Ki .. | .Kj | .OE _ | .OG _=> .rd
 | .Og=> .al
 | .cw ..=> .cw
 | _=> .cw
def bA.cls: bA->Cls
 | .ex o _=>o.cls
 | .mv _ | .pick .. | .build .. | .mc _ | .bin .. | .jD .. | .un .. | .jE .. | .SG _ | .uN .. | .q_ .. | .p8 .. | .iD .. | .field .. | .jh .. | .Kk .. | .ext .. | .len .. | .min .. | .max .. | .rU ..=> .pu
 | .j7 mt ..=>if mt then .al else .pu
 | .load .. | .Ch _ | .ov .. | .fh .. | .V5 ..=> .rd
 | .call q ..=>if q then .rd else .no
 | .alloc .. | .box _ | .C6 .. | .VZ _ | .po .. | .ji _=> .al
 | .store .. | .n7 .. | .mC .. | .qF .. | .qG ..=> .st
 | .app ..=> .ap
 | _=> .no
def je{lo:Option AV}{hi mx:AV}{cap:Nat}{K K':Nat->Nat->Nat->Prop}(h:∀ a b c,K a b c->K' a b c): rq lo hi mx cap K->rq lo hi mx cap K' :=
 cG fun _=>cG fun _=>cG fun _=>h _ _ _
def LU{σ : ae}{el:El}{x:AV}{lo:Option AV}{hi mx:AV}{K K':AV->ae->Prop}(h:∀ v s,K v s->K' v s): C9 σ el x lo hi mx K->C9 σ el x lo hi mx K':=by
 unfold C9;split
 ·exact je fun _ _ _=>h _ _
 ·exact fun hh=>⟨hh.1,je (fun _ _ _=>h _ _) hh.2⟩
 ·refine fun hh=>⟨hh.1,?_⟩;have hh:=hh.2;split at hh
  ·refine⟨hh.1,hh.2.1,hh.2.2.1,je (fun l b m=>?_) hh.2.2.2⟩;by_cases e:m=l
   ·simp only[e,if_true];exact h _ _
   ·simp only[e,if_false];exact fun k=>⟨k.1,h _ _ k.2⟩
  ·exact hh.elim
 ·exact id
def V6{σ : ae}{el:El}{x y:AV}{K K':AV->ae->Prop}(h:∀ v s,K v s->K' v s): OI σ el x y K->OI σ el x y K':=by
 unfold OI;split
 ·refine fun hh=>⟨hh.1,kq (fun ys hh=>⟨hh.1,?_⟩) hh.2⟩;have hh:=hh.2;split at hh
  ·exact⟨hh.1,hh.2.1,hh.2.2.1,hh.2.2.2.1,h _ _ hh.2.2.2.2⟩
  ·exact hh.elim
 ·exact LQ h
def T9{σ : ae}{el:El}{x y:AV}{K K':AV->ae->Prop}(h:∀ v s,K v s->K' v s): Oh σ el x y K->Oh σ el x y K':=by
 unfold Oh;refine kq fun ys hh=>⟨hh.1,?_⟩;have hh:=hh.2;unfold H_ at *;split at hh
 ·exact h _ _ hh
 ·exact⟨hh.1,h _ _ hh.2⟩
 ·exact⟨hh.1,hh.2.1,uO (fun s=>h _ s) hh.2.2⟩
 ·refine⟨hh.1,?_⟩;have hh:=hh.2;split at hh
  ·exact⟨hh.1,hh.2.1,hh.2.2.1,h _ _ hh.2.2.2⟩
  ·exact hh.elim
 ·exact hh.elim
def u9{el:El}{n:Nat}{p:AV}{lo hi:Option AV}{K K':AV->Prop}(h:∀ v,K v->K' v): C_ el n p lo hi K->C_ el n p lo hi K' :=
 fun hh=>⟨hh.1,cG (fun _=>cG fun _=>h _) hh.2⟩
def A3{el:El}{x:AV}{lo:Option AV}{hi mx:AV}{K K':AV->Prop}(h:∀ v,K v->K' v): yq el x lo hi mx K->yq el x lo hi mx K':=by
 unfold yq;split
 ·exact je fun _ _ _=>h _
 ·exact fun hh=>⟨hh.1,je (fun _ _ _=>h _) hh.2⟩
 ·exact fun hh=>⟨hh.1,je (fun _ _ _=>h _) hh.2⟩
 ·exact id
def T_{σ : ae}{el:El}{x y:AV}{K K':AV->Prop}(h:∀ v,K v->K' v): Ia σ el x y K->Ia σ el x y K':=by
 unfold Ia;refine kq fun ys hh=>⟨hh.1,hh.2.1,?_⟩;have hh:=hh.2.2;split at hh
 ·exact⟨hh.1,h _ hh.2⟩
 ·exact⟨hh.1,hh.2.1,h _ hh.2.2⟩
 ·exact hh.elim
def Ic{σ : ae}{x:AV}{K K':Bool->Prop}(h:∀ v,K v->K' v): AZ σ x K->AZ σ x K':=by
 unfold AZ;split
 ·exact h _
 ·exact h _
 ·exact h _
 ·split
  ·exact fun hh=>⟨hh.1,hh.2.1,h _ hh.2.2⟩
  ·exact id
 ·exact id
def Yt{σ : ae}{x:AV}{K:Bool->Prop}(hh:AZ σ x K): ∃ v,(∀ τ,AZ (σ++ τ) x (fun v'=>v'=v))/\K v:=by
 unfold AZ at hh ⊢;split at hh
 ·exact⟨_,fun _=>rfl,hh⟩
 ·exact⟨_,fun _=>rfl,hh⟩
 ·exact⟨_,fun _=>rfl,hh⟩
 ·split at hh
  ·rename_i h1;exact⟨false,fun τ=>by simp only[jv τ h1];exact⟨hh.1,hh.2.1,trivial⟩,hh.2.2⟩
  ·exact hh.elim
 ·exact hh.elim
def LV{T:TypeId}{ok:Bool}{z x:AV}{K K':AV->Prop}(h:∀ v,K v->K' v): w8 T ok z x K->w8 T ok z x K':=by
 unfold w8;split
 ·split
  ·exact h _
  ·exact fun hh=>⟨hh.1,h _ hh.2⟩
 ·exact fun hh=>⟨hh.1,h _ hh.2⟩
 ·exact id
def V7{σ : ae}{n:Nat}{x:AV}{K K':AV->ae->Prop}(h:∀ v s,K v s->K' v s): GF σ n x K->GF σ n x K':=by
 unfold GF;split
 ·exact fun hh=>⟨hh.1,hh.2.1,hh.2.2.1,h _ _ hh.2.2.2⟩
 ·refine fun hh=>⟨hh.1,?_⟩;have hh:=hh.2;split at hh
  ·exact⟨hh.1,hh.2.1,hh.2.2.1,hh.2.2.2.1,hh.2.2.2.2.1,h _ _ hh.2.2.2.2.2⟩
  ·exact hh.elim
 ·exact id
def Ua{σ : ae}{kd:Option IntKind}{zero x k:AV}{K K':AV->ae->Prop}(h:∀ v s,K v s->K' v s): A0 σ kd zero x k K->A0 σ kd zero x k K':=by
 unfold A0;split
 ·refine fun hh=>⟨hh.1,?_⟩;have hh:=hh.2;split at hh
  ·split at hh
   ·exact h _ _ hh
   ·exact h _ _ hh
   ·exact hh.elim
  ·exact hh.elim
 ·exact id
def Ie{σ : ae}{x s v:AV}{K K':ae->Prop}(h:∀ s,K s->K' s): A1 σ x s v K->A1 σ x s v K':=by
 unfold A1;split
 ·split
  ·exact fun hh=>⟨hh.1,hh.2.1,h _ hh.2.2⟩
  ·exact id
 ·exact id
def LW{σ : ae}{el:El}{zero x:AV}{K K':ae->Prop}(h:∀ s,K s->K' s): GG σ el zero x K->GG σ el zero x K':=by
 unfold GG;split
 ·exact h _
 ·exact h _
 ·refine fun hh=>⟨hh.1,hh.2.1,?_⟩;have hh:=hh.2.2;split at hh
  ·exact⟨hh.1,hh.2.1,hh.2.2.1,h _ hh.2.2.2⟩
  ·exact hh.elim
 ·exact id
def aaM{T:TypeId}{ok:Bool}{z x:AV}{K:AV->Prop}(hh:w8 T ok z x K): ∃ v,w8 T ok z x (fun v'=>v'=v)/\K v:=by
 unfold w8 at hh ⊢;split at hh
 ·split at hh
  ·rename_i e;exact⟨_,by rw[if_pos e],hh⟩
  ·rename_i e;exact⟨_,by rw[if_neg e];exact⟨hh.1,rfl⟩,hh.2⟩
 ·exact⟨_,⟨hh.1,rfl⟩,hh.2⟩
 ·exact hh.elim
def aaN{σ : ae}{n:Nat}{x:AV}{K:AV->ae->Prop}(hh:GF σ n x K): ∃ v σ',GF σ n x (fun v' s'=>v'=v/\s' = σ')/\K v σ':=by
 unfold GF at hh ⊢;split at hh
 ·exact⟨_,_,⟨hh.1,hh.2.1,hh.2.2.1,rfl,rfl⟩,hh.2.2.2⟩
 ·obtain⟨h0,hh⟩:=hh;split at hh
  ·exact⟨_,_,⟨h0,hh.1,hh.2.1,hh.2.2.1,hh.2.2.2.1,hh.2.2.2.2.1,rfl,rfl⟩,hh.2.2.2.2.2⟩
  ·exact hh.elim
 ·exact hh.elim
def Yu{σ : ae}{kd:Option IntKind}{zero x k:AV}{K:AV->ae->Prop}(hh:A0 σ kd zero x k K): ∃ v σ',A0 σ kd zero x k (fun v' s'=>v'=v/\s' = σ')/\K v σ':=by
 unfold A0 at hh ⊢;split at hh
 ·obtain⟨h0,hh⟩:=hh;split at hh
  ·split at hh
   ·exact⟨_,_,⟨h0,rfl,rfl⟩,hh⟩
   ·exact⟨_,_,⟨h0,rfl,rfl⟩,hh⟩
   ·exact hh.elim
  ·exact hh.elim
 ·exact hh.elim
def Yv{σ : ae}{x s v:AV}{K:ae->Prop}(hh:A1 σ x s v K): ∃ σ',A1 σ x s v (fun s'=>s' = σ')/\K σ':=by
 unfold A1 at hh ⊢;split at hh
 ·split at hh
  ·exact⟨_,⟨hh.1,hh.2.1,rfl⟩,hh.2.2⟩
  ·exact hh.elim
 ·exact hh.elim
def V8{σ : ae}{x:AV}{K K':AV->ae->Prop}(h:∀ v s,K v s->K' v s): w9 σ x K->w9 σ x K':=by
 unfold w9;split
 ·exact h _ _
 ·exact h _ _
 ·split
  ·exact fun⟨a,b,c,d⟩=>⟨a,b,c,h _ _ d⟩
  ·exact id
 ·exact id
def aaO{σ : ae}{el:El}{zero x:AV}{K:ae->Prop}(hh:GG σ el zero x K): ∃ σ',GG σ el zero x (fun s'=>s' = σ')/\K σ':=by
 unfold GG at hh ⊢;split at hh
 ·exact⟨_,rfl,hh⟩
 ·exact⟨_,rfl,hh⟩
 ·obtain⟨h0,h1,hh⟩:=hh;split at hh
  ·exact⟨_,⟨h0,h1,hh.1,hh.2.1,hh.2.2.1,rfl⟩,hh.2.2.2⟩
  ·exact hh.elim
 ·exact hh.elim
def fX.sj{o:fX}{vs:List AV}{σ : ae}{K K' Kp V9:AV->ae->Prop}(h:∀ v s,K v s->K' v s)(hp:∀ v s,Kp v s->V9 v s): o.run P vs σ K Kp->o.run P vs σ K' V9:=by
 unfold fX.run;split
 ·exact LU h
 ·exact LU h
 ·exact h _ _
 ·exact fun hh=>⟨hh.1,h _ _ hh.2⟩
 ·refine fun hh=>⟨hh.1,?_⟩;have hh:=hh.2;split at hh
  ·split at hh
   ·exact h _ _ hh
   ·exact h _ _ hh
   ·exact hh.elim
  ·exact hh.elim
 ·refine fun hh=>⟨hh.1,?_⟩;have hh:=hh.2;split at hh
  ·split at hh
   ·exact h _ _ hh
   ·exact hh.elim
  ·exact hh.elim
 ·exact h _ _
 ·split
  ·exact h _ _
  ·exact id
 ·exact u9 fun v=>h v σ
 ·exact u9 fun v=>h v σ
 ·exact u9 fun v=>h v σ
 ·exact u9 fun v=>h v σ
 ·exact T9 h
 ·exact V6 h
 ·exact T_ fun v=>h v σ
 ·exact Ic fun v=>h _ σ
 ·exact fun⟨r,s2,h1,h2,h3⟩=>⟨r,s2,h1,h2,h _ _ h3⟩
 ·exact A3 fun v=>h v σ
 ·exact A3 fun v=>h v σ
 ·split
  ·refine fun hh=>hh.mono fun o s=>?_;cases o
   ·exact h _ _
   ·exact hp _ _
  ·exact id
 ·exact LV fun v=>h v σ
 ·exact V7 h
 ·exact Ua h
 ·exact Ie fun s=>h _ s
 ·exact LW fun s=>h _ s
 ·rintro⟨o,h1,h2⟩;refine⟨o,h1,?_⟩;cases o
  ·exact h _ _ h2
  ·exact fun s=>hp _ _ (h2 s)
 ·exact V8 h
 ·exact id
def sj{o:bA}{e:Env}{σ : ae}{K K' Kp V9:AV->ae->Prop}(h:∀ v s,K v s->K' v s)(hp:∀ v s,Kp v s->V9 v s): o.run P e σ K Kp->o.run P e σ K' V9:=by
 cases o<;>simp only[bA.run]
 case ex o xs=>exact fX.sj h hp
 case mv x=>exact h _ _
 case alloc T cs=>exact h _ _
 case ji el=>exact h _ _
 case hold=>exact h _ _
 case C6=>exact fun hh=>⟨hh.1,h _ _ hh.2⟩
 case mC k T cs =>
  split
  ·split
   ·exact h _ _
   ·exact id
  ·exact id
 case qF k T el x y =>
  split
  ·split
   ·split
    ·exact fun hh=>⟨hh.1,hh.2.1,hh.2.2.1,h _ _ hh.2.2.2⟩
    ·exact id
   ·exact id
  ·exact id
 case qG k el z x y =>
  split
  ·split
   ·split
    ·exact fun hh=>⟨hh.1,hh.2.1,hh.2.2.1,hh.2.2.2.1,h _ _ hh.2.2.2.2⟩
    ·exact id
   ·exact id
  ·exact id
 case uN t x=>exact h _ _
 case q_ f a b=>exact h _ _
 case box x=>exact fun hh=>⟨hh.1,h _ _ hh.2⟩
 case build z ps=>exact y9 (fun v=>h _ _) _ _
 case j7 mt el z n ps=>exact sY (fun v=>by split<;>exact h _ _) _ _
 case load ag n x=>exact me fun v=>h _ _
 case store n x v=>exact uO fun v=>h _ _
 case bin op x y=>exact LO fun v=>h _ _
 case un op x=>exact OJ fun v=>h _ _
 case app T el x y=>exact LQ h
 case T6=>exact fun hh=>⟨hh.1,h _ _ hh.2⟩
 case V5 =>
  split
  ·exact h _ _
  ·refine fun hh=>⟨hh.1,?_⟩;have hh:=hh.2;split at hh
   ·exact⟨hh.1,hh.2.1,hh.2.2.1,h _ _ hh.2.2.2⟩
   ·exact hh.elim
  ·exact id
 case Ys =>
  split
  ·exact fun hh=>⟨hh.1,h _ _ hh.2⟩
  ·refine fun hh=>⟨hh.1,hh.2.1,hh.2.2.1,?_⟩;have hh:=hh.2.2.2;split at hh
   ·obtain⟨a1,a2,a3,a4,a5,s,a6,a7⟩:=hh;exact⟨a1,a2,a3,a4,a5,s,a6,h _ _ a7⟩
   ·exact hh.elim
  ·exact id
 case p2u =>
  split
  ·split
   ·exact fun hh=>⟨hh.1,h _ _ hh.2⟩
   ·exact id
  ·exact id
 case u2p =>
  split
  ·split
   ·exact fun hh=>⟨hh.1,h _ _ hh.2⟩
   ·exact id
  ·exact id
 case eqp =>
  split
  ·refine fun hh=>⟨hh.1,hh.2.1,?_⟩;have hh:=hh.2.2;split at hh
   ·exact h _ _ hh
   ·exact hh.elim
  ·exact id
 case min x xs=>exact sX (fun v=>h _ _) _ _
 case max x xs=>exact sX (fun v=>h _ _) _ _
 case Ch x=>exact fun hh=>⟨hh.1,kq (fun v ⟨s,h1,h2⟩=>⟨s,h1,h _ _ h2⟩) hh.2⟩
 case pick c a b=>split<;>first|exact h _ _|exact id
 case mc x=>split<;>first|exact h _ _|exact id
 case jD=>split<;>first|exact h _ _|exact id
 case jE=>split<;>first|exact h _ _|exact id
 case SG=>split<;>first|exact h _ _|exact id
 case rU=>split<;>first|exact h _ _|exact id
 case iD=>split<;>first|exact h _ _|exact id
 case panic=>split<;>first|exact hp _ _|exact id
 case Kl=>split<;>first|exact h _ _|exact id
 case Km =>
  split
  ·split
   ·split<;>exact h _ _
   ·exact id
  ·exact id
 case len=>split<;>first|exact h _ _|exact id
 case VZ=>split<;>first|exact fun hh=>⟨hh.1,h _ _ hh.2⟩|exact id
 case ext=>split<;>first|exact fun hh=>⟨hh.1,h _ _ hh.2⟩|exact id
 case field=>split<;>first|exact fun hh=>⟨hh.1,hh.2.1,h _ _ hh.2.2⟩|exact id
 case jh=>split<;>first|exact fun hh=>⟨hh.1,hh.2.1,h _ _ hh.2.2⟩|exact id
 case Kk=>split<;>first|exact fun hh=>⟨hh.1,hh.2.1,hh.2.2.1,hh.2.2.2.1,h _ _ hh.2.2.2.2⟩|exact id
 case po=>split<;>first|exact fun hh=>⟨hh.1,hh.2.1,hh.2.2.1,hh.2.2.2.1,h _ _ hh.2.2.2.2⟩|exact id
 case p8 x lo hi=>split<;>first|exact cG (fun _=>cG fun _=>h _ _)|exact id
 case ov el x lo hi =>
  split
  ·exact cG (fun _=>cG fun _=>h _ _)
  ·exact fun hh=>⟨hh.1,cG (fun _=>cG fun _=>h _ _) hh.2⟩
  ·refine fun hh=>⟨hh.1,?_⟩;have hh:=hh.2;split at hh
   ·exact⟨hh.1,hh.2.1,hh.2.2.1,cG (fun _=>cG fun _=>h _ _) hh.2.2.2⟩
   ·exact hh.elim
  ·exact id
 case fh el arr x i =>
  intro hh;split at hh
  ·split at hh
   ·exact⟨hh.1,hh.2.1,hh.2.2.1,h _ _ hh.2.2.2⟩
   ·refine⟨hh.1,hh.2.1,hh.2.2.1,?_⟩;have hh:=hh.2.2.2;split at hh
    ·exact⟨hh.1,hh.2.1,h _ _ hh.2.2⟩
    ·exact hh.elim
   ·exact⟨hh.1,hh.2.1,h _ _ hh.2.2⟩
   ·exact⟨hh.1,hh.2.1,h _ _ hh.2.2⟩
   ·exact⟨hh.1,hh.2.1,h _ _ hh.2.2⟩
   ·exact hh.elim
  ·exact hh.elim
 case n7 f args =>
  split
  ·unfold E_;split
   ·exact fun⟨l,ob,mZ,r,h1,h2,h3,h4,h5⟩=>⟨l,ob,mZ,r,h1,h2,h3,h4,h _ _ h5⟩
   ·exact id
  ·exact id
 case call q f args =>
  split
  ·split
   ·exact fun⟨r,h1,h2⟩=>⟨r,h1,h _ _ h2⟩
   ·exact fun hh=>hh.mono fun o s=>by cases o<;>first|exact h _ _|exact hp _ _
  ·split
   ·exact id
   ·exact fun hh=>hh.mono fun o s=>by cases o<;>first|exact h _ _|exact hp _ _
  ·exact id
abbrev Is(v:AV)(σ : ae): AV->ae->Prop:=fun v' σ'=>v'=v/\σ' = σ
abbrev No: AV->ae->Prop:=fun _ _=>False
def aaP{el:El}{n:Nat}{p:AV}{lo hi:Option AV}{K:AV->Prop}(hh:C_ el n p lo hi K): ∃ v,C_ el n p lo hi (fun v'=>v'=v)/\K v:=by
 obtain⟨v,h1,h2⟩:=kV hh.2;obtain⟨u,h3,h4⟩:=kV h2;exact⟨_,⟨hh.1,cG (fun v' e=>by subst e;exact cG (fun u' e=>by subst e;rfl) h3) h1⟩,h4⟩
def sH{lo:Option AV}{hi mx:AV}{cap:Nat}{K:Nat->Nat->Nat->Prop}(h:rq lo hi mx cap K): ∃ a b c,rq lo hi mx cap (fun a' b' c'=>a'=a/\b'=b/\c'=c)/\K a b c:=by
 obtain⟨m,h1,h2⟩:=kV h;obtain⟨b,h3,h4⟩:=kV h2;obtain⟨a,h5,h6⟩:=kV h4;exact⟨a,b,m,cG (fun m' e=>by subst e;exact cG (fun b' e=>by subst e;exact cG (fun a' e=>⟨e,rfl,rfl⟩) h5) h3) h1,h6⟩
def Yw{el:El}{x:AV}{lo:Option AV}{hi mx:AV}{K:AV->Prop}(hh:yq el x lo hi mx K): ∃ v,yq el x lo hi mx (fun v'=>v'=v)/\K v:=by
 unfold yq at hh ⊢;split at hh
 ·obtain⟨a,b,c,h1,h2⟩:=sH hh;exact⟨_,je (fun _ _ _ _=>rfl) h1,h2⟩
 ·obtain⟨a,b,c,h1,h2⟩:=sH hh.2;exact⟨_,⟨hh.1,je (fun _ _ _ e=>by obtain⟨rfl,rfl,rfl⟩:=e;rfl) h1⟩,h2⟩
 ·obtain⟨a,b,c,h1,h2⟩:=sH hh.2;exact⟨_,⟨hh.1,je (fun _ _ _ _=>rfl) h1⟩,h2⟩
 ·exact hh.elim
def fX.Fb{o:fX}{vs:List AV}{σ : ae}{K Kp:AV->ae->Prop}(hc:o.cls = .pu)(hh:o.run P vs σ K Kp): ∃ v,(∀ σ',o.run P vs σ' (Is v σ') No)/\K v σ:=by
 cases o<;>simp only[fX.cls]at hc<;>(try (cases hc;done))
 ·unfold fX.run at hh ⊢
  split at hh<;>(try (rename_i h;cases h))<;>first
   |(obtain⟨v,h1,h2⟩:=aaP hh;exact⟨v,fun σ'=>u9 (fun v' e=>⟨e,rfl⟩) h1,h2⟩)
   | exact hh.elim
 ·unfold fX.run at hh ⊢
  split at hh<;>(try (rename_i h;cases h))<;>first
   |(obtain⟨v,h1,h2⟩:=Yw hh;exact⟨v,fun σ'=>A3 (fun v' e=>⟨e,rfl⟩) h1,h2⟩)
   | exact hh.elim
 ·unfold fX.run at hh ⊢
  split at hh<;>(try (rename_i h;cases h))<;>first
   |(obtain⟨v,h1,h2⟩:=aaM hh;exact⟨v,fun σ'=>LV (fun v' e=>⟨e,rfl⟩) h1,h2⟩)
   | exact hh.elim
def fX.A4{o:fX}{vs:List AV}{σ : ae}{K Kp:AV->ae->Prop}(hc:o.cls = .rd)(hh:o.run P vs σ K Kp): ∃ v,(∀ τ,o.run P vs (σ++ τ) (Is v (σ++ τ)) No)/\K v σ:=by
 cases o<;>simp only[fX.cls]at hc<;>(try (cases hc;done))
 case OG neg =>
  unfold fX.run at hh ⊢;split at hh<;>(try (rename_i h;cases h))<;>(try exact hh.elim);obtain⟨v,h1,h2⟩:=Yt hh;exact⟨_,fun τ=>Ic (fun v' e=>by subst e;exact⟨rfl,rfl⟩) (h1 τ),h2⟩
 case OE el =>
  unfold fX.run at hh ⊢;split at hh<;>(try (rename_i h;cases h))<;>(try exact hh.elim);unfold Ia at hh ⊢;obtain⟨ys,h1,h2,h3,h4⟩:=GH hh;split at h4
  ·exact⟨_,fun τ=>kq (fun zs (e:zs=ys)=>by subst e;exact⟨h2,h3,h4.1,rfl,rfl⟩) (h1 τ),h4.2⟩
  ·exact⟨_,fun τ=>kq (fun zs (e:zs=ys)=>by subst e;exact⟨h2,h3,h4.1,h4.2.1,rfl,rfl⟩) (h1 τ),h4.2.2⟩
  ·exact h4.elim
 case Ki kd ok zero =>
  unfold fX.run at hh ⊢;split at hh<;>(try (rename_i h;cases h))
  ·exact⟨_,fun τ=>⟨hh.1,rfl,rfl⟩,hh.2⟩
  ·obtain⟨h0,hh⟩:=hh;split at hh
   ·rename_i h1;split at hh
    ·rename_i h2;exact⟨_,fun τ=>by simp only[jv τ h1,h2];exact⟨h0,rfl,rfl⟩,hh⟩
    ·rename_i h2;exact⟨_,fun τ=>by simp only[jv τ h1,h2];exact⟨h0,rfl,rfl⟩,hh⟩
    ·exact hh.elim
   ·exact hh.elim
  ·exact hh.elim
 case Kj =>
  unfold fX.run at hh ⊢;split at hh<;>(try (rename_i h;cases h))
  ·exact⟨_,fun τ=>⟨rfl,rfl⟩,hh⟩
  ·split at hh
   ·rename_i h1;exact⟨_,fun τ=>by simp only[jv τ h1];exact⟨rfl,rfl⟩,hh⟩
   ·exact hh.elim
  ·exact hh.elim
def fX.Ig{o:fX}{vs:List AV}{σ : ae}{K Kp:AV->ae->Prop}(hc:o.cls = .al)(hh:o.run P vs σ K Kp): ∃ v τ,o.run P vs σ (Is v (σ++ τ)) No/\K v (σ++ τ):=by
 cases o<;>simp only[fX.cls]at hc<;>(try (cases hc;done));unfold fX.run at hh ⊢;split at hh<;>(try (rename_i h;cases h))
 ·exact⟨_,_,⟨rfl,rfl⟩,hh⟩
 ·exact hh.elim
def fX.Ih{o:fX}: o.cls≠ .st/\o.cls≠ .ap:=by cases o<;>simp[fX.cls]
def Fb{o:bA}{e:Env}{σ : ae}{K Kp:AV->ae->Prop}(hc:o.cls = .pu)(hh:o.run P e σ K Kp): ∃ v,(∀ σ',o.run P e σ' (Is v σ') No)/\K v σ:=by
 cases o<;>simp only[bA.cls]at hc<;>(try (cases hc;done))<;>simp only[bA.run]at hh ⊢
 case ex o xs=>exact fX.Fb hc hh
 case mv x=>exact⟨_,fun _=>⟨rfl,rfl⟩,hh⟩
 case uN t x=>exact⟨_,fun _=>⟨rfl,rfl⟩,hh⟩
 case q_ f a b=>exact⟨_,fun _=>⟨rfl,rfl⟩,hh⟩
 case build z ps=>obtain⟨v,h1,h2⟩:=LS _ _ hh;exact⟨_,fun _=>y9 (fun v' e=>⟨congrArg AV.agg e,rfl⟩) _ _ h1,h2⟩
 case j7 mt el z n ps =>
  cases mt
  ·obtain⟨v,h1,h2⟩:=A2 _ _ hh;simp only[aI,if_false]at h2 ⊢;exact⟨_,fun _=>sY (fun v' e=>⟨congrArg (AV.aG true el) e,rfl⟩) _ _ h1,h2⟩
  ·cases hc
 case bin op x y=>obtain⟨v,h1,h2⟩:=aaK hh;exact⟨v,fun _=>LO (fun v' e=>⟨e,rfl⟩) h1,h2⟩
 case un op x=>obtain⟨v,h1,h2⟩:=ab9 hh;exact⟨v,fun _=>OJ (fun v' e=>⟨e,rfl⟩) h1,h2⟩
 case min x xs=>obtain⟨v,h1,h2⟩:=GI _ _ hh;exact⟨v,fun _=>sX (fun v' e=>⟨e,rfl⟩) _ _ h1,h2⟩
 case max x xs=>obtain⟨v,h1,h2⟩:=GI _ _ hh;exact⟨v,fun _=>sX (fun v' e=>⟨e,rfl⟩) _ _ h1,h2⟩
 case pick c a b=>split at hh<;>first|exact⟨_,fun _=>⟨rfl,rfl⟩,hh⟩|exact hh.elim
 case mc x=>split at hh<;>first|exact⟨_,fun _=>⟨rfl,rfl⟩,hh⟩|exact hh.elim
 case jD=>split at hh<;>first|exact⟨_,fun _=>⟨rfl,rfl⟩,hh⟩|exact hh.elim
 case jE=>split at hh<;>first|exact⟨_,fun _=>⟨rfl,rfl⟩,hh⟩|exact hh.elim
 case SG=>split at hh<;>first|exact⟨_,fun _=>⟨rfl,rfl⟩,hh⟩|exact hh.elim
 case rU=>split at hh<;>first|exact⟨_,fun _=>⟨rfl,rfl⟩,hh⟩|exact hh.elim
 case iD=>split at hh<;>first|exact⟨_,fun _=>⟨rfl,rfl⟩,hh⟩|exact hh.elim
 case len=>split at hh<;>first|exact⟨_,fun _=>⟨rfl,rfl⟩,hh⟩|exact hh.elim
 case ext=>split at hh<;>first|exact⟨_,fun _=>⟨hh.1,rfl,rfl⟩,hh.2⟩|exact hh.elim
 case field=>split at hh<;>first|exact⟨_,fun _=>⟨hh.1,hh.2.1,rfl,rfl⟩,hh.2.2⟩|exact hh.elim
 case jh=>split at hh<;>first|exact⟨_,fun _=>⟨hh.1,hh.2.1,rfl,rfl⟩,hh.2.2⟩|exact hh.elim
 case Kk=>split at hh<;>first|exact⟨_,fun _=>⟨hh.1,hh.2.1,hh.2.2.1,hh.2.2.2.1,rfl,rfl⟩,hh.2.2.2.2⟩|exact hh.elim
 case p8 x lo hi =>
  split at hh
  ·obtain⟨v,h1,h2⟩:=kV hh;obtain⟨u,h3,h4⟩:=kV h2;exact⟨_,fun _=>cG (fun v' e=>by subst e;exact cG (fun u' e=>by subst e;exact⟨rfl,rfl⟩) h3) h1,h4⟩
  ·exact hh.elim
 case call q f args=>split at hc<;>cases hc
def A4{o:bA}{e:Env}{σ : ae}{K Kp:AV->ae->Prop}(hc:o.cls = .rd)(hh:o.run P e σ K Kp): ∃ v,(∀ τ,o.run P e (σ++ τ) (Is v (σ++ τ)) No)/\K v σ:=by
 cases o<;>simp only[bA.cls]at hc<;>(try (cases hc;done))<;>simp only[bA.run]at hh ⊢
 case ex o xs=>exact fX.A4 hc hh
 case j7 mt el z n ps=>split at hc<;>cases hc
 case load ag n x=>obtain⟨v,h1,h2⟩:=uq hh;exact⟨v,fun τ=>me (fun v' e=>⟨e,rfl⟩) (h1 τ),h2⟩
 case Ch x =>
  obtain⟨v,h1,s,h2,h3⟩:=GH hh.2;exact⟨_,fun τ=>⟨hh.1,kq (fun v' (e:v'=v)=>⟨s,by rw[e];exact h2,rfl,rfl⟩) (h1 τ)⟩,h3⟩
 case V5 el x =>
  split at hh
  ·exact⟨_,fun _=>⟨rfl,rfl⟩,hh⟩
  ·obtain⟨h0,hh⟩:=hh;split at hh
   ·rename_i h;refine⟨_,fun τ=>⟨h0,?_⟩,hh.2.2.2⟩;simp only[jv τ h];exact⟨hh.1,hh.2.1,hh.2.2.1,by trivial⟩
   ·exact hh.elim
  ·exact hh.elim
 case ov el x lo hi =>
  split at hh
  ·obtain⟨v,h1,h2⟩:=kV hh;obtain⟨u,h3,h4⟩:=kV h2;exact⟨_,fun _=>cG (fun v' e=>by subst e;exact cG (fun u' e=>by subst e;exact⟨rfl,rfl⟩) h3) h1,h4⟩
  ·obtain⟨v,h1,h2⟩:=kV hh.2;obtain⟨u,h3,h4⟩:=kV h2;exact⟨_,fun _=>⟨hh.1,cG (fun v' e=>by subst e;exact cG (fun u' e=>by subst e;exact⟨rfl,rfl⟩) h3) h1⟩,h4⟩
  ·obtain⟨h0,hh⟩:=hh;split at hh
   ·rename_i h;obtain⟨v,h1,h2⟩:=kV hh.2.2.2;obtain⟨u,h3,h4⟩:=kV h2;refine⟨_,fun τ=>⟨h0,?_⟩,h4⟩;simp only[jv τ h];exact⟨hh.1,hh.2.1,hh.2.2.1,cG (fun v' e=>by subst e;exact cG (fun u' e=>by subst e;exact⟨rfl,rfl⟩) h3) h1⟩
   ·exact hh.elim
  ·exact hh.elim
 case fh el arr x i =>
  split at hh
  ·split at hh
   ·exact⟨_,fun τ=>⟨hh.1,hh.2.1,hh.2.2.1,rfl,rfl⟩,hh.2.2.2⟩
   ·obtain⟨h0,h1,h2,hh⟩:=hh;split at hh
    ·rename_i h;refine⟨_,fun τ=>⟨h0,h1,h2,?_⟩,hh.2.2⟩;simp only[jv τ h];exact⟨hh.1,hh.2.1,by trivial⟩
    ·exact hh.elim
   ·exact⟨_,fun τ=>⟨hh.1,hh.2.1,rfl,rfl⟩,hh.2.2⟩
   ·exact⟨_,fun τ=>⟨hh.1,hh.2.1,rfl,rfl⟩,hh.2.2⟩
   ·exact⟨_,fun τ=>⟨hh.1,hh.2.1,rfl,rfl⟩,hh.2.2⟩
   ·exact hh.elim
  ·exact hh.elim
 case call q f args =>
  cases q with
  | false=>cases hc
  | true =>
    split at hh
    ·simp only[if_true]at hh ⊢;obtain⟨r,h1,h2⟩:=hh;exact⟨r,fun τ=>⟨r,fun kr=>by rw[aR σ];exact h1 _,rfl,rfl⟩,h2⟩
    ·exact hh.elim
    ·exact hh.elim
def Ig{o:bA}{e:Env}{σ : ae}{K Kp:AV->ae->Prop}(hc:o.cls = .al)(hh:o.run P e σ K Kp): ∃ v τ,o.run P e σ (Is v (σ++ τ)) No/\K v (σ++ τ):=by
 cases o<;>simp only[bA.cls]at hc<;>(try (cases hc;done))<;>simp only[bA.run]at hh ⊢
 case ex o xs=>exact fX.Ig hc hh
 case alloc T cs=>exact⟨_,_,⟨rfl,rfl⟩,hh⟩
 case C6=>exact⟨_,_,⟨hh.1,rfl,rfl⟩,hh.2⟩
 case ji el=>exact⟨_,_,⟨rfl,rfl⟩,hh⟩
 case box x=>exact⟨_,_,⟨hh.1,rfl,rfl⟩,hh.2⟩
 case VZ x=>split at hh<;>first|exact⟨_,_,⟨hh.1,rfl,rfl⟩,hh.2⟩|exact hh.elim
 case po=>split at hh<;>first|exact⟨_,_,⟨hh.1,hh.2.1,hh.2.2.1,hh.2.2.2.1,rfl,rfl⟩,hh.2.2.2.2⟩|exact hh.elim
 case call q f args=>split at hc<;>cases hc
 case j7 mt el z n ps =>
  cases mt
  ·cases hc
  ·obtain⟨v,h1,h2⟩:=A2 _ _ hh;simp only[if_true]at h2 ⊢;exact⟨_,_,sY (fun v' e=>by subst e;exact⟨rfl,rfl⟩) _ _ h1,h2⟩
def Db{σ : ae}{n:Nat}{p v:AV}{K:ae->Prop}(hh:n8 σ n p v K): ∃ l o o',σ[l]? = some o/\o.like o'/\p.obj=some l/\n8 σ n p v (fun s=>s = σ.set l o')/\K (σ.set l o'):=by
 unfold n8 at hh;obtain⟨h1,h2,hh⟩:=hh;split at hh
 ·split at hh
  ·rename_i h;exact⟨_,_,_,h,trivial,rfl,by simp only[n8,h];exact⟨h1,h2,hh.1,trivial⟩,hh.2⟩
  ·exact hh.elim
 ·split at hh
  ·rename_i h;obtain⟨e1,e2,e3,e4,e5,hK⟩:=hh;subst e1;exact⟨_,_,_,h,⟨_,rfl,by simp⟩,rfl,by simp only[n8,h];exact⟨h1,h2,trivial,e2,e3,e4,e5,trivial⟩,hK⟩
  ·exact hh.elim
 ·exact hh.elim
def adU{o:bA}{e:Env}{σ : ae}{K Kp:AV->ae->Prop}(hc:o.cls = .st)(hh:o.run P e σ K Kp): ∃ v σ',o.run P e σ (Is v σ') No/\K v σ':=by
 cases o<;>simp only[bA.cls]at hc<;>(try (cases hc;done))<;>simp only[bA.run]at hh ⊢
 case ex=>exact absurd hc fX.Ih.1
 case j7=>split at hc<;>cases hc
 case call=>split at hc<;>cases hc
 case n7 f args =>
  split at hh
  ·unfold E_ at *;split at hh
   ·obtain⟨l,ob,mZ,r,h1,h2,h3,h4,h5⟩:=hh;exact⟨r,_,⟨l,ob,mZ,r,h1,h2,h3,h4,rfl,rfl⟩,h5⟩
   ·exact hh.elim
  ·exact hh.elim
 case store n x v =>
  obtain⟨l,o,o',_,_,_,h1,h2⟩:=Db hh;exact⟨_,_,uO (fun s e=>⟨rfl,e⟩) h1,h2⟩
 case mC k T cs =>
  split at hh
  ·rename_i n h1;split at hh
   ·rename_i h2;exact⟨_,_,⟨rfl,rfl⟩,hh⟩
   ·exact hh.elim
  ·exact hh.elim
 case qF k T el x y =>
  split at hh
  ·split at hh
   ·split at hh
    ·exact⟨_,_,⟨hh.1,hh.2.1,hh.2.2.1,rfl,rfl⟩,hh.2.2.2⟩
    ·exact hh.elim
   ·exact hh.elim
  ·exact hh.elim
 case qG k el z x y =>
  split at hh
  ·split at hh
   ·split at hh
    ·exact⟨_,_,⟨hh.1,hh.2.1,hh.2.2.1,hh.2.2.2.1,rfl,rfl⟩,hh.2.2.2.2⟩
    ·exact hh.elim
   ·exact hh.elim
  ·exact hh.elim
def aav{o:bA}{e:Env}{σ : ae}{K Kp:AV->ae->Prop}(hc:o.cls = .ap)(hh:o.run P e σ K Kp): ∃ v σ',o.run P e σ (Is v σ') No/\K v σ':=by
 cases o<;>simp only[bA.cls]at hc<;>(try (cases hc;done))<;>simp only[bA.run]at hh ⊢
 case ex=>exact absurd hc fX.Ih.2
 case j7=>split at hc<;>cases hc
 case call=>split at hc<;>cases hc
 case app T el x y =>
  have key:∀ ys:List AV,∀ K':AV->ae->Prop,(ys.all (fun a=>a.fits el)=true/\match x.ev e with
   | .ai=>if ys.length=0 then K' .ai σ else jj ys.length el/\K' (.own el σ.length ys.length 0 ys.length) (σ++[.dW T el ys])
   | .aG true bB xs=>bB=el/\if ys.length=0 then K' (.aG true el xs) σ else jj (xs.length+ys.length) el/\K' (.own el σ.length (xs.length+ys.length) 0 (xs.length+ys.length)) (σ++[.dW T el (xs++ys)])
   | .own bB l m lo n => bB = el /\ match σ[l]? with
     | some (.dW T' dQ xs)=>(T'=none\/T'=T)/\dQ=el/\m=xs.length/\lo=0/\n=xs.length/\jj (xs.length+ys.length) el/\K' (.own el l (xs.length+ys.length) 0 (xs.length+ys.length)) (σ.set l (.dW T' el (xs++ys)))
     | _=>False
   | _=>False)-> ∃ v σ',K' v σ'/\(ys.all (fun a=>a.fits el)=true/\match x.ev e with
   | .ai=>if ys.length=0 then Is v σ' .ai σ else jj ys.length el/\Is v σ' (.own el σ.length ys.length 0 ys.length) (σ++[.dW T el ys])
   | .aG true bB xs=>bB=el/\if ys.length=0 then Is v σ' (.aG true el xs) σ else jj (xs.length+ys.length) el/\Is v σ' (.own el σ.length (xs.length+ys.length) 0 (xs.length+ys.length)) (σ++[.dW T el (xs++ys)])
   | .own bB l m lo n => bB = el /\ match σ[l]? with
     | some (.dW T' dQ xs)=>(T'=none\/T'=T)/\dQ=el/\m=xs.length/\lo=0/\n=xs.length/\jj (xs.length+ys.length) el/\Is v σ' (.own el l (xs.length+ys.length) 0 (xs.length+ys.length)) (σ.set l (.dW T' el (xs++ys)))
     | _=>False
   | _=>False):=fun ys K'=>by
   rintro⟨h1,h2⟩;split at h2
   ·split at h2
    ·exact⟨_,_,h2,h1,by rw[if_pos (by assumption)];exact⟨rfl,rfl⟩⟩
    ·exact⟨_,_,h2.2,h1,by rw[if_neg (by assumption)];exact⟨h2.1,rfl,rfl⟩⟩
   ·obtain⟨rfl,h2⟩:=h2;split at h2
    ·exact⟨_,_,h2,h1,rfl,by rw[if_pos (by assumption)];exact⟨rfl,rfl⟩⟩
    ·exact⟨_,_,h2.2,h1,rfl,by rw[if_neg (by assumption)];exact⟨h2.1,rfl,rfl⟩⟩
   ·obtain⟨rfl,h2⟩:=h2;split at h2
    ·rename_i hk;refine⟨_,_,h2.2.2.2.2.2.2,h1,rfl,?_⟩;exact⟨h2.1,h2.2.1,h2.2.2.1,h2.2.2.2.1,h2.2.2.2.2.1,h2.2.2.2.2.2.1,rfl,rfl⟩
    ·exact h2.elim
   ·exact h2.elim
  have hh:ja σ el (y.ev e) fun ys=> ∃ v σ',K v σ'/\_:=kq (fun ys h=>key ys K h) hh
  have out:∀ {B:List AV->AV->ae->Prop},(ja σ el (y.ev e) fun ys=> ∃ v σ',K v σ'/\B ys v σ')-> ∃ v σ',(ja σ el (y.ev e) fun ys=>B ys v σ')/\K v σ':=fun {B} h=>by
   unfold ja at *;split at h
   ·obtain⟨v,s,h1,h2⟩:=h;exact⟨v,s,h2,h1⟩
   ·obtain⟨h0,v,s,h1,h2⟩:=h;exact⟨v,s,⟨h0,h2⟩,h1⟩
   ·obtain⟨h0,h⟩:=h;split at h
    ·obtain⟨q1,q2,v,s,h1,h2⟩:=h;exact⟨v,s,⟨h0,q1,q2,h2⟩,h1⟩
    ·exact h.elim
   ·obtain⟨h0,v,s,h1,h2⟩:=h;exact⟨v,s,⟨h0,h2⟩,h1⟩
   ·obtain⟨h0,h0',h⟩:=h;obtain⟨u,h1,v,s,h2,h3⟩:=uq h;exact⟨v,s,⟨h0,h0',me (fun u' (e:u'=u)=>by subst e;exact h3) (by simpa using h1 [])⟩,h2⟩
   ·exact h.elim
  exact out hh
def LX{σ : ae}{el:El}{x:AV}{K:List AV->Prop}(hh:ja σ el x K): ∃ v,ja σ el x (fun v'=>v'=v)/\K v:=by
 obtain⟨v,h1,h2⟩:=GH hh;exact⟨v,by simpa using h1 [],h2⟩
def aaQ{σ : ae}{T:Option TypeId}{el:El}{x y:AV}{K:AV->ae->Prop}(hh:uo σ T el x y K): ∃ v σ',uo σ T el x y (Is v σ')/\K v σ':=by
 have:=aav (P:=default) (o:= .app T el (.c x) (.c y)) (e:=fun _=> .undef) (σ:=σ) (K:=K) (Kp:=No) rfl hh;obtain⟨v,σ',h1,h2⟩:=this;exact⟨v,σ',h1,h2⟩
def aaR{σ : ae}{x:AV}{K:AV->ae->Prop}(hh:w9 σ x K): ∃ v σ',w9 σ x (Is v σ')/\K v σ':=by
 unfold w9 at hh ⊢;split at hh
 ·exact⟨_,_,⟨rfl,rfl⟩,hh⟩
 ·exact⟨_,_,⟨rfl,rfl⟩,hh⟩
 ·split at hh
  ·exact⟨_,_,⟨hh.1,hh.2.1,hh.2.2.1,rfl,rfl⟩,hh.2.2.2⟩
  ·exact hh.elim
 ·exact hh.elim
def fX.det{o:fX}{vs:List AV}{σ : ae}{K Kp:AV->ae->Prop}(hni:o.cls≠ .no)(hh:o.run P vs σ K Kp): ∃ v σ',o.run P vs σ (Is v σ') No/\K v σ':=by
 cases o with
 | inv n=>exact absurd rfl hni
 | pc n=>exact absurd rfl hni
 | cw n k C5 =>
   unfold fX.run at hh ⊢;split at hh<;>(try (rename_i h;cases h))<;>(try exact hh.elim);obtain⟨r,s2,h1,h2,h3⟩:=hh;exact⟨r,s2,⟨r,s2,h1,h2,rfl,rfl⟩,h3⟩
 | OG neg =>
   obtain⟨v,h1,h2⟩:=fX.A4 (o:= .OG neg) rfl hh;exact⟨v,σ,by simpa using h1 [],h2⟩
 | OE el =>
   obtain⟨v,h1,h2⟩:=fX.A4 (o:= .OE el) rfl hh;exact⟨v,σ,by simpa using h1 [],h2⟩
 | OD el lo =>
   obtain⟨v,h1,h2⟩:=fX.Fb (o:= .OD el lo) rfl hh;exact⟨v,σ,h1 _,h2⟩
 | OH T ok z =>
   obtain⟨v,h1,h2⟩:=fX.Fb (o:= .OH T ok z) rfl hh;exact⟨v,σ,h1 _,h2⟩
 | s2a n =>
   unfold fX.run at hh ⊢;split at hh<;>(try (rename_i h;cases h))<;>(try exact hh.elim);obtain⟨v,σ',h1,h2⟩:=aaN hh;exact⟨v,σ',h1,h2⟩
 | ab5 kd z =>
   unfold fX.run at hh ⊢;split at hh<;>(try (rename_i h;cases h))<;>(try exact hh.elim);obtain⟨v,σ',h1,h2⟩:=Yu hh;exact⟨v,σ',h1,h2⟩
 | ab6 =>
   unfold fX.run at hh ⊢;split at hh<;>(try (rename_i h;cases h))<;>(try exact hh.elim);obtain⟨σ',h1,h2⟩:=Yv hh;exact⟨_,σ',Ie (fun s e=>⟨rfl,e⟩) h1,h2⟩
 | clr el z =>
   unfold fX.run at hh ⊢;split at hh<;>(try (rename_i h;cases h))<;>(try exact hh.elim);obtain⟨σ',h1,h2⟩:=aaO hh;exact⟨_,σ',LW (fun s e=>⟨rfl,e⟩) h1,h2⟩
 | FP =>
   unfold fX.run at hh ⊢;split at hh<;>(try (rename_i h;cases h))<;>(try exact hh.elim);obtain⟨v,σ',h1,h2⟩:=aaR hh;exact⟨v,σ',h1,h2⟩
 | OC el n lo hi =>
   obtain⟨v,h1,h2⟩:=fX.Fb (o:= .OC el n lo hi) rfl hh;exact⟨v,σ,h1 σ,h2⟩
 | Ki kd ok zero =>
   obtain⟨v,h1,h2⟩:=fX.A4 (o:= .Ki kd ok zero) rfl hh;exact⟨v,σ,by simpa using h1 [],h2⟩
 | Kj =>
   obtain⟨v,h1,h2⟩:=fX.A4 (o:= .Kj) rfl hh;exact⟨v,σ,by simpa using h1 [],h2⟩
 | Og =>
   obtain⟨v,τ,h1,h2⟩:=fX.Ig (o:= .Og) rfl hh;exact⟨v,_,h1,h2⟩
 | VY kd =>
   unfold fX.run at hh ⊢;split at hh<;>(try (rename_i h;cases h))<;>(try exact hh.elim);obtain⟨h0,hh⟩:=hh;split at hh
   ·rename_i h1;split at hh
    ·rename_i h2;refine⟨_,_,?_,hh⟩;exact⟨h0,rfl,rfl⟩
    ·exact hh.elim
   ·exact hh.elim
 | sl3 el lo =>
   have key:∀ {x:AV} {l:Option AV} {h m:AV},C9 σ el x l h m K-> ∃ v σ',C9 σ el x l h m (Is v σ')/\K v σ':=fun {x l h m} hh=>by
    unfold C9 at hh ⊢;split at hh
    ·obtain⟨a,b,c,h1,h2⟩:=sH hh;exact⟨_,_,je (fun _ _ _ _=>⟨rfl,rfl⟩) h1,h2⟩
    ·obtain⟨a,b,c,h1,h2⟩:=sH hh.2;exact⟨_,_,⟨hh.1,je (fun _ _ _ e=>by obtain⟨rfl,rfl,rfl⟩:=e;exact⟨rfl,rfl⟩) h1⟩,h2⟩
    ·obtain⟨h0,hh⟩:=hh;split at hh
     ·rename_i hk;obtain⟨k1,k2,k3,hh⟩:=hh;obtain⟨a,b,c,h1,h2⟩:=sH hh;by_cases e:c=a
      ·rw[if_pos e]at h2;exact⟨_,_,⟨h0,k1,k2,k3,je (fun _ _ _ e'=>by obtain⟨rfl,rfl,rfl⟩:=e';rw[if_pos e];exact⟨rfl,rfl⟩) h1⟩,h2⟩
      ·rw[if_neg e]at h2;exact⟨_,_,⟨h0,k1,k2,k3,je (fun _ _ _ e'=>by obtain⟨rfl,rfl,rfl⟩:=e';rw[if_neg e];exact⟨h2.1,rfl,rfl⟩) h1⟩,h2.2⟩
     ·exact hh.elim
    ·exact hh.elim
   unfold fX.run at hh ⊢;split at hh<;>(try (rename_i h;cases h))<;>first|exact key hh|exact hh.elim
 | copy el =>
   unfold fX.run at hh ⊢;split at hh<;>(try (rename_i h;cases h))<;>(try exact hh.elim)
   ·rename_i x y;obtain⟨ys,h1,h2,h3⟩:=LX hh
    have key:∃ v σ',H_ σ el x ys (Is v σ')/\K v σ':=by
     unfold H_ at h3 ⊢;split at h3
     ·exact⟨_,_,⟨rfl,rfl⟩,h3⟩
     ·exact⟨_,_,⟨h3.1,rfl,rfl⟩,h3.2⟩
     ·obtain⟨l,o,o',_,_,_,h4,h5⟩:=Db h3.2.2;exact⟨_,_,⟨h3.1,h3.2.1,uO (fun s e=>⟨rfl,e⟩) h4⟩,h5⟩
     ·obtain⟨h0,h3⟩:=h3;split at h3
      ·exact⟨_,_,⟨h0,h3.1,h3.2.1,h3.2.2.1,rfl,rfl⟩,h3.2.2.2⟩
      ·exact h3.elim
     ·exact h3.elim
    obtain⟨v,σ',h4,h5⟩:=key;exact⟨v,σ',kq (fun ys' (e:ys'=ys)=>by subst e;exact⟨h2,h4⟩) h1,h5⟩
 | apx el =>
   unfold fX.run at hh ⊢;split at hh<;>(try (rename_i h;cases h))<;>(try exact hh.elim)
   ·unfold OI at hh ⊢;split at hh
    ·obtain⟨h0,hh⟩:=hh;obtain⟨ys,h1,h2,h3⟩:=LX hh;split at h3
     ·rename_i hk;refine⟨_,_,⟨h0,kq (fun ys' (e:ys'=ys)=>⟨e ▸ h2,?_⟩) h1⟩,h3.2.2.2.2⟩;subst e;exact⟨h3.1,h3.2.1,h3.2.2.1,h3.2.2.2.1,rfl,rfl⟩
     ·exact h3.elim
    ·exact aaQ hh
def bA.D(P:Program)(o:bA)(e:Env)(σ : ae)(v:AV)(σ':ae): Prop :=
 match o.cls with
 | .pu=>(∀ s,o.run P e s (Is v s) No)/\σ' = σ
 | .rd=>(∀ τ,o.run P e (σ++ τ) (Is v (σ++ τ)) No)/\σ' = σ
 | .al=>o.run P e σ (Is v σ') No
 | .st=>o.run P e σ (Is v σ') No
 | .ap=>o.run P e σ (Is v σ') No
 | .cw=>o.run P e σ (Is v σ') No
 | .no=>False
def sI{o:bA}{e:Env}{σ : ae}{K Kp:AV->ae->Prop}{v:AV}{σ':ae}(hK:K v σ')(h:o.run P e σ (Is v σ') No): o.run P e σ K Kp :=
 sj (fun v' s h=>by obtain⟨e1,e2⟩:=h;subst e1;subst e2;exact hK) (fun _ _ h=>False.elim h) h
def adV{o:bA}{e:Env}{σ : ae}{K Kp:AV->ae->Prop}(hc:o.cls = .cw)(hh:o.run P e σ K Kp): ∃ v σ',o.run P e σ (Is v σ') No/\K v σ':=by
 cases o<;>simp only[bA.cls]at hc<;>(try (cases hc;done))
 case j7=>split at hc<;>cases hc
 case call=>split at hc<;>cases hc
 case ex o xs=>exact fX.det (by rw[hc];decide) (show o.run P (xs.map (AX.ev e)) σ K Kp from hh)
def Fc{o:bA}{e:Env}{σ : ae}{K Kp:AV->ae->Prop}(hc:o.cls≠ .no): o.run P e σ K Kp↔ ∃ v σ',o.D P e σ v σ'/\K v σ':=by
 unfold bA.D;constructor
 ·intro hh;split
  ·rename_i h;obtain⟨v,h1,h2⟩:=Fb h hh;exact⟨v,σ,⟨h1,rfl⟩,h2⟩
  ·rename_i h;obtain⟨v,h1,h2⟩:=A4 h hh;exact⟨v,σ,⟨h1,rfl⟩,h2⟩
  ·rename_i h;obtain⟨v,τ,h1,h2⟩:=Ig h hh;exact⟨v,_,h1,h2⟩
  ·rename_i h;exact adU h hh
  ·rename_i h;exact aav h hh
  ·rename_i h;exact adV h hh
  ·rename_i h;exact(hc h).elim
 ·rintro⟨v,σ',hD,hK⟩;split at hD
  ·obtain⟨h1,rfl⟩:=hD;exact sI hK (h1 _)
  ·obtain⟨h1,rfl⟩:=hD;have h2:=h1 [];rw[bH]at h2;exact sI hK h2
  ·exact sI hK hD
  ·exact sI hK hD
  ·exact sI hK hD
  ·exact sI hK hD
  ·exact hD.elim
def SH{o:bA}{e e':Env}{σ : ae}{v:AV}{σ':ae}(h:∀ t ∈ o.uses,e t=e' t)(hD:o.D P e σ v σ'): o.D P e' σ v σ':=by
 unfold bA.D at *;split at hD
 ·exact⟨fun s=>by rw[<-sG h];exact hD.1 s,hD.2⟩
 ·exact⟨fun s=>by rw[<-sG h];exact hD.1 s,hD.2⟩
 ·rw[<-sG h];exact hD
 ·rw[<-sG h];exact hD
 ·rw[<-sG h];exact hD
 ·rw[<-sG h];exact hD
 ·exact hD.elim
def acd{o:bA}{e:Env}{σ : ae}{v:AV}{σ':ae}(hc:o.cls = .pu\/o.cls = .rd)(hD:o.D P e σ v σ'): σ' = σ:=by
 unfold bA.D at hD;rcases hc with hc|hc<;>simp only[hc]at hD<;>exact hD.2
def ace{o:bA}{e:Env}{σ : ae}{v:AV}{σ':ae}(hc:o.cls = .pu\/o.cls = .rd)(hD:o.D P e σ v σ')(τ : ae): o.D P e (σ++ τ) v (σ++ τ):=by
 unfold bA.D at *;rcases hc with hc|hc<;>simp only[hc]at hD ⊢
 ·exact⟨hD.1,trivial⟩
 ·exact⟨fun ahD=>by rw[aR];exact hD.1 _,trivial⟩
def acf{o:bA}{e:Env}{σ : ae}{v:AV}{σ':ae}(hc:o.cls = .pu)(hD:o.D P e σ v σ')(s:ae): o.D P e s v s:=by
 unfold bA.D at *;simp only[hc]at hD ⊢;exact⟨hD.1,trivial⟩
def aff{o:bA}{e:Env}{σ : ae}{v:AV}{σ':ae}(hc:o.cls = .al)(hD:o.D P e σ v σ'): ∃ τ,σ' = σ++ τ:=by
 unfold bA.D at hD;simp only[hc]at hD;obtain⟨v',τ,_,h⟩:=Ig hc hD;exact⟨τ,h.2.symm⟩
def bA.qH: bA->Option (Option AX)
 | .load _ _ x=>some (some x)
 | .ov .. | .fh ..=>some none
 | _=>none
def bA.sk: bA->Option AX
 | .store _ x _=>some x
 | .n7 _ (x::_)=>some x
 | .mC k _ _=>some (.t k)
 | .qF k _ _ _ _=>some (.t k)
 | .qG k _ _ _ _=>some (.t k)
 | .app _ _ x _=>some x
 | _=>none
def rA(p q:AV): Prop:= ∀ l,p.obj=some l->q.obj=some l->False
def SI{σ τ : ae}{l:Nat}{o:bE}(h:l < σ.length): σ.set l o++ τ =(σ++ τ).set l o:=by
 rw[List.set_append_left _ _ h]
def LY{σ : ae}{ag:Bool}{n:Nat}{p:AV}{K:AV->Prop}{l:Nat}{o:bE}(h:p.obj≠some l)(hh:iR σ ag n p K): iR (σ.set l o) ag n p K:=by
 unfold iR at *;split at hh
 ·rename_i l' off;have hne:l≠l':=fun e=>h (by rw[e];rfl);rw[bP hne];exact hh
 ·exact hh
 ·rename_i el l' m i off;have hne:l≠l':=fun e=>h (by rw[e];rfl);rw[bP hne];exact hh
 ·exact hh
def adW {o : bA} {e : Env} {σ : ae} {v : AV} {σ' : ae} {l : Nat} {ob mZ : bE} {rx : Option AX} (hr : o.qH = some rx) (hl : σ[l]? = some ob) (Ii : ob.like mZ) (hap : ∀ x, rx = some x -> (x.ev e).obj ≠ some l) (hD : o.D P e σ v σ') :
    o.D P e (σ.set l mZ) v (σ.set l mZ):=by
 have hlt:l < σ.length:=(aQ.1 hl).1;have hc:o.cls = .rd:=by cases o<;>simp[bA.qH]at hr<;>rfl
 unfold bA.D at *;simp only[hc]at hD ⊢;refine⟨fun τ=>?_,trivial⟩;have h:=hD.1 τ;rw[SI hlt];have hl':(σ++ τ)[l]? = some ob:=jv τ hl;generalize σ++ τ = s at *;have Dc:l<s.length:=(aQ.1 hl').1
 have shape:∀ (k:Nat) (T:Option TypeId) (el:El) (xs:List AV),s[k]? = some (.dW T el xs)-> ∃ ys,(s.set l mZ)[k]? = some (.dW T el ys)/\ys.length=xs.length:=fun k T el xs hk=>by
  by_cases vY:l=k
  ·subst vY;rw[hl']at hk;cases hk;obtain⟨ys,rfl,h2⟩:=Ii;exact⟨ys,by simp[Dc],h2⟩
  ·exact⟨xs,by rw[bP vY];exact hk,rfl⟩
 cases o<;>simp only[bA.qH]at hr<;>(try (cases hr;done))<;>simp only[bA.run]at h ⊢
 case load ag n x =>
  cases hr;exact me (fun v' h=>⟨h.1,rfl⟩) (LY (hap x rfl) h)
 case ov el x lo hi =>
  split at h
  ·exact cG (fun _=>cG fun _ h=>⟨h.1,rfl⟩) h
  ·exact⟨h.1,cG (fun _=>cG fun _ h=>⟨h.1,rfl⟩) h.2⟩
  ·refine⟨h.1,?_⟩;have h:=h.2;split at h
   ·rename_i hk;obtain⟨ys,h1,h2⟩:=shape _ _ _ _ hk;simp only[h1,h2];exact⟨h.1,h.2.1,h.2.2.1,cG (fun _=>cG fun _ h=>⟨h.1,rfl⟩) h.2.2.2⟩
   ·exact h.elim
  ·exact h
 case fh el arr x i =>
  split at h
  ·split at h
   ·exact⟨h.1,h.2.1,h.2.2.1,h.2.2.2.1,rfl⟩
   ·refine⟨h.1,h.2.1,h.2.2.1,?_⟩;have h:=h.2.2.2;split at h
    ·rename_i hk;obtain⟨ys,h1,h2⟩:=shape _ _ _ _ hk;simp only[h1,h2];exact⟨h.1,h.2.1,h.2.2.1,rfl⟩
    ·exact h.elim
   ·exact⟨h.1,h.2.1,h.2.2.1,rfl⟩
   ·exact⟨h.1,h.2.1,h.2.2.1,rfl⟩
   ·exact⟨h.1,h.2.1,h.2.2.1,rfl⟩
   ·exact h.elim
  ·exact h.elim
def acg{o:bA}{e:Env}{σ : ae}{v:AV}{σ':ae}(hc:o.cls = .st)(hD:o.D P e σ v σ'): ∃ y l ob mZ,o.sk=some y/\σ[l]? = some ob/\ob.like mZ/\(y.ev e).obj=some l/\σ' = σ.set l mZ:=by
 unfold bA.D at hD;simp only[hc]at hD;cases o<;>simp only[bA.cls]at hc<;>(try (cases hc;done))<;>simp only[bA.run]at hD
 case ex=>exact absurd hc fX.Ih.1
 case j7=>split at hc<;>cases hc
 case call=>split at hc<;>cases hc
 case n7 f args =>
  split at hD
  ·cases args with
   | nil=>exact hD.elim
   | cons x xs =>
     obtain⟨l,ob,mZ,r,h1,h2,h3,_,h5⟩:=hD;exact⟨x,l,ob,mZ,rfl,h2,h3,h1,h5.2.symm⟩
  ·exact hD.elim
 case store n x v =>
  obtain⟨l,ob,mZ,h1,h2,h3,_,h5⟩:=Db hD;exact⟨x,l,ob,mZ,rfl,h1,h2,h3,h5.2.symm⟩
 case mC k T cs =>
  split at hD
  ·rename_i n h1;split at hD
   ·rename_i h2;refine⟨.t k,n,.resv,.jK T cs,rfl,h2,trivial,?_,hD.2.symm⟩;simp only[AX.ev,h1,AV.obj]
   ·exact hD.elim
  ·exact hD.elim
 case qF k T el x y =>
  split at hD
  ·rename_i n h1;split at hD
   ·rename_i h2;split at hD
    ·refine⟨.t k,n,.resv,.dW T el _,rfl,h2,trivial,?_,hD.2.2.2.2.symm⟩;simp only[AX.ev,h1,AV.obj]
    ·exact hD.elim
   ·exact hD.elim
  ·exact hD.elim
 case qG k el z x y =>
  split at hD
  ·rename_i n h1;split at hD
   ·rename_i h2;split at hD
    ·refine⟨.t k,n,.resv,.vec el _,rfl,h2,trivial,?_,hD.2.2.2.2.2.symm⟩;simp only[AX.ev,h1,AV.obj]
    ·exact hD.elim
   ·exact hD.elim
  ·exact hD.elim
def bA.Oi: bA->Option Nat
 | .mC k _ _=>some k
 | .qF k _ _ _ _=>some k
 | .qG k _ _ _ _=>some k
 | _=>none
def aaw {o : bA} {k : Nat} {e : Env} {σ : ae} {v : AV} {σ' : ae} (h : o.Oi = some k) (hD : o.D P e σ v σ') :
    ∃ n ob,e k = .ref n 0/\σ[n]? = some .resv/\ob≠ .resv/\σ' = σ.set n ob/\ ∀ s:ae,s[n]? = some .resv->o.D P e s v (s.set n ob):=by
 cases o<;>simp[bA.Oi]at h
 case mC k' T cs =>
  subst h;have hD:bA.run P (.mC k' T cs) e σ (Is v σ') No:=hD;simp only[bA.run]at hD;split at hD
  ·rename_i n h1;split at hD
   ·rename_i h2;refine⟨n,_,h1,h2,by simp,hD.2.symm,fun s hs=>?_⟩;show bA.run P (.mC k' T cs) e s (Is v _) No;simp only[bA.run,h1,hs];exact⟨hD.1,rfl⟩
   ·exact hD.elim
  ·exact hD.elim
 case qF k' T el x y =>
  subst h;have hD:bA.run P (.qF k' T el x y) e σ (Is v σ') No:=hD;simp only[bA.run]at hD;split at hD
  ·rename_i n h1;split at hD
   ·rename_i h2;split at hD
    ·rename_i ys h3;refine⟨n,_,h1,h2,by simp,hD.2.2.2.2.symm,fun s hs=>?_⟩;show bA.run P (.qF k' T el x y) e s (Is v _) No;simp only[bA.run,h1,hs,h3];exact⟨hD.1,hD.2.1,hD.2.2.1,hD.2.2.2.1,rfl⟩
    ·exact hD.elim
   ·exact hD.elim
  ·exact hD.elim
 case qG k' el z x y =>
  subst h;have hD:bA.run P (.qG k' el z x y) e σ (Is v σ') No:=hD;simp only[bA.run]at hD;split at hD
  ·rename_i n h1;split at hD
   ·rename_i h2;split at hD
    ·rename_i i m h3 h4;refine⟨n,_,h1,h2,by simp,hD.2.2.2.2.2.symm,fun s hs=>?_⟩;show bA.run P (.qG k' el z x y) e s (Is v _) No;simp only[bA.run,h1,hs,h3,h4];exact⟨hD.1,hD.2.1,hD.2.2.1,hD.2.2.2.1,hD.2.2.2.2.1,rfl⟩
    ·exact hD.elim
   ·exact hD.elim
  ·exact hD.elim
def bA.pq: bA->Option AX
 | .load _ _ x=>some x
 | .ov _ x _ _=>some x
 | .fh _ _ x _=>some x
 | _=>none
def Ij{o:bA}{x:AX}(h:o.pq=some x): o.cls = .rd:=by
 cases o<;>simp[bA.pq]at h<;>rfl
def SJ{o:bA}{e:Env}{σ : ae}{v:AV}{σ':ae}{x:AX}{l:Nat}{ob:bE}(hr:o.pq=some x)(hlt:l < σ.length)(hne:(x.ev e).obj≠some l)(hD:o.D P e σ v σ'): o.D P e (σ.set l ob) v (σ.set l ob):=by
 have hc:=Ij hr;unfold bA.D at *;simp only[hc]at hD ⊢;refine⟨fun τ=>?_,trivial⟩;have h:=hD.1 τ;rw[SI hlt];generalize σ++ τ = s at *;cases o<;>simp only[bA.pq]at hr<;>(try (cases hr;done))<;>cases hr<;>simp only[bA.run]at h ⊢
 case load ag n =>
  exact me (fun v' h=>⟨h.1,rfl⟩) (LY hne h)
 case ov el lo hi =>
  split at h
  ·exact cG (fun _=>cG fun _ h=>⟨h.1,rfl⟩) h
  ·exact⟨h.1,cG (fun _=>cG fun _ h=>⟨h.1,rfl⟩) h.2⟩
  ·rename_i bB l' m o n hx;have Yx:l≠l':=fun e=>hne (by rw[hx,e];rfl);refine⟨h.1,?_⟩;have h:=h.2;rw[bP Yx];split at h
   ·rename_i hk;simp only[hk];exact⟨h.1,h.2.1,h.2.2.1,cG (fun _=>cG fun _ h=>⟨h.1,rfl⟩) h.2.2.2⟩
   ·exact h.elim
  ·exact h
 case fh el arr i =>
  split at h
  ·split at h
   ·exact⟨h.1,h.2.1,h.2.2.1,h.2.2.2.1,rfl⟩
   ·rename_i bB l' m o n hx;have Yx:l≠l':=fun e=>hne (by rw[hx,e];rfl);refine⟨h.1,h.2.1,h.2.2.1,?_⟩;have h:=h.2.2.2;rw[bP Yx];split at h
    ·rename_i hk;simp only[hk];exact⟨h.1,h.2.1,h.2.2.1,rfl⟩
    ·exact h.elim
   ·exact⟨h.1,h.2.1,h.2.2.1,rfl⟩
   ·exact⟨h.1,h.2.1,h.2.2.1,rfl⟩
   ·exact⟨h.1,h.2.1,h.2.2.1,rfl⟩
   ·exact h.elim
  ·exact h.elim
def afg{o:bA}{e:Env}{σ : ae}{v:AV}{σ':ae}(hc:o.cls = .ap)(hD:o.D P e σ v σ'): ∃ y,o.sk=some y/\((∃ τ,σ' = σ++ τ)\/ ∃ l ob,l < σ.length/\(y.ev e).obj=some l/\σ' = σ.set l ob):=by
 unfold bA.D at hD;simp only[hc]at hD;cases o<;>simp only[bA.cls]at hc<;>(try (cases hc;done))<;>simp only[bA.run]at hD
 case ex=>exact absurd hc fX.Ih.2
 case j7=>split at hc<;>cases hc
 case call=>split at hc<;>cases hc
 case app T el x y =>
  refine⟨x,rfl,?_⟩
  have key:∀ ys:List AV,(match x.ev e with
   | .ai=>if ys.length=0 then Is v σ' .ai σ else jj ys.length el/\Is v σ' (.own el σ.length ys.length 0 ys.length) (σ++[.dW T el ys])
   | .aG true bB xs=>bB=el/\if ys.length=0 then Is v σ' (.aG true el xs) σ else jj (xs.length+ys.length) el/\Is v σ' (.own el σ.length (xs.length+ys.length) 0 (xs.length+ys.length)) (σ++[.dW T el (xs++ys)])
   | .own bB l m lo n => bB = el /\ match σ[l]? with
     | some (.dW T' dQ xs)=>(T'=none\/T'=T)/\dQ=el/\m=xs.length/\lo=0/\n=xs.length/\jj (xs.length+ys.length) el/\Is v σ' (.own el l (xs.length+ys.length) 0 (xs.length+ys.length)) (σ.set l (.dW T' el (xs++ys)))
     | _=>False
   | _=>False)->(∃ τ,σ' = σ++ τ)\/ ∃ l ob,l < σ.length/\(x.ev e).obj=some l/\σ' = σ.set l ob:=fun ys h=>by
   split at h
   ·split at h
    ·exact .inl ⟨[],by rw[bH];exact h.2.symm⟩
    ·exact .inl ⟨_,h.2.2.symm⟩
   ·have h:=h.2;split at h
    ·exact .inl ⟨[],by rw[bH];exact h.2.symm⟩
    ·exact .inl ⟨_,h.2.2.symm⟩
   ·rename_i bB l m lo n hx;have h:=h.2;split at h
    ·rename_i hk;exact .inr ⟨l,_,(aQ.1 hk).1,by rw[hx];rfl,h.2.2.2.2.2.2.2.symm⟩
    ·exact h.elim
   ·exact h.elim
  unfold uo ja at hD;split at hD
  ·exact key _ hD.2
  ·exact key _ hD.2.2
  ·have hD:=hD.2;split at hD
   ·exact key _ hD.2.2.2
   ·exact hD.elim
  ·exact key _ hD.2.2
  ·obtain⟨u,_,h2⟩:=uq hD.2.2;exact key _ h2.2
  ·exact hD.elim
