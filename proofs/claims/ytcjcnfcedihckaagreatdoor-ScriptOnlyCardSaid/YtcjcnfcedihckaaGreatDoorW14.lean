/- Part. -/
import Derived.Test.YtcjcnfcedihckaaGreatDoorW13
set_option linter.all false
namespace Go.AM
variable {P:Program}
mutual
def AV.dz: AV->Bool
 | .own .. | .ref .. | .eD .. | .mp _ | .qv _ | .rW ..=>false
 | .agg cs=>AV.cA cs
 | .bO cs=>AV.cA cs
 | .aO _ _ xs=>AV.cA xs
 | .dO _ x _=>AV.dz x
 | .fn _ a b=>AV.cA a && AV.cA b
 | .kg _ v=>AV.dz v
 | .undef | .bool _ | .int .. | .str _ | .au | .iM | .qY | .iT | .k_ | .pZ=>true
def AV.cA: List AV->Bool
 | []=>true
 | a::az=>AV.dz a && AV.cA az
end
def o8{l:List AV}: AV.cA l=true↔ ∀ a ∈ l,a.dz=true:=by
 induction l with
 | nil=>simp[AV.cA]
 | cons a l ih=>simp[AV.cA,ih]
def iX{l:List AV}(h:AV.cA l=true)(i:Nat): (l.getD i .undef).dz=true:=by
 rw[aj];by_cases hi:i<l.length
 ·rw[aL hi];exact o8.1 h _ (cQ hi)
 ·rw[List.getElem?_eq_none (Nat.le_of_not_lt hi)];rfl
def iu{α : Type}(f : α->AV)(l:List α)(h:∀ a,(f a).dz=true): AV.cA (l.map f)=true:=by
 rw[o8];intro a ha;obtain⟨x,_,rfl⟩:=cC.1 ha;exact h x
def ED{a:AV}(h:a.dz=true)(c:Nat): (a.cell c).dz=true:=by
 cases a<;>first|exact h|exact iX h c
def VR.dz{g g':aJ}{w w':World}(hi:∀ b,g.fC b->g'.fC b/\w'.heap[b]? = w.heap[b]?){a:AV}{v:Value}(h:VR g w a v): a.dz=true->VR g' w' a v:=by
 induction h with
 | undef v=>exact fun _=> .undef v
 | bool b=>exact fun _=> .bool b
 | int k n=>exact fun _=> .int k n
 | str s=>exact fun _=> .str s
 | agg cs vs hl hs _ ih=>exact fun hp=> .agg cs vs hl hs (fun i h=>ih i h (iX hp i))
 | bO cs vs hl _ ih=>exact fun hp=> .bO cs vs hl (fun i h=>ih i h (iX hp i))
 | au=>exact fun _=> .au
 | iB f el b cap hf=>exact fun _=> .iB f el b cap hf
 | aO f el xs b off cap hb hf hx ft hc _ ih =>
   intro hp;obtain⟨hi',he⟩:=hi b hb;refine .aO f el xs b off cap hi' hf hx ft (fun i c h1 h2=>?_) (fun i c h1 h2=>?_)
   ·rw[mo he];exact hc i c h1 h2
   ·rw[qR he];exact ih i c h1 h2 (ED (iX hp i) c)
 | own el l m lo n v h=>exact fun hp=>by cases hp
 | ref l off v h=>exact fun hp=>by cases hp
 | dO el x off b o hb ft hc _ ih =>
   intro hp;obtain⟨hi',he⟩:=hi b hb;refine .dO el x off b o hi' ft (fun c h2=>?_) (fun c h2=>?_)
   ·rw[mo he];exact hc c h2
   ·rw[qR he];exact ih c h2 (ED (a:=x) hp c)
 | eD el l m i off v h=>exact fun hp=>by cases hp
 | iM=>exact fun _=> .iM
 | qY=>exact fun _=> .qY
 | iT=>exact fun _=> .iT
 | fn f first cap first' cap' hl hl' _ _ ih FE =>
   intro hp;simp only[AV.dz,aq]at hp;exact .fn f first cap first' cap' hl hl' (fun i h=>ih i h (iX hp.1 i)) (fun i h=>FE i h (iX hp.2 i))
 | kg t a v _ ih=>exact fun hp=> .kg t a v (ih hp)
 | k_=>exact fun _=> .k_
 | pZ v h=>exact fun _=> .pZ v h
 | mp l v h=>exact fun hp=>by cases hp
 | qv l v h=>exact fun hp=>by cases hp
 | rW el l off n v h=>exact fun hp=>by cases hp
mutual
def AV.flat: AV->Bool
 | .agg cs=>AV.xD cs
 | .bO cs=>AV.xD cs
 | .undef | .bool _ | .int .. | .str _ | .au | .iM | .qY | .iT | .k_ | .pZ=>true
 | .aO _ _ []=>true
 | .kg _ a=>AV.flat a
 | _=>false
def AV.xD: List AV->Bool
 | []=>true
 | a::az=>AV.flat a && AV.xD az
end
def Gc{l:List AV}(h:AV.xD l=true)(i:Nat): (l.getD i .undef).flat=true:=by
 induction l generalizing i with
 | nil=>simp[AV.flat]
 | cons a l ih =>
   simp only[AV.xD,aq]at h;cases i with
   | zero=>simpa using h.1
   | succ i=>simpa using ih h.2 i
def VR.flat{g g':aJ}{w w':World}{a:AV}{v:Value}(h:VR g w a v): a.flat=true->VR g' w' a v:=by
 induction h with
 | undef v=>exact fun _=> .undef v
 | bool b=>exact fun _=> .bool b
 | int k n=>exact fun _=> .int k n
 | str s=>exact fun _=> .str s
 | agg cs vs hl hs _ ih=>exact fun hp=> .agg cs vs hl hs (fun i h=>ih i h (Gc hp i))
 | bO cs vs hl _ ih=>exact fun hp=> .bO cs vs hl (fun i h=>ih i h (Gc hp i))
 | au=>exact fun _=> .au
 | iB f el b cap hf=>exact fun _=> .iB f el b cap hf
 | aO f el xs b off cap hb hf hx ft hc _ ih =>
   intro hp;cases xs with
   | nil=>exact .iB f el _ cap hf
   | cons x xs=>simp[AV.flat]at hp
 | iM=>exact fun _=> .iM
 | qY=>exact fun _=> .qY
 | iT=>exact fun _=> .iT
 | k_=>exact fun _=> .k_
 | pZ v h=>exact fun _=> .pZ v h
 | kg t a v _ ih=>exact fun hp=> .kg t a v (ih hp)
 | own|ref|dO|eD|fn|mp|qv|rW=>exact fun hp=>by simp[AV.flat]at hp
inductive View (σ : ae):AV->AV->Prop where
 | refl (a:AV) (h:a.dz=true):View σ a a
 | au (el:El):View σ .au (.aO false el [])
 | weak (f:Bool) (el:El) (xs:List AV) (h:AV.cA xs=true):View σ (.aO f el xs) (.aO false el xs)
 | aO (f:Bool) (el:El) (xs ys:List AV) (hl:xs.length=ys.length) (h:∀ i,i<xs.length->View σ (xs.getD i .undef) (ys.getD i .undef)):View σ (.aO f el xs) (.aO false el ys)
 | own (T : Option TypeId) (el : El) (l lo n : Nat) (xs ys : List AV) (hl : σ[l]? = some (.cy T el xs)) (hy : ys.length = n) (hn : lo + n <= xs.length)
    (h:∀ i,i<n->View σ (xs.getD (lo+i) .undef) (ys.getD i .undef)):View σ (.own el l xs.length lo n) (.aO false el ys)
 | agg (cs ds:List AV) (hl:cs.length=ds.length) (h:∀ i,i<cs.length->View σ (cs.getD i .undef) (ds.getD i .undef)):View σ (.agg cs) (.agg ds)
 | bO (cs ds:List AV) (hl:cs.length=ds.length) (h:∀ i,i<cs.length->View σ (cs.getD i .undef) (ds.getD i .undef)):View σ (.bO cs) (.bO ds)
 | cell (l:Nat) (v:AV) (hl : σ[l]? = some (.cells [v])) (hs:v.fits ⟨false,1⟩=true) (hp:v.dz=true):View σ (.ref l 0) (.dO ⟨false,1⟩ v 0)
 | cells (l n:Nat) (cs:List AV) (hl : σ[l]? = some (.cells cs)) (hn:cs.length=n) (hp:AV.cA cs=true):View σ (.ref l 0) (.dO ⟨true,n⟩ (.agg cs) 0)
 | pZ (a:AV) (l:Nat) (o:aY) (hl : σ[l]? = some o) (ho:o.live=true) (h:a.scalar=true):View σ a .pZ
 | yK (l n:Nat) (cs ds:List AV) (hl : σ[l]? = some (.cells cs)) (hn:cs.length=n) (hd:cs.length=ds.length) (h:∀ i,i<cs.length->View σ (cs.getD i .undef) (ds.getD i .undef)):View σ (.ref l 0) (.dO ⟨true,n⟩ (.agg ds) 0)
 | fn (f : Fn) (az bs cs ds : List AV) (hl : az.length = bs.length) (h : ∀ i, i < az.length -> View σ (az.getD i .undef) (bs.getD i .undef))
    (hl':cs.length=ds.length) (h':∀ i,i<cs.length->View σ (cs.getD i .undef) (ds.getD i .undef)):View σ (.fn f az cs) (.fn f bs ds)
def bL(σ : ae)(cs ds:List AV): Prop:=cs.length=ds.length/\ ∀ i,i<cs.length->View σ (cs.getD i .undef) (ds.getD i .undef)
def bL.nil(σ : ae): bL σ [] []:=⟨rfl,fun _ h=>absurd h (cE _)⟩
def bL.cons{σ : ae}{a b:AV}{cs ds:List AV}(h:View σ a b)(hs:bL σ cs ds): bL σ (a::cs) (b::ds) :=
 ⟨by simp [hs.1], fun i hi => by
   cases i with
   | zero=>simpa using h
   | succ i=>simpa using hs.2 i (by simpa using hi)⟩
def bL.refl{σ : ae}{cs:List AV}(h:AV.cA cs=true): bL σ cs cs:=⟨rfl,fun i _=> .refl _ (iX h i)⟩
def View.sC{σ : ae}{cs ds:List AV}(h:bL σ cs ds): View σ (.agg cs) (.agg ds):= .agg cs ds h.1 h.2
def View.aeZ{σ : ae}{cs ds:List AV}(h:bL σ cs ds): View σ (.bO cs) (.bO ds):= .bO cs ds h.1 h.2
def View.aa4{σ : ae}{f:Bool}{el:El}{xs ys:List AV}(h:bL σ xs ys): View σ (.aO f el xs) (.aO false el ys):= .aO f el xs ys h.1 h.2
def View.fnL{σ : ae}{f:Fn}{az bs cs ds:List AV}(h:bL σ az bs)(h':bL σ cs ds): View σ (.fn f az cs) (.fn f bs ds):= .fn f az bs cs ds h.1 h.2 h'.1 h'.2
def View.vec{σ : ae}{T:Option TypeId}{el:El}{l m n:Nat}{xs:List AV}(hl : σ[l]? = some (.cy T el xs))(hm:m=xs.length)(hn:n=xs.length)(h:AV.cA xs=true): View σ (.own el l m 0 n) (.aO false el xs):=by
 subst hm;subst hn;exact .own T el l 0 xs.length xs xs hl rfl (by omega) (fun i _=>by rw[bV];exact .refl _ (iX h i))
def View.aa5{σ : ae}{T:Option TypeId}{el:El}{l m n:Nat}{xs ys:List AV}(hl : σ[l]? = some (.cy T el xs))(hm:m=xs.length)(hn:n=xs.length)(h:bL σ xs ys): View σ (.own el l m 0 n) (.aO false el ys):=by
 subst hm;subst hn;exact .own T el l 0 xs.length xs ys hl h.1.symm (by omega) (fun i hi=>by rw[bV];exact h.2 i hi)
def View.scalar{σ : ae}{a b:AV}(h:View σ a b): b.scalar=a.scalar:=by
 cases h<;>first|rfl|skip
 case pZ=>rename_i h;exact h.symm
def View.fits{σ : ae}{a b:AV}(h:View σ a b)(el:El)(hf:a.fits el=true): b.fits el=true:=by
 cases h with
 | agg cs ds hl h =>
   simp only[AV.fits,aq,aW,beq_iff_eq]at hf ⊢;refine⟨⟨hf.1.1,by rw[<-hl];exact hf.1.2⟩,fun x hx=>?_⟩;obtain⟨i,hi,rfl⟩:=bC hx;have h1:=(h i (by omega)).scalar;rw[aj,aj,aL hi,aL (by omega:i<cs.length)]at h1;rw[bu,bu]at h1;rw[h1];exact hf.2 _ (cQ _)
 | refl=>exact hf
 | au=>exact hf
 | weak=>exact hf
 | aO=>exact hf
 | own=>exact hf
 | bO=>exact hf
 | cell=>exact hf
 | cells=>exact hf
 | yK=>exact hf
 | pZ _ l o hl ho h=>cases a<;>first|exact hf|(simp[AV.scalar]at h;done)
 | fn=>exact hf
def View.mono{σ σ':ae}(hs:∀ (l:Nat) o,σ[l]? = some o->σ'[l]? = some o){a b:AV}(h:View σ a b): View σ' a b:=by
 induction h with
 | refl a h=>exact .refl a h
 | au el=>exact .au el
 | weak f el xs h=>exact .weak f el xs h
 | aO f el xs ys hl _ ih=>exact .aO f el xs ys hl ih
 | own T el l lo n xs ys hl hy hn _ ih=>exact .own T el l lo n xs ys (hs _ _ hl) hy hn ih
 | agg cs ds hl _ ih=>exact .agg cs ds hl ih
 | bO cs ds hl _ ih=>exact .bO cs ds hl ih
 | cell l v hl h hp=>exact .cell l v (hs _ _ hl) h hp
 | cells l n cs hl hn hp=>exact .cells l n cs (hs _ _ hl) hn hp
 | yK l n cs ds hl hn hd h ih=>exact .yK l n cs ds (hs _ _ hl) hn hd ih
 | pZ a l o hl ho h=>exact .pZ a l o (hs _ _ hl) ho h
 | fn f az bs cs ds hl _ hl' _ ih FE=>exact .fn f az bs cs ds hl ih hl' FE
def EE {g g' : aJ} {w : World} {σ : ae} {x y : AV} {el : El} (ih : ∀ u, VR g w x u -> VR g' w y u) (h : View σ x y) (hf : x.fits el = true) (u : Nat -> Value)
    (hu:∀ k,k<el.sz->VR g w (x.cell k) (u k)) (c:Nat) (hc:c<el.sz):VR g' w (y.cell c) (u c):=by
 by_cases hx:∃ cs,x = .agg cs
 ·obtain⟨cs,rfl⟩:=hx;simp only[AV.fits,aq,beq_iff_eq]at hf
  have h1:VR g w (.agg cs) (.agg (Array.ofFn fun i:Fin cs.length=>u i)):=by
   refine .agg cs _ (by simp) hf.2 (fun i hi=>?_);have:=hu i (by omega);simpa[hi,AV.cell]using this
  have h2:=ih _ h1;generalize hq:y=q at h2
  have:∃ ds,q = .agg ds:=by
   subst hq;cases h with
   | refl=>exact⟨_,rfl⟩
   | agg _ ds=>exact⟨ds,rfl⟩
   | pZ _ _ _ _ _ h=>simp[AV.scalar]at h
  obtain⟨ds,rfl⟩:=this;cases h2 with
  | agg _ vs hl hs hh =>
    simp only[Array.size_ofFn]at hl;have:=hh c (by omega);have kj:c<cs.length:=by omega
    simpa[kj,AV.cell]using this
 ·have e1:x.cell c=x:=by cases x<;>first|rfl|exact absurd ⟨_,rfl⟩ hx
  have e2:y.cell c=y:=by
   cases h<;>first|rfl|(exact absurd ⟨_,rfl⟩ hx)|exact e1
  rw[e2];have:=hu c hc;rw[e1]at this;exact ih _ this
def View.vr {g g' : aJ} {w : World} {σ : ae} (hR : Rel g w σ) (hi : ∀ b, g.fC b -> g'.fC b) (ht : ∀ b, lT σ g b -> g'.fC b) {a b : AV} (hv : View σ a b) :
    ∀ {v:Value},VR g w a v->VR g' w b v:=by
 have DP:∀ b,g.fC b->g'.fC b/\w.heap[b]? = w.heap[b]?:=fun b hb=>⟨hi b hb,rfl⟩
 induction hv with
 | refl a h=>exact fun hr=>hr.dz DP h
 | au el=>intro v hr;cases hr;exact .iB false el none 0 (fun h=>by cases h)
 | weak f el xs h =>
   intro v hr;cases hr with
   | iB f el b cap hf=>exact .iB false el b cap (fun h=>by cases h)
   | aO f el xs b off cap hb hf hx ft hc hh =>
     exact .aO false el xs b off cap (hi b hb) (fun h=>by cases h) hx ft hc (fun i c h1 h2=>(hh i c h1 h2).dz DP (ED (iX h i) c))
 | aO f el xs ys hl h ih =>
   intro v hr;cases hr with
   | iB f el b cap hf =>
     have:ys=[]:=List.length_eq_zero_iff.1 hl.symm;subst this;exact .iB false el b cap (fun h=>by cases h)
   | aO f el xs b off cap hb hf hx ft hc hh =>
     rw[hl];refine .aO false el ys b off cap (hi b hb) (fun h=>by cases h) (hl ▸ hx) (fun i h1=>(h i (hl ▸ h1)).fits el (ft i (hl ▸ h1))) (fun i c h1 h2=>hc i c (hl ▸ h1) h2) (fun i c h1 h2=>?_);exact EE (fun u=>ih i (hl ▸ h1)) (h i (hl ▸ h1)) (ft i (hl ▸ h1)) (fun k=>dw w ⟨b,off+(i*el.sz+k),none⟩) (fun k hk=>hh i k (hl ▸ h1) hk) c h2
 | own T el l lo n xs ys hl hy hn h ih =>
   intro v hr;cases hr with
   | own _ _ _ _ _ _ hO =>
     obtain⟨_,_,A,cap,rfl,h4⟩:=hO;obtain⟨lK,oQ,hrow⟩:=hR.ok l _ hl;by_cases Jv:n=0
     ·subst Jv;have:ys=[]:=List.length_eq_zero_iff.1 hy;subst this;exact .iB false el A cap (fun h=>by cases h)
     rcases hrow with⟨hx,_,_⟩|⟨b,vs,hb,hrow,hsz,hle,hc,_⟩
     ·subst hx;simp at hn;omega
     obtain⟨_,h6,h7⟩:=h4 lK.symm;have hlt:lo<g.cap l:=by omega
     have hA:=h7 hlt;rw[hb]at hA;simp only[aS]at hA;subst hA
     have hidx:∀ i c,i<n->c<el.sz->g.off l+(lo+i)*el.sz+c<vs.size:=fun i c h1 h2=>by
      rw[hsz];have:(lo+i)*el.sz+el.sz<=g.cap l*el.sz:=by rw[<-cL];exact aX _ (by omega)
      omega
     have hoff:∀ i c,g.off l+lo*el.sz+(i*el.sz+c)=g.off l+(lo+i)*el.sz+c:=fun i c=>by rw[bz];omega
     subst hy;refine .aO false el ys b (g.off l+lo*el.sz) cap (ht b ⟨l,⟨_,hl,rfl⟩,hb⟩) (fun h=>by cases h) (by omega) (fun i h1=>?_) (fun i c h1 h2=>?_) (fun i c h1 h2=>?_)
     ·exact(h i h1).fits el (oQ (lo+i) (by omega))
     ·rw[hoff,hrow.cell (hidx i c h1 h2)];rfl
     ·rw[hoff]
      have e1:dw w ⟨b,g.off l+(lo+i)*el.sz+c,none⟩=vs.getD (g.off l+(lo+i)*el.sz+c) Go.undef:=by
       simp only[dw,hrow.cell (hidx i c h1 h2),bu]
      rw[e1];exact EE (fun u=>ih i h1) (h i h1) (oQ (lo+i) (by omega)) (fun k=>vs.getD (g.off l+(lo+i)*el.sz+k) Go.undef) (fun k hk=>hc (lo+i) k (by omega) hk) c h2
 | agg cs ds hl h ih =>
   intro v hr;cases hr with
   | agg _ vs hl' hs hh =>
     refine .agg ds vs (by omega) ?_ (fun i h1=>ih i (by omega) (hh i (by omega)));rw[aW]at hs ⊢;intro x hx;obtain⟨i,hi',rfl⟩:=bC hx;have h1:=(h i (by omega)).scalar;rw[aj,aj,aL hi',aL (by omega:i<cs.length)]at h1;rw[bu,bu]at h1;rw[h1];exact hs _ (cQ _)
 | bO cs ds hl h ih =>
   intro v hr;cases hr with
   | bO _ vs hl' hh=>exact .bO ds vs (by omega) (fun i h1=>ih i (by omega) (hh i (by omega)))
 | cell l x hl hs hp =>
   intro v hr;cases hr with
   | ref _ _ _ hO =>
     obtain⟨_,A,rfl,h2⟩:=hO;obtain⟨lK,_,b,vs,hb,hrow,hsz,hc,_⟩:=hR.ok l _ hl;obtain⟨h3,h4⟩:=h2 lK;rw[hb]at h3;cases h3;rw[h4];have h5:(0:Nat)<vs.size:=by simpa using Nat.lt_of_lt_of_eq Nat.zero_lt_one hsz.symm
     have hcell:=hrow.cell h5;have hx:=hc 0 (by simp);simp only[aT]at hx;refine .dO ⟨false,1⟩ x 0 A.block 0 (ht _ ⟨l,⟨_,hl,rfl⟩,hb⟩) hs (fun c h1=>?_) (fun c h1=>?_)
     ·have:c=0:=by have:c<1:=h1;omega
      subst this;rw[bV,hcell];rfl
     ·have:c=0:=by have:c<1:=h1;omega
      subst this;have e1:x.cell 0=x:=by cases x<;>first|rfl|simp[AV.fits]at hs
      simp only[bV,dw,hcell,bu,e1];exact hx.dz DP hp
 | cells l n cs hl hn hp =>
   intro v hr;cases hr with
   | ref _ _ _ hO =>
     obtain⟨_,A,rfl,h2⟩:=hO;obtain⟨lK,hsc,b,vs,hb,hrow,hsz,hc,_⟩:=hR.ok l _ hl;obtain⟨h3,h4⟩:=h2 lK;rw[hb]at h3;cases h3;rw[h4];refine .dO ⟨true,n⟩ (.agg cs) 0 A.block 0 (ht _ ⟨l,⟨_,hl,rfl⟩,hb⟩) (by simp[AV.fits,hn];simpa using hsc) (fun c h1=>?_) (fun c h1=>?_)
     ·have h1:c<n:=h1;rw[bV,hrow.cell (by omega)];rfl
     ·have h1:c<n:=h1;simp only[bV,dw,hrow.cell (show c<vs.size by omega),bu];exact(hc c (by omega)).dz DP (iX hp c)
 | pZ a l o hl ho h=>intro v hr;exact .pZ v (hr.C7 h)
 | yK l n cs ds hl hn hd h ih =>
   intro v hr;cases hr with
   | ref _ _ _ hO =>
     obtain⟨_,A,rfl,h2⟩:=hO;obtain⟨lK,hsc,b,vs,hb,hrow,hsz,hc,_⟩:=hR.ok l _ hl;obtain⟨h3,h4⟩:=h2 lK;rw[hb]at h3;cases h3;rw[h4];refine .dO ⟨true,n⟩ (.agg ds) 0 A.block 0 (ht _ ⟨l,⟨_,hl,rfl⟩,hb⟩) ?_ (fun c h1=>?_) (fun c h1=>?_)
     ·simp only[AV.fits,dZ,aq,beq_iff_eq];refine⟨by omega,aW.2 fun x hx=>?_⟩;obtain⟨i,hi,rfl⟩:=bC hx;have:=(h i (by omega)).scalar;rw[aj,aj,aL hi,aL (by omega:i<cs.length)]at this;rw[bu,bu]at this;rw[this];exact aW.1 hsc _ (cQ _)
     ·have h1:c<n:=h1;rw[bV,hrow.cell (by omega)];rfl
     ·have h1:c<n:=h1;simp only[bV,dw,hrow.cell (show c<vs.size by omega),bu];exact ih c (by omega) (hc c (by omega))
 | fn f az bs cs ds hl h hl' h' ih FE =>
   intro v hr;cases hr with
   | fn _ _ _ first' cap' k1 k2 k3 k4=>exact .fn f bs ds first' cap' (by omega) (by omega) (fun i h1=>ih i (by omega) (k3 i (by omega))) (fun i h1=>FE i (by omega) (k4 i (by omega)))
def aP(P:Program)(f:FuncId)(args:List AV)(r:AV): Prop:= ∀ σ,xn P f args σ r
def jj{g:aJ}{b:Nat}: ¬ lT [] g b:=fun⟨_,⟨_,h,_⟩,_⟩=>by simp at h
def aJ.sD(g:aJ)(lo hi:Nat): aJ:= { g with fC:=fun b=>g.fC b\/(lo<=b/\b<hi) }
def Rel.sD {g : aJ} {w w' : World} {σ : ae} (h : Rel g w σ) (hsz : w.heap.size <= w'.heap.size) (hos : w'.os = w.os) (vC : w'.tape = w.tape) (hout : w'.output = w.output)
    (hf:∀ b,b<w.heap.size->w'.heap[b]? = w.heap[b]?):Rel (g.sD w.heap.size w'.heap.size) w' σ/\fg σ g w σ (g.sD w.heap.size w'.heap.size) w':=by
 have hm:kp g w (g.sD w.heap.size w'.heap.size) w':=⟨fun b hb=>⟨.inl hb,hf b (h.lt b hb)⟩,Nat.le_refl _,fun _ _=>⟨Nat.le_refl _,fun _=>⟨rfl,rfl,rfl⟩⟩⟩;refine⟨⟨h.len,fun b hb=>?_,fun l o ho=>?_,h.inj,fun l b hl hb hi=>?_,h.glob.mono hm.fC⟩,⟨hm,hsz,hos,vC,hout,fun b hb _=>hf b hb,fun b hb hi=>?_,fun b _ ht=>ht⟩⟩
 ·rcases hb with hb|hb
  ·exact dG (h.lt b hb) hsz
  ·exact hb.2
 ·have hl:l<g.n:=by rw[<-h.len];exact(aN.1 ho).1
  by_cases hv:o.live=true
  ·exact(h.ok l o ho).step hm hl rfl (fun b hb=>hf b (h.kq ⟨o,ho,hv⟩ hb))
  ·cases o<;>simp[aY.live]at hv;trivial
 ·rcases hi with hi|hi
  ·exact h.rX l b hl hb hi
  ·have:=h.kq hl hb;omega
 ·rcases hi with hi|hi
  ·exact .inl hi
  ·omega
def aJ.bare(I:Nat->Prop): aJ:=⟨I,0,fun _=>0,fun _=>none,fun _=>0,fun _=>0⟩
def Rel.bare{I:Nat->Prop}{w:World}(h:∀ b,I b->b<w.heap.size)(hg:xk (aJ.bare I) w): Rel (aJ.bare I) w [] :=
 ⟨rfl,h,fun _ _ h=>by simp at h,fun _ _ _ ⟨_,h,_⟩=>by simp at h,fun _ _ ⟨_,h,_⟩=>by simp at h,hg⟩
def aP.Dk{f:FuncId}{args:List AV}{r:AV}(h:cN P f args [] fun o σ'=> ∃ r0,o = .ret r0/\View σ' r0 r)(hp:AV.cA args=true): aP P f args r:=by
 intro σ;refine⟨h.1,fun g w vs hR hlen hv=>?_⟩;refine(h.2 (aJ.bare g.fC) w vs (Rel.bare hR.lt ⟨hR.glob.1,hR.glob.2⟩) hlen (fun i hi=>VR.dz (g:=g) (g':=aJ.bare g.fC) (fun b hb=>⟨hb,rfl⟩) (hv i hi) (iX hp i))).mono ?_;rintro e w' ⟨out,g',σ',kJ,hE,hO,r0,rfl,Ru⟩;have hfr:∀ b,b<w.heap.size->w'.heap[b]? = w.heap[b]?:=fun b hb=>hE.frame b hb jj;obtain⟨h1,h2⟩:=hR.sD hE.size hE.os hE.tape hE.output hfr;refine⟨.ret r,_,σ,h1,h2,?_,rfl,rfl⟩;cases e with
 | returned v =>
   refine Ru.vr kJ (fun b hb=>?_) (fun b hb=>?_) hO
   ·by_cases hlt:b<w.heap.size
    ·rcases hE.yD b hlt hb with h3|h3
     ·exact .inl h3
     ·exact absurd h3 jj
    ·exact .inr ⟨by omega,kJ.lt b hb⟩
   ·by_cases hlt:b<w.heap.size
    ·exact absurd (hE.I2 b hlt hb) jj
    ·exact .inr ⟨by omega,kJ.zl hb⟩
 | panicked c=>exact hO.elim
 | outgrown=>exact hO.elim
def aP.view{f:FuncId}{args args':List AV}{r:AV}{σ : ae}(h:aP P f args' r)(hv:bL σ args args')(hr:r.flat=true): xn P f args σ r:=by
 refine⟨(h []).1,fun g w vs hR hlen hvs=>?_⟩
 let I:Nat->Prop:=fun b=>g.fC b\/lT σ g b
 have hlt:∀ b,I b->b<w.heap.size:=fun b hb=>by
  rcases hb with hb|hb
  ·exact hR.lt b hb
  ·exact hR.zl hb
 refine((h []).2 (aJ.bare I) w vs (Rel.bare hlt ⟨fun b hb=> .inl (hR.glob.1 b hb),hR.glob.2⟩) (hv.1 ▸ hlen) (fun i hi=>?_)).mono ?_
 ·exact(hv.2 i (hv.1 ▸ hi)).vr (g':=aJ.bare I) hR (fun b hb=> .inl hb) (fun b hb=> .inr hb) (hvs i (hv.1 ▸ hi))
 rintro e w' ⟨out,g',σ',kJ,hE,hO,rfl,rfl⟩;have hfr:∀ b,b<w.heap.size->w'.heap[b]? = w.heap[b]?:=fun b hb=>hE.frame b hb jj;obtain⟨h1,h2⟩:=hR.sD hE.size hE.os hE.tape hE.output hfr;refine⟨.ret r,_,σ,h1,h2,?_,rfl,rfl⟩;cases e with
 | returned v=>exact VR.flat (a:=r) hO hr
 | panicked c=>exact hO.elim
 | outgrown=>exact hO.elim
inductive sE (σ : ae):AV->AV->Prop where
 | flat (a:AV) (h:a.flat=true):sE σ a a
 | own (T : Option TypeId) (el : El) (l lo n : Nat) (xs ys : List AV) (hl : σ[l]? = some (.cy T el xs)) (hy : ys.length = n) (hn : lo + n <= xs.length)
    (h:∀ i,i<n->sE σ (xs.getD (lo+i) .undef) (ys.getD i .undef)):sE σ (.own el l xs.length lo n) (.aO false el ys)
 | agg (cs ds:List AV) (hl:cs.length=ds.length) (h:∀ i,i<cs.length->sE σ (cs.getD i .undef) (ds.getD i .undef)):sE σ (.agg cs) (.agg ds)
 | bO (cs ds:List AV) (hl:cs.length=ds.length) (h:∀ i,i<cs.length->sE σ (cs.getD i .undef) (ds.getD i .undef)):sE σ (.bO cs) (.bO ds)
mutual
def AV.EF: ∀(a:AV),a.flat=true->a.dz=true
 | .agg cs,h=>AV.BQ cs h
 | .bO cs,h=>AV.BQ cs h
 | .undef,_ | .bool _,_ | .int ..,_ | .str _,_ | .au,_ | .iM,_ | .qY,_ | .iT,_ | .k_,_ | .pZ,_=>rfl
 | .aO _ _ [],_=>rfl
 | .kg _ a,h=>AV.EF a h
 | .aO _ _ (_::_),h | .own ..,h | .ref ..,h | .dO ..,h | .eD ..,h | .fn ..,h | .mp _,h | .qv _,h | .rW ..,h=>by simp[AV.flat]at h
def AV.BQ: ∀(l:List AV),AV.xD l=true->AV.cA l=true
 | [],_=>rfl
 | a :: l, h => by
   simp only[AV.xD,aq]at h;simp only[AV.cA,aq];exact⟨AV.EF a h.1,AV.BQ l h.2⟩
end
def sE.view{σ : ae}{a b:AV}(h:sE σ a b): View σ a b:=by
 induction h with
 | flat a h=>exact .refl a (AV.EF a h)
 | own T el l lo n xs ys hl hy hn _ ih=>exact .own T el l lo n xs ys hl hy hn ih
 | agg cs ds hl _ ih=>exact .agg cs ds hl ih
 | bO cs ds hl _ ih=>exact .bO cs ds hl ih
def sE.vr{g g':aJ}{w:World}{σ : ae}(hR:Rel g w σ)(ht:∀ b,lT σ g b->g'.fC b){a b:AV}(hv:sE σ a b): ∀ {v:Value},VR g w a v->VR g' w b v:=by
 induction hv with
 | flat a h=>exact fun hr=>hr.flat h
 | own T el l lo n xs ys hl hy hn h ih =>
   intro v hr;cases hr with
   | own _ _ _ _ _ _ hO =>
     obtain⟨_,_,A,cap,rfl,h4⟩:=hO;obtain⟨lK,oQ,hrow⟩:=hR.ok l _ hl;by_cases Jv:n=0
     ·subst Jv;have:ys=[]:=List.length_eq_zero_iff.1 hy;subst this;exact .iB false el A cap (fun h=>by cases h)
     rcases hrow with⟨hx,_,_⟩|⟨b,vs,hb,hrow,hsz,hle,hc,_⟩
     ·subst hx;simp at hn;omega
     obtain⟨_,h6,h7⟩:=h4 lK.symm;have hlt:lo<g.cap l:=by omega
     have hA:=h7 hlt;rw[hb]at hA;simp only[aS]at hA;subst hA
     have hidx:∀ i c,i<n->c<el.sz->g.off l+(lo+i)*el.sz+c<vs.size:=fun i c h1 h2=>by
      rw[hsz];have:(lo+i)*el.sz+el.sz<=g.cap l*el.sz:=by rw[<-cL];exact aX _ (by omega)
      omega
     have hoff:∀ i c,g.off l+lo*el.sz+(i*el.sz+c)=g.off l+(lo+i)*el.sz+c:=fun i c=>by rw[bz];omega
     subst hy;refine .aO false el ys b (g.off l+lo*el.sz) cap (ht b ⟨l,⟨_,hl,rfl⟩,hb⟩) (fun h=>by cases h) (by omega) (fun i h1=>?_) (fun i c h1 h2=>?_) (fun i c h1 h2=>?_)
     ·exact(h i h1).view.fits el (oQ (lo+i) (by omega))
     ·rw[hoff,hrow.cell (hidx i c h1 h2)];rfl
     ·rw[hoff]
      have e1:dw w ⟨b,g.off l+(lo+i)*el.sz+c,none⟩=vs.getD (g.off l+(lo+i)*el.sz+c) Go.undef:=by
       simp only[dw,hrow.cell (hidx i c h1 h2),bu]
      rw[e1];exact EE (fun u=>ih i h1) (h i h1).view (oQ (lo+i) (by omega)) (fun k=>vs.getD (g.off l+(lo+i)*el.sz+k) Go.undef) (fun k hk=>hc (lo+i) k (by omega) hk) c h2
 | agg cs ds hl h ih =>
   intro v hr;cases hr with
   | agg _ vs hl' hs hh =>
     refine .agg ds vs (by omega) ?_ (fun i h1=>ih i (by omega) (hh i (by omega)));rw[aW]at hs ⊢;intro x hx;obtain⟨i,hi',rfl⟩:=bC hx;have h1:=(h i (by omega)).view.scalar;rw[aj,aj,aL hi',aL (by omega:i<cs.length)]at h1;rw[bu,bu]at h1;rw[h1];exact hs _ (cQ _)
 | bO cs ds hl h ih =>
   intro v hr;cases hr with
   | bO _ vs hl' hh=>exact .bO ds vs (by omega) (fun i h1=>ih i (by omega) (hh i (by omega)))
def View.ae0{a b:AV}(h:View [] a b): a.dz=true:=by
 induction h with
 | refl a h=>exact h
 | au=>rfl
 | weak f el xs h=>exact h
 | aO f el xs ys hl h ih =>
   refine o8.2 fun x hx=>?_;obtain⟨i,hi,rfl⟩:=bC hx;have:=ih i hi;rwa[aj,aL hi,bu]at this
 | own T el l lo n xs ys hl=>simp at hl
 | agg cs ds hl h ih =>
   refine o8.2 fun x hx=>?_;obtain⟨i,hi,rfl⟩:=bC hx;have:=ih i hi;rwa[aj,aL hi,bu]at this
 | bO cs ds hl h ih =>
   refine o8.2 fun x hx=>?_;obtain⟨i,hi,rfl⟩:=bC hx;have:=ih i hi;rwa[aj,aL hi,bu]at this
 | cell l v hl=>simp at hl
 | cells l n cs hl=>simp at hl
 | yK l n cs ds hl=>simp at hl
 | pZ a l o hl=>simp at hl
 | fn f az bs cs ds hl h hl' h' ih FE =>
   simp only[AV.dz,aq];refine⟨o8.2 fun x hx=>?_,o8.2 fun x hx=>?_⟩
   ·obtain⟨i,hi,rfl⟩:=bC hx;have:=ih i hi;rwa[aj,aL hi,bu]at this
   ·obtain⟨i,hi,rfl⟩:=bC hx;have:=FE i hi;rwa[aj,aL hi,bu]at this
def View.T8{g:aJ}{w:World}{a b:AV}(h:View [] a b){v:Value}(hv:VR g w a v): VR (aJ.bare g.fC) w a v:=VR.dz (g:=g) (g':=aJ.bare g.fC) (fun _ hb=>⟨hb,rfl⟩) hv h.ae0
def aP.weak{f:FuncId}{args args':List AV}{r:AV}(h:aP P f args' r)(hv:bL [] args args'): aP P f args r:=by
 intro σ;refine⟨(h []).1,fun g w vs hR hlen hvs=>?_⟩;refine((h σ).2 g w vs hR (hv.1 ▸ hlen) (fun i hi=>?_));refine View.vr (σ:=[]) (g:=aJ.bare g.fC) (g':=g) (Rel.bare hR.lt ⟨hR.glob.1,hR.glob.2⟩) (fun b hb=>hb) (fun b hb=>absurd hb jj) (hv.2 i (hv.1 ▸ hi)) ?_;exact View.T8 (hv.2 i (hv.1 ▸ hi)) (hvs i (hv.1 ▸ hi))
end Go.AM
namespace Go.AM
variable {P:Program}
def cY(P:Program)(f:FuncId)(off:Nat)(args:List AV)(cs ds:List AV)(r:AV): Prop :=
 ∀(σ : ae) (k:Nat),σ[k]? = some (.cells cs)->cN P f (.ref k off::args) σ fun o σ'=>o = .ret r/\σ' = σ.set k (.cells ds)
def xE{σ : ae}{k:Nat}{o o':aY}(h : σ[k]? = some o): (σ.set k o')[k]? = some o':=by
 have:=(aN.1 h).1;simp[this]
def cY.T9 {f : FuncId} {off : Nat} {A : Nat -> List AV} {cs ds : List AV} {r : AV} (hl : ∀ k, (A k).length = (A 0).length)
    (h:cN P f (.ref 0 off::A 0) [.cells cs] fun o σ'=> ∃ r0 qu τ,o = .ret r0/\σ' = .cells qu:: τ/\View (.dead:: τ) r0 r/\bL (.dead:: τ) qu ds)
    (hA:∀ (g g0:aJ) (w:World) (k:Nat),(∀ c,g.fC c->g0.fC c/\w.heap[c]? = w.heap[c]?)->(∀ o v,VR g w (.ref k o) v->VR g0 w (.ref 0 o) v)-> ∀ i v,VR g w ((A k).getD i .undef) v->VR g0 w ((A 0).getD i .undef) v) (hc:AV.cA cs=true) :
    ∀(σ : ae) (k:Nat),σ[k]? = some (.cells cs)->cN P f (.ref k off::A k) σ fun o σ'=>o = .ret r/\σ' = σ.set k (.cells ds):=by
 intro σ k hk;refine⟨h.1,fun g w vs hR hlen hv=>?_⟩;have hkn:k<g.n:=by rw[<-hR.len];exact(aN.1 hk).1
 have jw:Live σ k:=⟨_,hk,rfl⟩;obtain⟨BR,hsc,b,us,hb,hrow,yG,hcell,_⟩:=hR.ok k _ hk
 let g0:aJ:=⟨g.fC,1,fun _=>1,fun _=>some b,fun _=>g.cap k,fun _=>g.off k⟩
 have agz:b<w.heap.size:=hrow.lt;have De:¬ g.fC b:=hR.rX k b jw hb;have hpi:∀ c,g.fC c->g0.fC c/\w.heap[c]? = w.heap[c]?:=fun c hc=>⟨hc,rfl⟩
 have hR0:Rel g0 w [.cells cs]:=by
  refine⟨rfl,hR.lt,fun l o ho=>?_,fun l l' c hl hl' _ _=>?_,fun l c hl hc=>?_,⟨hR.glob.1,hR.glob.2⟩⟩
  ·cases l with
   | zero =>
     simp at ho;subst ho;exact⟨rfl,hsc,b,us,rfl,hrow,yG,fun i hi=>(hcell i hi).dz hpi (iX hc i),trivial⟩
   | succ l=>simp at ho
  ·have h1:=hl.lt;have h2:=hl'.lt;simp at h1 h2;omega
  ·have:c=b:=by simpa[g0]using hc.symm
   subst this;exact De
 have WM:∀ c,lT [.cells cs] g0 c↔c=b:=fun c=>by
  constructor
  ·rintro⟨l,_,hc⟩;simpa[g0]using hc.symm
  ·rintro rfl;exact⟨0,⟨_,rfl,rfl⟩,rfl⟩
 have Rv:∀ o v,VR g w (.ref k o) v->VR g0 w (.ref 0 o) v:=fun o v this=>by
  cases this with
  | ref _ _ _ hh =>
    obtain⟨_,A,e,h2⟩:=hh;refine .ref _ _ _ ⟨⟨Nat.zero_lt_one,Nat.le_refl _⟩,A,e,fun _=>?_⟩;have:=h2 BR;rw[hb]at this;exact this
 have lK:∀ i,i<(AV.ref 0 off::A 0).length->VR g0 w ((AV.ref 0 off::A 0).getD i .undef) (vs.getD i Go.undef):=fun i hi=>by
  have:=hv i (by simpa[hl k]using hi);cases i with
  | zero =>
    simp only[aT]at this ⊢;exact Rv _ _ this
  | succ i =>
    simp only[cq]at this ⊢;exact hA g g0 w k hpi Rv i _ this
 refine(h.2 g0 w vs hR0 (by simpa[hl k]using hlen) lK).mono ?_;rintro e w' ⟨out,g',σ',kJ,hE,hO,r0,qu,τ,rfl,rfl,Ru,Ma⟩;have hfr:∀ c,c<w.heap.size->c≠b->w'.heap[c]? = w.heap[c]?:=fun c hc hne=>hE.frame c hc (fun t=>hne ((WM c).1 t));obtain⟨ac4,Wr,b',us',hb',ac5,agA,aa6,_⟩:=kJ.ok 0 _ rfl
 have nF:b'=b:=by
  have:=(hE.mono.ver 0 (by show 0<1;omega)).2 ac4;rw[hb']at this;simpa[g0]using this.1
 subst nF
 let g2:aJ:= { g with fC:=fun c=>g.fC c\/(w.heap.size<=c/\c<w'.heap.size) }
 have ac6:∀ c,g'.fC c->g2.fC c:=fun c hc=>by
  by_cases hlt:c<w.heap.size
  ·rcases hE.yD c hlt hc with h3|h3
   ·exact .inl h3
   ·exfalso;have:=(WM c).1 h3;subst this;exact kJ.rX 0 c ⟨_,rfl,rfl⟩ hb' hc
  ·exact .inr ⟨by omega,kJ.lt c hc⟩
 have hm:kp g w g2 w':=⟨fun c hc=>⟨.inl hc,hfr c (hR.lt c hc) (fun e=>De (e ▸ hc))⟩,Nat.le_refl _,fun _ _=>⟨Nat.le_refl _,fun _=>⟨rfl,rfl,rfl⟩⟩⟩
 have agc:¬ g2.fC b':=fun hh=>by
  rcases hh with hh|hh
  ·exact De hh
  ·omega
 have T_:∀ {x y:AV},View (.dead:: τ) x y-> ∀ {v:Value},VR g' w' x v->VR g2 w' y v:=fun {x y} ae1 {v} YB=>by
  have hRd:Rel g' w' (.dead:: τ):=by
   have hlen:=kJ.len;refine⟨by simpa using hlen,kJ.lt,fun l o ho=>?_,fun l l' c hl hl'=>?_,fun l c hl=>?_,kJ.glob⟩
   ·cases l with
    | zero=>simp at ho;subst ho;trivial
    | succ l=>exact kJ.ok (l+1) o (by simpa using ho)
   ·have lift : ∀ l, Live (.dead :: τ) l -> Live (.cells qu :: τ) l := fun l hl => by
     obtain⟨o,ho,hv⟩:=hl;cases l with
     | zero=>simp at ho;subst ho;cases hv
     | succ l=>exact⟨o,by simpa using ho,hv⟩
    exact kJ.inj l l' c (lift l hl) (lift l' hl')
   ·obtain⟨o,ho,hv⟩:=hl;cases l with
    | zero=>simp at ho;subst ho;cases hv
    | succ l=>exact kJ.rX (l+1) c ⟨o,by simpa using ho,hv⟩
  refine ae1.vr hRd ac6 (fun c hc=>?_) YB;obtain⟨l,⟨o,ho,hv⟩,hc⟩:=hc;cases l with
  | zero=>simp at ho;subst ho;cases hv
  | succ l =>
    have wG:Live (.cells qu:: τ) (l+1):=⟨o,by simpa using ho,hv⟩;refine .inr ⟨?_,kJ.kq wG hc⟩;apply Nat.le_of_not_lt;intro hlt;have:=(WM c).1 (hE.I2 c hlt ⟨_,wG,hc⟩);subst this;have:=kJ.inj (l+1) 0 c wG ⟨_,rfl,rfl⟩ hc hb';omega
 have hds:qu.length=ds.length:=Ma.1
 have hR2:Rel g2 w' (σ.set k (.cells ds)):=by
  refine⟨by simp[g2,hR.len],fun c hc=>?_,fun l o ho=>?_,fun l l' c hl hl'=>?_,fun l c hl hc hi=>?_,hR.glob.mono hm.fC⟩
  ·rcases hc with hc|hc
   ·exact dG (hR.lt c hc) hE.size
   ·exact hc.2
  ·by_cases hlk:l=k
   ·subst hlk;rw[xE hk]at ho;cases ho;refine⟨BR,?_,b',us',hb,ac5,by omega,fun i hi=>T_ (Ma.2 i (by omega)) (aa6 i (by omega)),trivial⟩;rw[aW]at Wr ⊢;intro x hx;obtain⟨i,hi,rfl⟩:=bC hx;have h1:=(Ma.2 i (by omega)).scalar;rw[aj,aj,aL hi,aL (by omega:i<qu.length)]at h1;rw[bu,bu]at h1;rw[h1];exact Wr _ (cQ _)
   ·rw[List.getElem?_set_ne (Ne.symm hlk)]at ho;have hl:l<g.n:=by rw[<-hR.len];exact(aN.1 ho).1
    by_cases hvv:o.live=true
    ·exact(hR.ok l o ho).step hm hl rfl (fun c hc=>hfr c (hR.kq ⟨o,ho,hvv⟩ hc) (fun e=>hlk (hR.inj l k c ⟨o,ho,hvv⟩ jw hc (e ▸ hb))))
    ·cases o<;>simp[aY.live]at hvv;trivial
  ·have lift : ∀ l, Live (σ.set k (.cells ds)) l -> Live σ l := fun l hl => by
    rcases kr hl with⟨rfl,_,_⟩|⟨_,hl⟩
    ·exact jw
    ·exact hl
   exact hR.inj l l' c (lift l hl) (lift l' hl')
  ·have hl' : Live σ l := by
    rcases kr hl with⟨rfl,_,_⟩|⟨_,hl⟩
    ·exact jw
    ·exact hl
   rcases hi with hi|hi
   ·exact hR.rX l c hl' hc hi
   ·have:=hR.kq hl' hc;omega
 refine⟨.ret r,g2,_,hR2,⟨hm,hE.size,hE.os,hE.tape,hE.output,fun c hc ht=>?_,fun c hc hi=>?_,fun c hc ht=>?_⟩,?_,rfl,rfl⟩
 ·exact hfr c hc (fun e=>ht ⟨k,jw,e ▸ hb⟩)
 ·rcases hi with hi|hi
  ·exact .inl hi
  ·omega
 ·obtain⟨l,hl,hc2⟩:=ht;rcases kr hl with⟨rfl,_,_⟩|⟨_,hl⟩
  ·exact⟨_,jw,hc2⟩
  ·exact⟨l,hl,hc2⟩
 ·cases e with
  | returned v=>exact T_ Ru hO
  | panicked c=>exact hO.elim
  | outgrown=>exact hO.elim
def cY.fU {f : FuncId} {off : Nat} {args cs ds : List AV} {r : AV}
    (h:cN P f (.ref 0 off::args) [.cells cs] fun o σ'=> ∃ r0 qu τ,o = .ret r0/\σ' = .cells qu:: τ/\View (.dead:: τ) r0 r/\bL (.dead:: τ) qu ds) (hp:AV.cA args=true) (hc:AV.cA cs=true) :
    cY P f off args cs ds r:=cY.T9 (A:=fun _=>args) (fun _=>rfl) h (fun _ _ _ _ hpi _ i _ hv=>hv.dz hpi (iX hp i)) hc
def Mb(P:Program)(f:FuncId)(cs ds:List AV)(r:AV)(F:FuncId): Prop :=
 ∀(σ : ae) (k:Nat),σ[k]? = some (.cells cs)->cN P f [.ref k 0,.fn (.func F) [.ref k 0] []] σ fun o σ'=>o = .ret r/\σ' = σ.set k (.cells ds)
def Mb.fU {f F : FuncId} {cs ds : List AV} {r : AV}
    (h:cN P f [.ref 0 0,.fn (.func F) [.ref 0 0] []] [.cells cs] fun o σ'=> ∃ r0 qu τ,o = .ret r0/\σ' = .cells qu:: τ/\View (.dead:: τ) r0 r/\bL (.dead:: τ) qu ds) (hc:AV.cA cs=true):Mb P f cs ds r F:=by
 refine cY.T9 (A:=fun k=>[.fn (.func F) [.ref k 0] []]) (fun _=>rfl) h (fun g g0 w k hpi Rv i v hv=>?_) hc;cases i with
 | succ i=>exact hv.dz hpi rfl
 | zero =>
   cases hv with
   | fn f' first cap first' cap' hl hl' h1 h2 =>
     refine .fn _ _ _ _ _ hl hl' (fun i hi=>?_) (fun i hi=>absurd hi (cE _));cases i with
     | zero=>exact Rv _ _ (h1 0 (Nat.zero_lt_one))
     | succ i=>simp at hi
section
variable {n:FuncId} {args:List AV} {σ : ae} {K Kp:AV->ae->Prop} {r:AV}
def Dl(h:aP P n args r)(hk:kD r (.mk:Tg fun r=>K r σ)): pP P n args σ (.mk:Tg (K,Kp)):=PL h hk
def Dm(h:aP P n args r)(hk:kD r (.mk:Tg fun r=>K r σ)): zK P n args σ (.mk:Tg (K,Kp)):=PN h hk
def Zj{args':List AV}(h:aP P n args' r)(hv:bL [] args args')(hk:kD r (.mk:Tg fun r=>K r σ)): pP P n args σ (.mk:Tg (K,Kp)):=PL (aP.weak h hv) hk
def Zk{args':List AV}(h:aP P n args' r)(hv:bL [] args args')(hk:kD r (.mk:Tg fun r=>K r σ)): zK P n args σ (.mk:Tg (K,Kp)):=PN (aP.weak h hv) hk
def pQ{args':List AV}(h:aP P n args' r)(hv:bL σ args args')(hr:r.flat=true)(hk:kD r (.mk:Tg fun r=>K r σ)): pP P n args σ (.mk:Tg (K,Kp)) :=
 (aP.view h hv hr).mono fun o s ⟨h1,h2⟩=>by subst h1;subst h2;exact hk
def Zl{args':List AV}(h:aP P n args' r)(hv:bL σ args args')(hr:r.flat=true)(hk:kD r (.mk:Tg fun r=>K r σ)): zK P n args σ (.mk:Tg (K,Kp)) :=
 ⟨r, fun τ => aP.view h ⟨hv.1, fun i hi => (hv.2 i hi).mono (fun l o hl => by
   rw[aC (aN.1 hl).1];exact hl)⟩ hr,hk⟩
def ae2 {k : Nat} {F : FuncId} {cs ds : List AV} (h : Mb P n cs ds r F) (yJ : σ[k]? = some (.cells cs)) (hk : kD r (.mk : Tg fun r => zG (σ.set k (.cells ds)) (.mk : Tg fun σ => K r σ))) :
    pP P n [.ref k 0,.fn (.func F) [.ref k 0] []] σ (.mk:Tg (K,Kp)) :=
 (h σ k yJ).mono fun o s ⟨h1,h2⟩=>by subst h1;subst h2;exact hk
def HN {k off : Nat} {cs ds : List AV} (h : cY P n off args cs ds r) (yJ : σ[k]? = some (.cells cs)) (hk : kD r (.mk : Tg fun r => zG (σ.set k (.cells ds)) (.mk : Tg fun σ => K r σ))) :
    pP P n (.ref k off::args) σ (.mk:Tg (K,Kp)) :=
 (h σ k yJ).mono fun o s ⟨h1,h2⟩=>by subst h1;subst h2;exact hk
def zN(P:Program)(f:FuncId)(args:List AV)(o:Out): Prop:= ∀ s,cN P f args s fun o' s'=>o'=o/\s'=s
def zN.ret{f:FuncId}{args:List AV}{r:AV}(h:aP P f args r): zN P f args (.ret r):=h
def zN.weak{f:FuncId}{args args':List AV}{o:Out}(h:zN P f args' o)(hv:bL [] args args'): zN P f args o:=by
 intro σ;refine⟨(h []).1,fun g w vs hR hlen hvs=>?_⟩;refine((h σ).2 g w vs hR (hv.1 ▸ hlen) (fun i hi=>?_));refine View.vr (σ:=[]) (g:=aJ.bare g.fC) (g':=g) (Rel.bare hR.lt ⟨hR.glob.1,hR.glob.2⟩) (fun b hb=>hb) (fun b hb=>absurd hb jj) (hv.2 i (hv.1 ▸ hi)) ?_;exact View.T8 (hv.2 i (hv.1 ▸ hi)) (hvs i (hv.1 ▸ hi))
end
def zN.of_nil{f:FuncId}{args:List AV}{v:AV}(h:cN P f args [] fun o _=>o = .panic v)(hp:AV.cA args=true)(hv:v.flat=true): zN P f args (.panic v):=by
 intro σ;refine⟨h.1,fun g w vs hR hlen hvs=>?_⟩;refine(h.2 (aJ.bare g.fC) w vs (Rel.bare hR.lt ⟨hR.glob.1,hR.glob.2⟩) hlen (fun i hi=>VR.dz (g:=g) (g':=aJ.bare g.fC) (fun b hb=>⟨hb,rfl⟩) (hvs i hi) (iX hp i))).mono ?_;rintro e w' ⟨out,g',σ',kJ,hE,hO,rfl⟩;have hfr:∀ b,b<w.heap.size->w'.heap[b]? = w.heap[b]?:=fun b hb=>hE.frame b hb jj;obtain⟨h1,h2⟩:=hR.sD hE.size hE.os hE.tape hE.output hfr;refine⟨.panic v,_,σ,h1,h2,?_,rfl,rfl⟩;cases e with
 | returned v=>exact hO.elim
 | panicked c=>obtain⟨v',hc,hr⟩:=hO;exact⟨v',hc,VR.flat hr hv⟩
 | outgrown=>exact hO.elim
