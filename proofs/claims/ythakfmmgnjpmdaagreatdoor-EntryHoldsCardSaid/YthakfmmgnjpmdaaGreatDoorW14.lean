/- Part. -/
import Derived.Test.YthakfmmgnjpmdaaGreatDoorW13
set_option linter.all false
namespace Go.AM
variable {P:Program}
mutual
def AV.dz: AV->Bool
 | .own .. | .ref .. | .fm .. | .mp _ | .rM _ | .tG ..=>false
 | .agg cs=>AV.cg cs
 | .bH cs=>AV.cg cs
 | .aN _ _ xs=>AV.cg xs
 | .eK _ x _=>AV.dz x
 | .fn _ a b=>AV.cg a && AV.cg b
 | .lq _ v=>AV.dz v
 | .undef | .bool _ | .int .. | .str _ | .aA | .jA | .sC | .kj | .jB | .p_=>true
def AV.cg: List AV->Bool
 | []=>true
 | a::az=>AV.dz a && AV.cg az
end
def qB{l:List AV}: AV.cg l=true↔ ∀ a ∈ l,a.dz=true:=by
 induction l with
 | nil=>simp[AV.cg]
 | cons a l ih=>simp[AV.cg,ih]
def jF{l:List AV}(h:AV.cg l=true)(i:Nat): (l.getD i .undef).dz=true:=by
 rw[ai];by_cases hi:i<l.length
 ·rw[aF hi];exact qB.1 h _ (dD hi)
 ·rw[gw (fF hi)];rfl
def gV{α : Type}(f : α->AV)(l:List α)(h:∀ a,(f a).dz=true): AV.cg (l.map f)=true:=by
 rw[qB];intro a ha;obtain⟨x,_,rfl⟩:=dW.1 ha;exact h x
def G0{a:AV}(h:a.dz=true)(c:Nat): (a.cell c).dz=true:=by
 cases a<;>first|exact h|exact jF h c
def VR.dz{g g':aE}{w w':World}(hi:∀ b,g.fQ b->g'.fQ b/\w'.heap[b]? = w.heap[b]?){a:AV}{v:Value}(h:VR g w a v): a.dz=true->VR g' w' a v:=by
 induction h with
 | undef v=>exact fun _=> .undef v
 | bool b=>exact fun _=> .bool b
 | int k n=>exact fun _=> .int k n
 | str s=>exact fun _=> .str s
 | agg cs vs hl hs _ ih=>exact fun hp=> .agg cs vs hl hs (fun i h=>ih i h (jF hp i))
 | bH cs vs hl _ ih=>exact fun hp=> .bH cs vs hl (fun i h=>ih i h (jF hp i))
 | aA=>exact fun _=> .aA
 | iL f el b cap hf=>exact fun _=> .iL f el b cap hf
 | aN f el xs b off cap hb hf hx ft hc _ ih =>
   intro hp;obtain⟨hi',he⟩:=hi b hb;refine .aN f el xs b off cap hi' hf hx ft (fun i c h1 h2=>?_) (fun i c h1 h2=>?_)
   ·rw[nk he];exact hc i c h1 h2
   ·rw[si he];exact ih i c h1 h2 (G0 (jF hp i) c)
 | own el l m lo n v h=>exact fun hp=>by cases hp
 | ref l off v h=>exact fun hp=>by cases hp
 | eK el x off b o hb ft hc _ ih =>
   intro hp;obtain⟨hi',he⟩:=hi b hb;refine .eK el x off b o hi' ft (fun c h2=>?_) (fun c h2=>?_)
   ·rw[nk he];exact hc c h2
   ·rw[si he];exact ih c h2 (G0 (a:=x) hp c)
 | fm el l m i off v h=>exact fun hp=>by cases hp
 | jA=>exact fun _=> .jA
 | sC=>exact fun _=> .sC
 | kj=>exact fun _=> .kj
 | fn f first cap first' cap' hl hl' _ _ ih sU =>
   intro hp;simp only[AV.dz,aj]at hp;exact .fn f first cap first' cap' hl hl' (fun i h=>ih i h (jF hp.1 i)) (fun i h=>sU i h (jF hp.2 i))
 | lq t a v _ ih=>exact fun hp=> .lq t a v (ih hp)
 | jB=>exact fun _=> .jB
 | p_ v h=>exact fun _=> .p_ v h
 | mp l v h=>exact fun hp=>by cases hp
 | rM l v h=>exact fun hp=>by cases hp
 | tG el l off n v h=>exact fun hp=>by cases hp
mutual
def AV.flat: AV->Bool
 | .agg cs=>AV.y9 cs
 | .bH cs=>AV.y9 cs
 | .undef | .bool _ | .int .. | .str _ | .aA | .jA | .sC | .kj | .jB | .p_=>true
 | .aN _ _ []=>true
 | .lq _ a=>AV.flat a
 | _=>false
def AV.y9: List AV->Bool
 | []=>true
 | a::az=>AV.flat a && AV.y9 az
end
def IB{l:List AV}(h:AV.y9 l=true)(i:Nat): (l.getD i .undef).flat=true:=by
 induction l generalizing i with
 | nil=>simp[AV.flat]
 | cons a l ih =>
   simp only[AV.y9,aj]at h;cases i with
   | zero=>simpa using h.1
   | succ i=>simpa using ih h.2 i
def VR.flat{g g':aE}{w w':World}{a:AV}{v:Value}(h:VR g w a v): a.flat=true->VR g' w' a v:=by
 induction h with
 | undef v=>exact fun _=> .undef v
 | bool b=>exact fun _=> .bool b
 | int k n=>exact fun _=> .int k n
 | str s=>exact fun _=> .str s
 | agg cs vs hl hs _ ih=>exact fun hp=> .agg cs vs hl hs (fun i h=>ih i h (IB hp i))
 | bH cs vs hl _ ih=>exact fun hp=> .bH cs vs hl (fun i h=>ih i h (IB hp i))
 | aA=>exact fun _=> .aA
 | iL f el b cap hf=>exact fun _=> .iL f el b cap hf
 | aN f el xs b off cap hb hf hx ft hc _ ih =>
   intro hp;cases xs with
   | nil=>exact .iL f el _ cap hf
   | cons x xs=>simp[AV.flat]at hp
 | jA=>exact fun _=> .jA
 | sC=>exact fun _=> .sC
 | kj=>exact fun _=> .kj
 | jB=>exact fun _=> .jB
 | p_ v h=>exact fun _=> .p_ v h
 | lq t a v _ ih=>exact fun hp=> .lq t a v (ih hp)
 | own|ref|eK|fm|fn|mp|rM|tG=>exact fun hp=>by simp[AV.flat]at hp
inductive View (σ : ae):AV->AV->Prop where
 | refl (a:AV) (h:a.dz=true):View σ a a
 | aA (el:El):View σ .aA (.aN false el [])
 | weak (f:Bool) (el:El) (xs:List AV) (h:AV.cg xs=true):View σ (.aN f el xs) (.aN false el xs)
 | aN (f:Bool) (el:El) (xs ys:List AV) (hl:xs.length=ys.length) (h:∀ i,i<xs.length->View σ (xs.getD i .undef) (ys.getD i .undef)):View σ (.aN f el xs) (.aN false el ys)
 | own (T : Option TypeId) (el : El) (l lo n : Nat) (xs ys : List AV) (hl : σ[l]? = some (.cj T el xs)) (hy : ys.length = n) (hn : lo + n <= xs.length)
    (h:∀ i,i<n->View σ (xs.getD (lo+i) .undef) (ys.getD i .undef)):View σ (.own el l xs.length lo n) (.aN false el ys)
 | agg (cs ds:List AV) (hl:cs.length=ds.length) (h:∀ i,i<cs.length->View σ (cs.getD i .undef) (ds.getD i .undef)):View σ (.agg cs) (.agg ds)
 | bH (cs ds:List AV) (hl:cs.length=ds.length) (h:∀ i,i<cs.length->View σ (cs.getD i .undef) (ds.getD i .undef)):View σ (.bH cs) (.bH ds)
 | cell (l:Nat) (v:AV) (hl : σ[l]? = some (.cells [v])) (hs:v.fits ⟨false,1⟩=true) (hp:v.dz=true):View σ (.ref l 0) (.eK ⟨false,1⟩ v 0)
 | cells (l n:Nat) (cs:List AV) (hl : σ[l]? = some (.cells cs)) (hn:cs.length=n) (hp:AV.cg cs=true):View σ (.ref l 0) (.eK ⟨true,n⟩ (.agg cs) 0)
 | p_ (a:AV) (l:Nat) (o:bj) (hl : σ[l]? = some o) (ho:o.live=true) (h:a.scalar=true):View σ a .p_
 | yb (l n:Nat) (cs ds:List AV) (hl : σ[l]? = some (.cells cs)) (hn:cs.length=n) (hd:cs.length=ds.length) (h:∀ i,i<cs.length->View σ (cs.getD i .undef) (ds.getD i .undef)):View σ (.ref l 0) (.eK ⟨true,n⟩ (.agg ds) 0)
 | fn (f : Fn) (az bs cs ds : List AV) (hl : az.length = bs.length) (h : ∀ i, i < az.length -> View σ (az.getD i .undef) (bs.getD i .undef))
    (hl':cs.length=ds.length) (h':∀ i,i<cs.length->View σ (cs.getD i .undef) (ds.getD i .undef)):View σ (.fn f az cs) (.fn f bs ds)
def bN(σ : ae)(cs ds:List AV): Prop:=cs.length=ds.length/\ ∀ i,i<cs.length->View σ (cs.getD i .undef) (ds.getD i .undef)
def bN.nil(σ : ae): bN σ [] []:=⟨rfl,fun _ h=>absurd h (cE _)⟩
def bN.cons{σ : ae}{a b:AV}{cs ds:List AV}(h:View σ a b)(hs:bN σ cs ds): bN σ (a::cs) (b::ds) :=
 ⟨by simp [hs.1], fun i hi => by
   cases i with
   | zero=>simpa using h
   | succ i=>simpa using hs.2 i (by simpa using hi)⟩
def bN.refl{σ : ae}{cs:List AV}(h:AV.cg cs=true): bN σ cs cs:=⟨rfl,fun i _=> .refl _ (jF h i)⟩
def View.nV{σ : ae}{cs ds:List AV}(h:bN σ cs ds): View σ (.agg cs) (.agg ds):= .agg cs ds h.1 h.2
def View.aip{σ : ae}{cs ds:List AV}(h:bN σ cs ds): View σ (.bH cs) (.bH ds):= .bH cs ds h.1 h.2
def View.Kc{σ : ae}{f:Bool}{el:El}{xs ys:List AV}(h:bN σ xs ys): View σ (.aN f el xs) (.aN false el ys):= .aN f el xs ys h.1 h.2
def View.fnL{σ : ae}{f:Fn}{az bs cs ds:List AV}(h:bN σ az bs)(h':bN σ cs ds): View σ (.fn f az cs) (.fn f bs ds):= .fn f az bs cs ds h.1 h.2 h'.1 h'.2
def View.vec{σ : ae}{T:Option TypeId}{el:El}{l m n:Nat}{xs:List AV}(hl : σ[l]? = some (.cj T el xs))(hm:m=xs.length)(hn:n=xs.length)(h:AV.cg xs=true): View σ (.own el l m 0 n) (.aN false el xs):=by
 subst hm;subst hn;exact .own T el l 0 xs.length xs xs hl rfl (by omega) (fun i _=>by rw[bF];exact .refl _ (jF h i))
def View.aiq{σ : ae}{T:Option TypeId}{el:El}{l m n:Nat}{xs ys:List AV}(hl : σ[l]? = some (.cj T el xs))(hm:m=xs.length)(hn:n=xs.length)(h:bN σ xs ys): View σ (.own el l m 0 n) (.aN false el ys):=by
 subst hm;subst hn;exact .own T el l 0 xs.length xs ys hl h.1.symm (by omega) (fun i hi=>by rw[bF];exact h.2 i hi)
def View.scalar{σ : ae}{a b:AV}(h:View σ a b): b.scalar=a.scalar:=by
 cases h<;>first|rfl|skip
 case p_=>rename_i h;exact h.symm
def View.fits{σ : ae}{a b:AV}(h:View σ a b)(el:El)(hf:a.fits el=true): b.fits el=true:=by
 cases h with
 | agg cs ds hl h =>
   simp only[AV.fits,aj,aV,beq_iff_eq]at hf ⊢;refine⟨⟨hf.1.1,by rw[<-hl];exact hf.1.2⟩,fun x hx=>?_⟩;obtain⟨i,hi,rfl⟩:=bP hx;have h1:=(h i (by omega)).scalar;rw[ai,ai,aF hi,aF (by omega:i<cs.length)]at h1;rw[bw,bw]at h1;rw[h1];exact hf.2 _ (dD _)
 | refl=>exact hf
 | aA=>exact hf
 | weak=>exact hf
 | aN=>exact hf
 | own=>exact hf
 | bH=>exact hf
 | cell=>exact hf
 | cells=>exact hf
 | yb=>exact hf
 | p_ _ l o hl ho h=>cases a<;>first|exact hf|(simp[AV.scalar]at h;done)
 | fn=>exact hf
def View.mono{σ σ':ae}(hs:∀ (l:Nat) o,σ[l]? = some o->σ'[l]? = some o){a b:AV}(h:View σ a b): View σ' a b:=by
 induction h with
 | refl a h=>exact .refl a h
 | aA el=>exact .aA el
 | weak f el xs h=>exact .weak f el xs h
 | aN f el xs ys hl _ ih=>exact .aN f el xs ys hl ih
 | own T el l lo n xs ys hl hy hn _ ih=>exact .own T el l lo n xs ys (hs _ _ hl) hy hn ih
 | agg cs ds hl _ ih=>exact .agg cs ds hl ih
 | bH cs ds hl _ ih=>exact .bH cs ds hl ih
 | cell l v hl h hp=>exact .cell l v (hs _ _ hl) h hp
 | cells l n cs hl hn hp=>exact .cells l n cs (hs _ _ hl) hn hp
 | yb l n cs ds hl hn hd h ih=>exact .yb l n cs ds (hs _ _ hl) hn hd ih
 | p_ a l o hl ho h=>exact .p_ a l o (hs _ _ hl) ho h
 | fn f az bs cs ds hl _ hl' _ ih sU=>exact .fn f az bs cs ds hl ih hl' sU
def G1 {g g' : aE} {w : World} {σ : ae} {x y : AV} {el : El} (ih : ∀ u, VR g w x u -> VR g' w y u) (h : View σ x y) (hf : x.fits el = true) (u : Nat -> Value)
    (hu:∀ k,k<el.sz->VR g w (x.cell k) (u k)) (c:Nat) (hc:c<el.sz):VR g' w (y.cell c) (u c):=by
 by_cases hx:∃ cs,x = .agg cs
 ·obtain⟨cs,rfl⟩:=hx;simp only[AV.fits,aj,beq_iff_eq]at hf
  have h1:VR g w (.agg cs) (.agg (Array.ofFn fun i:Fin cs.length=>u i)):=by
   refine .agg cs _ (by simp) hf.2 (fun i hi=>?_);have:=hu i (by omega);simpa[hi,AV.cell]using this
  have h2:=ih _ h1;generalize hq:y=q at h2
  have:∃ ds,q = .agg ds:=by
   subst hq;cases h with
   | refl=>exact⟨_,rfl⟩
   | agg _ ds=>exact⟨ds,rfl⟩
   | p_ _ _ _ _ _ h=>simp[AV.scalar]at h
  obtain⟨ds,rfl⟩:=this;cases h2 with
  | agg _ vs hl hs hh =>
    simp only[Array.size_ofFn]at hl;have:=hh c (by omega);have lJ:c<cs.length:=by omega
    simpa[lJ,AV.cell]using this
 ·have e1:x.cell c=x:=by cases x<;>first|rfl|exact absurd ⟨_,rfl⟩ hx
  have e2:y.cell c=y:=by
   cases h<;>first|rfl|(exact absurd ⟨_,rfl⟩ hx)|exact e1
  rw[e2];have:=hu c hc;rw[e1]at this;exact ih _ this
def View.vr {g g' : aE} {w : World} {σ : ae} (hR : Rel g w σ) (hi : ∀ b, g.fQ b -> g'.fQ b) (ht : ∀ b, mL σ g b -> g'.fQ b) {a b : AV} (hv : View σ a b) :
    ∀ {v:Value},VR g w a v->VR g' w b v:=by
 have Dh:∀ b,g.fQ b->g'.fQ b/\w.heap[b]? = w.heap[b]?:=fun b hb=>⟨hi b hb,rfl⟩
 induction hv with
 | refl a h=>exact fun hr=>hr.dz Dh h
 | aA el=>intro v hr;cases hr;exact .iL false el none 0 (fun h=>by cases h)
 | weak f el xs h =>
   intro v hr;cases hr with
   | iL f el b cap hf=>exact .iL false el b cap (fun h=>by cases h)
   | aN f el xs b off cap hb hf hx ft hc hh =>
     exact .aN false el xs b off cap (hi b hb) (fun h=>by cases h) hx ft hc (fun i c h1 h2=>(hh i c h1 h2).dz Dh (G0 (jF h i) c))
 | aN f el xs ys hl h ih =>
   intro v hr;cases hr with
   | iL f el b cap hf =>
     have:ys=[]:=List.length_eq_zero_iff.1 hl.symm;subst this;exact .iL false el b cap (fun h=>by cases h)
   | aN f el xs b off cap hb hf hx ft hc hh =>
     rw[hl];refine .aN false el ys b off cap (hi b hb) (fun h=>by cases h) (hl ▸ hx) (fun i h1=>(h i (hl ▸ h1)).fits el (ft i (hl ▸ h1))) (fun i c h1 h2=>hc i c (hl ▸ h1) h2) (fun i c h1 h2=>?_);exact G1 (fun u=>ih i (hl ▸ h1)) (h i (hl ▸ h1)) (ft i (hl ▸ h1)) (fun k=>dY w ⟨b,off+(i*el.sz+k),none⟩) (fun k hk=>hh i k (hl ▸ h1) hk) c h2
 | own T el l lo n xs ys hl hy hn h ih =>
   intro v hr;cases hr with
   | own _ _ _ _ _ _ hO =>
     obtain⟨_,_,A,cap,rfl,h4⟩:=hO;obtain⟨kH,CA,hrow⟩:=hR.ok l _ hl;by_cases Io:n=0
     ·subst Io;have:ys=[]:=List.length_eq_zero_iff.1 hy;subst this;exact .iL false el A cap (fun h=>by cases h)
     rcases hrow with⟨hx,_,_⟩|⟨b,vs,hb,hrow,hsz,hle,hc,_⟩
     ·subst hx;simp at hn;omega
     obtain⟨_,h6,h7⟩:=h4 kH.symm;have hlt:lo<g.cap l:=by omega
     have hA:=h7 hlt;rw[hb]at hA;simp only[cR]at hA;subst hA
     have hidx:∀ i c,i<n->c<el.sz->g.off l+(lo+i)*el.sz+c<vs.size:=fun i c h1 h2=>by
      rw[hsz];have:(lo+i)*el.sz+el.sz<=g.cap l*el.sz:=by rw[<-dJ];exact aX _ (by omega)
      omega
     have hoff:∀ i c,g.off l+lo*el.sz+(i*el.sz+c)=g.off l+(lo+i)*el.sz+c:=fun i c=>by rw[bC];omega
     subst hy;refine .aN false el ys b (g.off l+lo*el.sz) cap (ht b ⟨l,⟨_,hl,rfl⟩,hb⟩) (fun h=>by cases h) (by omega) (fun i h1=>?_) (fun i c h1 h2=>?_) (fun i c h1 h2=>?_)
     ·exact(h i h1).fits el (CA (lo+i) (by omega))
     ·rw[hoff,hrow.cell (hidx i c h1 h2)];rfl
     ·rw[hoff]
      have e1:dY w ⟨b,g.off l+(lo+i)*el.sz+c,none⟩=vs.getD (g.off l+(lo+i)*el.sz+c) Go.undef:=by
       simp only[dY,hrow.cell (hidx i c h1 h2),bw]
      rw[e1];exact G1 (fun u=>ih i h1) (h i h1) (CA (lo+i) (by omega)) (fun k=>vs.getD (g.off l+(lo+i)*el.sz+k) Go.undef) (fun k hk=>hc (lo+i) k (by omega) hk) c h2
 | agg cs ds hl h ih =>
   intro v hr;cases hr with
   | agg _ vs hl' hs hh =>
     refine .agg ds vs (by omega) ?_ (fun i h1=>ih i (by omega) (hh i (by omega)));rw[aV]at hs ⊢;intro x hx;obtain⟨i,hi',rfl⟩:=bP hx;have h1:=(h i (by omega)).scalar;rw[ai,ai,aF hi',aF (by omega:i<cs.length)]at h1;rw[bw,bw]at h1;rw[h1];exact hs _ (dD _)
 | bH cs ds hl h ih =>
   intro v hr;cases hr with
   | bH _ vs hl' hh=>exact .bH ds vs (by omega) (fun i h1=>ih i (by omega) (hh i (by omega)))
 | cell l x hl hs hp =>
   intro v hr;cases hr with
   | ref _ _ _ hO =>
     obtain⟨_,A,rfl,h2⟩:=hO;obtain⟨kH,_,b,vs,hb,hrow,hsz,hc,_⟩:=hR.ok l _ hl;obtain⟨h3,h4⟩:=h2 kH;rw[hb]at h3;cases h3;rw[h4];have h5:(0:Nat)<vs.size:=by simpa using Nat.lt_of_lt_of_eq Nat.zero_lt_one hsz.symm
     have hcell:=hrow.cell h5;have hx:=hc 0 (by simp);simp only[bD]at hx;refine .eK ⟨false,1⟩ x 0 A.block 0 (ht _ ⟨l,⟨_,hl,rfl⟩,hb⟩) hs (fun c h1=>?_) (fun c h1=>?_)
     ·have:c=0:=by have:c<1:=h1;omega
      subst this;rw[bF,hcell];rfl
     ·have:c=0:=by have:c<1:=h1;omega
      subst this;have e1:x.cell 0=x:=by cases x<;>first|rfl|simp[AV.fits]at hs
      simp only[bF,dY,hcell,bw,e1];exact hx.dz Dh hp
 | cells l n cs hl hn hp =>
   intro v hr;cases hr with
   | ref _ _ _ hO =>
     obtain⟨_,A,rfl,h2⟩:=hO;obtain⟨kH,hsc,b,vs,hb,hrow,hsz,hc,_⟩:=hR.ok l _ hl;obtain⟨h3,h4⟩:=h2 kH;rw[hb]at h3;cases h3;rw[h4];refine .eK ⟨true,n⟩ (.agg cs) 0 A.block 0 (ht _ ⟨l,⟨_,hl,rfl⟩,hb⟩) (by simp[AV.fits,hn];simpa using hsc) (fun c h1=>?_) (fun c h1=>?_)
     ·have h1:c<n:=h1;rw[bF,hrow.cell (by omega)];rfl
     ·have h1:c<n:=h1;simp only[bF,dY,hrow.cell (show c<vs.size by omega),bw];exact(hc c (by omega)).dz Dh (jF hp c)
 | p_ a l o hl ho h=>intro v hr;exact .p_ v (hr.E_ h)
 | yb l n cs ds hl hn hd h ih =>
   intro v hr;cases hr with
   | ref _ _ _ hO =>
     obtain⟨_,A,rfl,h2⟩:=hO;obtain⟨kH,hsc,b,vs,hb,hrow,hsz,hc,_⟩:=hR.ok l _ hl;obtain⟨h3,h4⟩:=h2 kH;rw[hb]at h3;cases h3;rw[h4];refine .eK ⟨true,n⟩ (.agg ds) 0 A.block 0 (ht _ ⟨l,⟨_,hl,rfl⟩,hb⟩) ?_ (fun c h1=>?_) (fun c h1=>?_)
     ·simp only[AV.fits,fH,aj,beq_iff_eq];refine⟨by omega,aV.2 fun x hx=>?_⟩;obtain⟨i,hi,rfl⟩:=bP hx;have:=(h i (by omega)).scalar;rw[ai,ai,aF hi,aF (by omega:i<cs.length)]at this;rw[bw,bw]at this;rw[this];exact aV.1 hsc _ (dD _)
     ·have h1:c<n:=h1;rw[bF,hrow.cell (by omega)];rfl
     ·have h1:c<n:=h1;simp only[bF,dY,hrow.cell (show c<vs.size by omega),bw];exact ih c (by omega) (hc c (by omega))
 | fn f az bs cs ds hl h hl' h' ih sU =>
   intro v hr;cases hr with
   | fn _ _ _ first' cap' k1 k2 k3 k4=>exact .fn f bs ds first' cap' (by omega) (by omega) (fun i h1=>ih i (by omega) (k3 i (by omega))) (fun i h1=>sU i (by omega) (k4 i (by omega)))
def aM(P:Program)(f:FuncId)(args:List AV)(r:AV): Prop:= ∀ σ,yX P f args σ r
def iK{g:aE}{b:Nat}: ¬ mL [] g b:=fun⟨_,⟨_,h,_⟩,_⟩=>by simp at h
def aE.vV(g:aE)(lo hi:Nat): aE:= { g with fQ:=fun b=>g.fQ b\/(lo<=b/\b<hi) }
def Rel.vV {g : aE} {w w' : World} {σ : ae} (h : Rel g w σ) (hsz : w.heap.size <= w'.heap.size) (hos : w'.os = w.os) (wX : w'.tape = w.tape) (hout : w'.output = w.output)
    (hf:∀ b,b<w.heap.size->w'.heap[b]? = w.heap[b]?):Rel (g.vV w.heap.size w'.heap.size) w' σ/\e7 σ g w σ (g.vV w.heap.size w'.heap.size) w':=by
 have hm:kI g w (g.vV w.heap.size w'.heap.size) w':=⟨fun b hb=>⟨.inl hb,hf b (h.lt b hb)⟩,Nat.le_refl _,fun _ _=>⟨Nat.le_refl _,fun _=>⟨rfl,rfl,rfl⟩⟩⟩;refine⟨⟨h.len,fun b hb=>?_,fun l o ho=>?_,h.inj,fun l b hl hb hi=>?_,h.glob.mono hm.fQ⟩,⟨hm,hsz,hos,wX,hout,fun b hb _=>hf b hb,fun b hb hi=>?_,fun b _ ht=>ht⟩⟩
 ·rcases hb with hb|hb
  ·exact dK (h.lt b hb) hsz
  ·exact hb.2
 ·have hl:l<g.n:=by rw[<-h.len];exact(aK.1 ho).1
  by_cases hv:o.live=true
  ·exact(h.ok l o ho).step hm hl rfl (fun b hb=>hf b (h.jV ⟨o,ho,hv⟩ hb))
  ·cases o<;>simp[bj.live]at hv;trivial
 ·rcases hi with hi|hi
  ·exact h.sV l b hl hb hi
  ·have:=h.jV hl hb;omega
 ·rcases hi with hi|hi
  ·exact .inl hi
  ·omega
def aE.bare(I:Nat->Prop): aE:=⟨I,0,fun _=>0,fun _=>none,fun _=>0,fun _=>0⟩
def Rel.bare{I:Nat->Prop}{w:World}(h:∀ b,I b->b<w.heap.size)(hg:wW (aE.bare I) w): Rel (aE.bare I) w [] :=
 ⟨rfl,h,fun _ _ h=>by simp at h,fun _ _ _ ⟨_,h,_⟩=>by simp at h,fun _ _ ⟨_,h,_⟩=>by simp at h,hg⟩
def aM.UL{f:FuncId}{args:List AV}{r:AV}(h:dZ P f args [] fun o σ'=> ∃ r0,o = .ret r0/\View σ' r0 r)(hp:AV.cg args=true): aM P f args r:=by
 intro σ;refine⟨h.1,fun g w vs hR hlen hv=>?_⟩;refine(h.2 (aE.bare g.fQ) w vs (Rel.bare hR.lt ⟨hR.glob.1,hR.glob.2⟩) hlen (fun i hi=>VR.dz (g:=g) (g':=aE.bare g.fQ) (fun b hb=>⟨hb,rfl⟩) (hv i hi) (jF hp i))).mono ?_;rintro e w' ⟨out,g',σ',kY,hE,hO,r0,rfl,IC⟩;have hfr:∀ b,b<w.heap.size->w'.heap[b]? = w.heap[b]?:=fun b hb=>hE.frame b hb iK;obtain⟨h1,h2⟩:=hR.vV hE.size hE.os hE.tape hE.output hfr;refine⟨.ret r,_,σ,h1,h2,?_,rfl,rfl⟩;cases e with
 | returned v =>
   refine IC.vr kY (fun b hb=>?_) (fun b hb=>?_) hO
   ·by_cases hlt:b<w.heap.size
    ·rcases hE.xR b hlt hb with h3|h3
     ·exact .inl h3
     ·exact absurd h3 iK
    ·exact .inr ⟨by omega,kY.lt b hb⟩
   ·by_cases hlt:b<w.heap.size
    ·exact absurd (hE.K_ b hlt hb) iK
    ·exact .inr ⟨by omega,kY.Bj hb⟩
 | panicked c=>exact hO.elim
 | outgrown=>exact hO.elim
def aM.view{f:FuncId}{args args':List AV}{r:AV}{σ : ae}(h:aM P f args' r)(hv:bN σ args args')(hr:r.flat=true): yX P f args σ r:=by
 refine⟨(h []).1,fun g w vs hR hlen hvs=>?_⟩
 let I:Nat->Prop:=fun b=>g.fQ b\/mL σ g b
 have hlt:∀ b,I b->b<w.heap.size:=fun b hb=>by
  rcases hb with hb|hb
  ·exact hR.lt b hb
  ·exact hR.Bj hb
 refine((h []).2 (aE.bare I) w vs (Rel.bare hlt ⟨fun b hb=> .inl (hR.glob.1 b hb),hR.glob.2⟩) (hv.1 ▸ hlen) (fun i hi=>?_)).mono ?_
 ·exact(hv.2 i (hv.1 ▸ hi)).vr (g':=aE.bare I) hR (fun b hb=> .inl hb) (fun b hb=> .inr hb) (hvs i (hv.1 ▸ hi))
 rintro e w' ⟨out,g',σ',kY,hE,hO,rfl,rfl⟩;have hfr:∀ b,b<w.heap.size->w'.heap[b]? = w.heap[b]?:=fun b hb=>hE.frame b hb iK;obtain⟨h1,h2⟩:=hR.vV hE.size hE.os hE.tape hE.output hfr;refine⟨.ret r,_,σ,h1,h2,?_,rfl,rfl⟩;cases e with
 | returned v=>exact VR.flat (a:=r) hO hr
 | panicked c=>exact hO.elim
 | outgrown=>exact hO.elim
inductive tS (σ : ae):AV->AV->Prop where
 | flat (a:AV) (h:a.flat=true):tS σ a a
 | own (T : Option TypeId) (el : El) (l lo n : Nat) (xs ys : List AV) (hl : σ[l]? = some (.cj T el xs)) (hy : ys.length = n) (hn : lo + n <= xs.length)
    (h:∀ i,i<n->tS σ (xs.getD (lo+i) .undef) (ys.getD i .undef)):tS σ (.own el l xs.length lo n) (.aN false el ys)
 | agg (cs ds:List AV) (hl:cs.length=ds.length) (h:∀ i,i<cs.length->tS σ (cs.getD i .undef) (ds.getD i .undef)):tS σ (.agg cs) (.agg ds)
 | bH (cs ds:List AV) (hl:cs.length=ds.length) (h:∀ i,i<cs.length->tS σ (cs.getD i .undef) (ds.getD i .undef)):tS σ (.bH cs) (.bH ds)
mutual
def AV.G2: ∀(a:AV),a.flat=true->a.dz=true
 | .agg cs,h=>AV.DE cs h
 | .bH cs,h=>AV.DE cs h
 | .undef,_ | .bool _,_ | .int ..,_ | .str _,_ | .aA,_ | .jA,_ | .sC,_ | .kj,_ | .jB,_ | .p_,_=>rfl
 | .aN _ _ [],_=>rfl
 | .lq _ a,h=>AV.G2 a h
 | .aN _ _ (_::_),h | .own ..,h | .ref ..,h | .eK ..,h | .fm ..,h | .fn ..,h | .mp _,h | .rM _,h | .tG ..,h=>by simp[AV.flat]at h
def AV.DE: ∀(l:List AV),AV.y9 l=true->AV.cg l=true
 | [],_=>rfl
 | a :: l, h => by
   simp only[AV.y9,aj]at h;simp only[AV.cg,aj];exact⟨AV.G2 a h.1,AV.DE l h.2⟩
end
def tS.view{σ : ae}{a b:AV}(h:tS σ a b): View σ a b:=by
 induction h with
 | flat a h=>exact .refl a (AV.G2 a h)
 | own T el l lo n xs ys hl hy hn _ ih=>exact .own T el l lo n xs ys hl hy hn ih
 | agg cs ds hl _ ih=>exact .agg cs ds hl ih
 | bH cs ds hl _ ih=>exact .bH cs ds hl ih
def tS.vr{g g':aE}{w:World}{σ : ae}(hR:Rel g w σ)(ht:∀ b,mL σ g b->g'.fQ b){a b:AV}(hv:tS σ a b): ∀ {v:Value},VR g w a v->VR g' w b v:=by
 induction hv with
 | flat a h=>exact fun hr=>hr.flat h
 | own T el l lo n xs ys hl hy hn h ih =>
   intro v hr;cases hr with
   | own _ _ _ _ _ _ hO =>
     obtain⟨_,_,A,cap,rfl,h4⟩:=hO;obtain⟨kH,CA,hrow⟩:=hR.ok l _ hl;by_cases Io:n=0
     ·subst Io;have:ys=[]:=List.length_eq_zero_iff.1 hy;subst this;exact .iL false el A cap (fun h=>by cases h)
     rcases hrow with⟨hx,_,_⟩|⟨b,vs,hb,hrow,hsz,hle,hc,_⟩
     ·subst hx;simp at hn;omega
     obtain⟨_,h6,h7⟩:=h4 kH.symm;have hlt:lo<g.cap l:=by omega
     have hA:=h7 hlt;rw[hb]at hA;simp only[cR]at hA;subst hA
     have hidx:∀ i c,i<n->c<el.sz->g.off l+(lo+i)*el.sz+c<vs.size:=fun i c h1 h2=>by
      rw[hsz];have:(lo+i)*el.sz+el.sz<=g.cap l*el.sz:=by rw[<-dJ];exact aX _ (by omega)
      omega
     have hoff:∀ i c,g.off l+lo*el.sz+(i*el.sz+c)=g.off l+(lo+i)*el.sz+c:=fun i c=>by rw[bC];omega
     subst hy;refine .aN false el ys b (g.off l+lo*el.sz) cap (ht b ⟨l,⟨_,hl,rfl⟩,hb⟩) (fun h=>by cases h) (by omega) (fun i h1=>?_) (fun i c h1 h2=>?_) (fun i c h1 h2=>?_)
     ·exact(h i h1).view.fits el (CA (lo+i) (by omega))
     ·rw[hoff,hrow.cell (hidx i c h1 h2)];rfl
     ·rw[hoff]
      have e1:dY w ⟨b,g.off l+(lo+i)*el.sz+c,none⟩=vs.getD (g.off l+(lo+i)*el.sz+c) Go.undef:=by
       simp only[dY,hrow.cell (hidx i c h1 h2),bw]
      rw[e1];exact G1 (fun u=>ih i h1) (h i h1).view (CA (lo+i) (by omega)) (fun k=>vs.getD (g.off l+(lo+i)*el.sz+k) Go.undef) (fun k hk=>hc (lo+i) k (by omega) hk) c h2
 | agg cs ds hl h ih =>
   intro v hr;cases hr with
   | agg _ vs hl' hs hh =>
     refine .agg ds vs (by omega) ?_ (fun i h1=>ih i (by omega) (hh i (by omega)));rw[aV]at hs ⊢;intro x hx;obtain⟨i,hi',rfl⟩:=bP hx;have h1:=(h i (by omega)).view.scalar;rw[ai,ai,aF hi',aF (by omega:i<cs.length)]at h1;rw[bw,bw]at h1;rw[h1];exact hs _ (dD _)
 | bH cs ds hl h ih =>
   intro v hr;cases hr with
   | bH _ vs hl' hh=>exact .bH ds vs (by omega) (fun i h1=>ih i (by omega) (hh i (by omega)))
def View.air{a b:AV}(h:View [] a b): a.dz=true:=by
 induction h with
 | refl a h=>exact h
 | aA=>rfl
 | weak f el xs h=>exact h
 | aN f el xs ys hl h ih =>
   refine qB.2 fun x hx=>?_;obtain⟨i,hi,rfl⟩:=bP hx;have:=ih i hi;rwa[ai,aF hi,bw]at this
 | own T el l lo n xs ys hl=>simp at hl
 | agg cs ds hl h ih =>
   refine qB.2 fun x hx=>?_;obtain⟨i,hi,rfl⟩:=bP hx;have:=ih i hi;rwa[ai,aF hi,bw]at this
 | bH cs ds hl h ih =>
   refine qB.2 fun x hx=>?_;obtain⟨i,hi,rfl⟩:=bP hx;have:=ih i hi;rwa[ai,aF hi,bw]at this
 | cell l v hl=>simp at hl
 | cells l n cs hl=>simp at hl
 | yb l n cs ds hl=>simp at hl
 | p_ a l o hl=>simp at hl
 | fn f az bs cs ds hl h hl' h' ih sU =>
   simp only[AV.dz,aj];refine⟨qB.2 fun x hx=>?_,qB.2 fun x hx=>?_⟩
   ·obtain⟨i,hi,rfl⟩:=bP hx;have:=ih i hi;rwa[ai,aF hi,bw]at this
   ·obtain⟨i,hi,rfl⟩:=bP hx;have:=sU i hi;rwa[ai,aF hi,bw]at this
def View.Xq{g:aE}{w:World}{a b:AV}(h:View [] a b){v:Value}(hv:VR g w a v): VR (aE.bare g.fQ) w a v:=VR.dz (g:=g) (g':=aE.bare g.fQ) (fun _ hb=>⟨hb,rfl⟩) hv h.air
def aM.weak{f:FuncId}{args args':List AV}{r:AV}(h:aM P f args' r)(hv:bN [] args args'): aM P f args r:=by
 intro σ;refine⟨(h []).1,fun g w vs hR hlen hvs=>?_⟩;refine((h σ).2 g w vs hR (hv.1 ▸ hlen) (fun i hi=>?_));refine View.vr (σ:=[]) (g:=aE.bare g.fQ) (g':=g) (Rel.bare hR.lt ⟨hR.glob.1,hR.glob.2⟩) (fun b hb=>hb) (fun b hb=>absurd hb iK) (hv.2 i (hv.1 ▸ hi)) ?_;exact View.Xq (hv.2 i (hv.1 ▸ hi)) (hvs i (hv.1 ▸ hi))
end Go.AM
namespace Go.AM
variable {P:Program}
def dh(P:Program)(f:FuncId)(off:Nat)(args:List AV)(cs ds:List AV)(r:AV): Prop :=
 ∀(σ : ae) (k:Nat),σ[k]? = some (.cells cs)->dZ P f (.ref k off::args) σ fun o σ'=>o = .ret r/\σ' = σ.set k (.cells ds)
def tT{σ : ae}{k:Nat}{o o':bj}(h : σ[k]? = some o): (σ.set k o')[k]? = some o':=by
 have:=(aK.1 h).1;simp[this]
def dh.Xr {f : FuncId} {off : Nat} {A : Nat -> List AV} {cs ds : List AV} {r : AV} (hl : ∀ k, (A k).length = (A 0).length)
    (h:dZ P f (.ref 0 off::A 0) [.cells cs] fun o σ'=> ∃ r0 sR τ,o = .ret r0/\σ' = .cells sR:: τ/\View (.dead:: τ) r0 r/\bN (.dead:: τ) sR ds)
    (hA:∀ (g g0:aE) (w:World) (k:Nat),(∀ c,g.fQ c->g0.fQ c/\w.heap[c]? = w.heap[c]?)->(∀ o v,VR g w (.ref k o) v->VR g0 w (.ref 0 o) v)-> ∀ i v,VR g w ((A k).getD i .undef) v->VR g0 w ((A 0).getD i .undef) v) (hc:AV.cg cs=true) :
    ∀(σ : ae) (k:Nat),σ[k]? = some (.cells cs)->dZ P f (.ref k off::A k) σ fun o σ'=>o = .ret r/\σ' = σ.set k (.cells ds):=by
 intro σ k hk;refine⟨h.1,fun g w vs hR hlen hv=>?_⟩;have hkn:k<g.n:=by rw[<-hR.len];exact(aK.1 hk).1
 have j4:Live σ k:=⟨_,hk,rfl⟩;obtain⟨aeD,hsc,b,us,hb,hrow,Ag,hcell,_⟩:=hR.ok k _ hk
 let g0:aE:=⟨g.fQ,1,fun _=>1,fun _=>some b,fun _=>g.cap k,fun _=>g.off k⟩
 have akb:b<w.heap.size:=hrow.lt;have Fh:¬ g.fQ b:=hR.sV k b j4 hb;have hpi:∀ c,g.fQ c->g0.fQ c/\w.heap[c]? = w.heap[c]?:=fun c hc=>⟨hc,rfl⟩
 have hR0:Rel g0 w [.cells cs]:=by
  refine⟨rfl,hR.lt,fun l o ho=>?_,fun l l' c hl hl' _ _=>?_,fun l c hl hc=>?_,⟨hR.glob.1,hR.glob.2⟩⟩
  ·cases l with
   | zero =>
     simp at ho;subst ho;exact⟨rfl,hsc,b,us,rfl,hrow,Ag,fun i hi=>(hcell i hi).dz hpi (jF hc i),trivial⟩
   | succ l=>simp at ho
  ·have h1:=hl.lt;have h2:=hl'.lt;simp at h1 h2;omega
  ·have:c=b:=by simpa[g0]using hc.symm
   subst this;exact Fh
 have Z0:∀ c,mL [.cells cs] g0 c↔c=b:=fun c=>by
  constructor
  ·rintro⟨l,_,hc⟩;simpa[g0]using hc.symm
  ·rintro rfl;exact⟨0,⟨_,rfl,rfl⟩,rfl⟩
 have UM:∀ o v,VR g w (.ref k o) v->VR g0 w (.ref 0 o) v:=fun o v this=>by
  cases this with
  | ref _ _ _ hh =>
    obtain⟨_,A,e,h2⟩:=hh;refine .ref _ _ _ ⟨⟨Nat.zero_lt_one,Nat.le_refl _⟩,A,e,fun _=>?_⟩;have:=h2 aeD;rw[hb]at this;exact this
 have kH:∀ i,i<(AV.ref 0 off::A 0).length->VR g0 w ((AV.ref 0 off::A 0).getD i .undef) (vs.getD i Go.undef):=fun i hi=>by
  have:=hv i (by simpa[hl k]using hi);cases i with
  | zero =>
    simp only[bD]at this ⊢;exact UM _ _ this
  | succ i =>
    simp only[fZ]at this ⊢;exact hA g g0 w k hpi UM i _ this
 refine(h.2 g0 w vs hR0 (by simpa[hl k]using hlen) kH).mono ?_;rintro e w' ⟨out,g',σ',kY,hE,hO,r0,sR,τ,rfl,rfl,IC,OS⟩;have hfr:∀ c,c<w.heap.size->c≠b->w'.heap[c]? = w.heap[c]?:=fun c hc hne=>hE.frame c hc (fun t=>hne ((Z0 c).1 t));obtain⟨ags,ZD,b',us',hb',agt,akc,aeE,_⟩:=kY.ok 0 _ rfl
 have o9:b'=b:=by
  have:=(hE.mono.ver 0 (by show 0<1;omega)).2 ags;rw[hb']at this;simpa[g0]using this.1
 subst o9
 let g2:aE:= { g with fQ:=fun c=>g.fQ c\/(w.heap.size<=c/\c<w'.heap.size) }
 have agu:∀ c,g'.fQ c->g2.fQ c:=fun c hc=>by
  by_cases hlt:c<w.heap.size
  ·rcases hE.xR c hlt hc with h3|h3
   ·exact .inl h3
   ·exfalso;have:=(Z0 c).1 h3;subst this;exact kY.sV 0 c ⟨_,rfl,rfl⟩ hb' hc
  ·exact .inr ⟨by omega,kY.lt c hc⟩
 have hm:kI g w g2 w':=⟨fun c hc=>⟨.inl hc,hfr c (hR.lt c hc) (fun e=>Fh (e ▸ hc))⟩,Nat.le_refl _,fun _ _=>⟨Nat.le_refl _,fun _=>⟨rfl,rfl,rfl⟩⟩⟩
 have ajP:¬ g2.fQ b':=fun hh=>by
  rcases hh with hh|hh
  ·exact Fh hh
  ·omega
 have Xs:∀ {x y:AV},View (.dead:: τ) x y-> ∀ {v:Value},VR g' w' x v->VR g2 w' y v:=fun {x y} ais {v} hxv=>by
  have hRd:Rel g' w' (.dead:: τ):=by
   have hlen:=kY.len;refine⟨by simpa using hlen,kY.lt,fun l o ho=>?_,fun l l' c hl hl'=>?_,fun l c hl=>?_,kY.glob⟩
   ·cases l with
    | zero=>simp at ho;subst ho;trivial
    | succ l=>exact kY.ok (l+1) o (by simpa using ho)
   ·have lift : ∀ l, Live (.dead :: τ) l -> Live (.cells sR :: τ) l := fun l hl => by
     obtain⟨o,ho,hv⟩:=hl;cases l with
     | zero=>simp at ho;subst ho;cases hv
     | succ l=>exact⟨o,by simpa using ho,hv⟩
    exact kY.inj l l' c (lift l hl) (lift l' hl')
   ·obtain⟨o,ho,hv⟩:=hl;cases l with
    | zero=>simp at ho;subst ho;cases hv
    | succ l=>exact kY.sV (l+1) c ⟨o,by simpa using ho,hv⟩
  refine ais.vr hRd agu (fun c hc=>?_) hxv;obtain⟨l,⟨o,ho,hv⟩,hc⟩:=hc;cases l with
  | zero=>simp at ho;subst ho;cases hv
  | succ l =>
    have Xt:Live (.cells sR:: τ) (l+1):=⟨o,by simpa using ho,hv⟩;refine .inr ⟨?_,kY.jV Xt hc⟩;apply fF;intro hlt;have:=(Z0 c).1 (hE.K_ c hlt ⟨_,Xt,hc⟩);subst this;have:=kY.inj (l+1) 0 c Xt ⟨_,rfl,rfl⟩ hc hb';omega
 have hds:sR.length=ds.length:=OS.1
 have L2:Rel g2 w' (σ.set k (.cells ds)):=by
  refine⟨by simp[g2,hR.len],fun c hc=>?_,fun l o ho=>?_,fun l l' c hl hl'=>?_,fun l c hl hc hi=>?_,hR.glob.mono hm.fQ⟩
  ·rcases hc with hc|hc
   ·exact dK (hR.lt c hc) hE.size
   ·exact hc.2
  ·by_cases hlk:l=k
   ·subst hlk;rw[tT hk]at ho;cases ho;refine⟨aeD,?_,b',us',hb,agt,by omega,fun i hi=>Xs (OS.2 i (by omega)) (aeE i (by omega)),trivial⟩;rw[aV]at ZD ⊢;intro x hx;obtain⟨i,hi,rfl⟩:=bP hx;have h1:=(OS.2 i (by omega)).scalar;rw[ai,ai,aF hi,aF (by omega:i<sR.length)]at h1;rw[bw,bw]at h1;rw[h1];exact ZD _ (dD _)
   ·rw[aI (Ne.symm hlk)]at ho;have hl:l<g.n:=by rw[<-hR.len];exact(aK.1 ho).1
    by_cases hvv:o.live=true
    ·exact(hR.ok l o ho).step hm hl rfl (fun c hc=>hfr c (hR.jV ⟨o,ho,hvv⟩ hc) (fun e=>hlk (hR.inj l k c ⟨o,ho,hvv⟩ j4 hc (e ▸ hb))))
    ·cases o<;>simp[bj.live]at hvv;trivial
  ·have lift : ∀ l, Live (σ.set k (.cells ds)) l -> Live σ l := fun l hl => by
    rcases l7 hl with⟨rfl,_,_⟩|⟨_,hl⟩
    ·exact j4
    ·exact hl
   exact hR.inj l l' c (lift l hl) (lift l' hl')
  ·have hl' : Live σ l := by
    rcases l7 hl with⟨rfl,_,_⟩|⟨_,hl⟩
    ·exact j4
    ·exact hl
   rcases hi with hi|hi
   ·exact hR.sV l c hl' hc hi
   ·have:=hR.jV hl' hc;omega
 refine⟨.ret r,g2,_,L2,⟨hm,hE.size,hE.os,hE.tape,hE.output,fun c hc ht=>?_,fun c hc hi=>?_,fun c hc ht=>?_⟩,?_,rfl,rfl⟩
 ·exact hfr c hc (fun e=>ht ⟨k,j4,e ▸ hb⟩)
 ·rcases hi with hi|hi
  ·exact .inl hi
  ·omega
 ·obtain⟨l,hl,hc2⟩:=ht;rcases l7 hl with⟨rfl,_,_⟩|⟨_,hl⟩
  ·exact⟨_,j4,hc2⟩
  ·exact⟨l,hl,hc2⟩
 ·cases e with
  | returned v=>exact Xs IC hO
  | panicked c=>exact hO.elim
  | outgrown=>exact hO.elim
def dh.fS {f : FuncId} {off : Nat} {args cs ds : List AV} {r : AV}
    (h:dZ P f (.ref 0 off::args) [.cells cs] fun o σ'=> ∃ r0 sR τ,o = .ret r0/\σ' = .cells sR:: τ/\View (.dead:: τ) r0 r/\bN (.dead:: τ) sR ds) (hp:AV.cg args=true) (hc:AV.cg cs=true) :
    dh P f off args cs ds r:=dh.Xr (A:=fun _=>args) (fun _=>rfl) h (fun _ _ _ _ hpi _ i _ hv=>hv.dz hpi (jF hp i)) hc
def yc(P:Program)(f:FuncId)(cs ds:List AV)(r:AV)(F:FuncId): Prop :=
 ∀(σ : ae) (k:Nat),σ[k]? = some (.cells cs)->dZ P f [.ref k 0,.fn (.func F) [.ref k 0] []] σ fun o σ'=>o = .ret r/\σ' = σ.set k (.cells ds)
def yc.fS {f F : FuncId} {cs ds : List AV} {r : AV}
    (h:dZ P f [.ref 0 0,.fn (.func F) [.ref 0 0] []] [.cells cs] fun o σ'=> ∃ r0 sR τ,o = .ret r0/\σ' = .cells sR:: τ/\View (.dead:: τ) r0 r/\bN (.dead:: τ) sR ds) (hc:AV.cg cs=true):yc P f cs ds r F:=by
 refine dh.Xr (A:=fun k=>[.fn (.func F) [.ref k 0] []]) (fun _=>rfl) h (fun g g0 w k hpi UM i v hv=>?_) hc;cases i with
 | succ i=>exact hv.dz hpi rfl
 | zero =>
   cases hv with
   | fn f' first cap first' cap' hl hl' h1 h2 =>
     refine .fn _ _ _ _ _ hl hl' (fun i hi=>?_) (fun i hi=>absurd hi (cE _));cases i with
     | zero=>exact UM _ _ (h1 0 (Nat.zero_lt_one))
     | succ i=>simp at hi
section
variable {n:FuncId} {args:List AV} {σ : ae} {K Kp:AV->ae->Prop} {r:AV}
def Al(h:aM P n args r)(hk:j8 r (.mk:Tg fun r=>K r σ)): qf P n args σ (.mk:Tg (K,Kp)):=SP h hk
def Fp(h:aM P n args r)(hk:j8 r (.mk:Tg fun r=>K r σ)): BG P n args σ (.mk:Tg (K,Kp)):=SQ h hk
def acO{args':List AV}(h:aM P n args' r)(hv:bN [] args args')(hk:j8 r (.mk:Tg fun r=>K r σ)): qf P n args σ (.mk:Tg (K,Kp)):=SP (aM.weak h hv) hk
def acP{args':List AV}(h:aM P n args' r)(hv:bN [] args args')(hk:j8 r (.mk:Tg fun r=>K r σ)): BG P n args σ (.mk:Tg (K,Kp)):=SQ (aM.weak h hv) hk
def xG{args':List AV}(h:aM P n args' r)(hv:bN σ args args')(hr:r.flat=true)(hk:j8 r (.mk:Tg fun r=>K r σ)): qf P n args σ (.mk:Tg (K,Kp)) :=
 (aM.view h hv hr).mono fun o s ⟨h1,h2⟩=>by subst h1;subst h2;exact hk
def acQ{args':List AV}(h:aM P n args' r)(hv:bN σ args args')(hr:r.flat=true)(hk:j8 r (.mk:Tg fun r=>K r σ)): BG P n args σ (.mk:Tg (K,Kp)) :=
 ⟨r, fun τ => aM.view h ⟨hv.1, fun i hi => (hv.2 i hi).mono (fun l o hl => by
   rw[aJ (aK.1 hl).1];exact hl)⟩ hr,hk⟩
def OU {k : Nat} {F : FuncId} {cs ds : List AV} (h : yc P n cs ds r F) (gO : σ[k]? = some (.cells cs)) (hk : j8 r (.mk : Tg fun r => vF (σ.set k (.cells ds)) (.mk : Tg fun σ => K r σ))) :
    qf P n [.ref k 0,.fn (.func F) [.ref k 0] []] σ (.mk:Tg (K,Kp)) :=
 (h σ k gO).mono fun o s ⟨h1,h2⟩=>by subst h1;subst h2;exact hk
def Ke {k off : Nat} {cs ds : List AV} (h : dh P n off args cs ds r) (gO : σ[k]? = some (.cells cs)) (hk : j8 r (.mk : Tg fun r => vF (σ.set k (.cells ds)) (.mk : Tg fun σ => K r σ))) :
    qf P n (.ref k off::args) σ (.mk:Tg (K,Kp)) :=
 (h σ k gO).mono fun o s ⟨h1,h2⟩=>by subst h1;subst h2;exact hk
def cQ(P:Program)(f:FuncId)(args:List AV)(o:Out): Prop:= ∀ s,dZ P f args s fun o' s'=>o'=o/\s'=s
def cQ.ret{f:FuncId}{args:List AV}{r:AV}(h:aM P f args r): cQ P f args (.ret r):=h
def Kf{n:FuncId}{args:List AV}{σ : ae}{K Kp:AV->ae->Prop}{v:AV}(h:cQ P n args (.panic v))(hk:Kp v σ): qf P n args σ (.mk:Tg (K,Kp)) :=
 (h σ).mono fun o s ⟨h1,h2⟩=>by subst h1;subst h2;exact hk
def SS{n:FuncId}{args:List AV}{σ : ae}{K Kp:AV->ae->Prop}{r:AV}(h:aM P n args r)(hk:j8 r (.mk:Tg fun r=>K r σ)): N2 P n args σ (.mk:Tg (K,Kp)):=⟨.ret r,h,hk⟩
def cQ.weak{f:FuncId}{args args':List AV}{o:Out}(h:cQ P f args' o)(hv:bN [] args args'): cQ P f args o:=by
 intro σ;refine⟨(h []).1,fun g w vs hR hlen hvs=>?_⟩;refine((h σ).2 g w vs hR (hv.1 ▸ hlen) (fun i hi=>?_));refine View.vr (σ:=[]) (g:=aE.bare g.fQ) (g':=g) (Rel.bare hR.lt ⟨hR.glob.1,hR.glob.2⟩) (fun b hb=>hb) (fun b hb=>absurd hb iK) (hv.2 i (hv.1 ▸ hi)) ?_;exact View.Xq (hv.2 i (hv.1 ▸ hi)) (hvs i (hv.1 ▸ hi))
def Kg{n:FuncId}{args:List AV}{σ : ae}{K Kp:AV->ae->Prop}{v:AV}(h:cQ P n args (.panic v))(hk:∀ s,Kp v s): N2 P n args σ (.mk:Tg (K,Kp)):=⟨.panic v,h,hk⟩
end
def cQ.of_nil{f:FuncId}{args:List AV}{v:AV}(h:dZ P f args [] fun o _=>o = .panic v)(hp:AV.cg args=true)(hv:v.flat=true): cQ P f args (.panic v):=by
 intro σ;refine⟨h.1,fun g w vs hR hlen hvs=>?_⟩;refine(h.2 (aE.bare g.fQ) w vs (Rel.bare hR.lt ⟨hR.glob.1,hR.glob.2⟩) hlen (fun i hi=>VR.dz (g:=g) (g':=aE.bare g.fQ) (fun b hb=>⟨hb,rfl⟩) (hvs i hi) (jF hp i))).mono ?_;rintro e w' ⟨out,g',σ',kY,hE,hO,rfl⟩;have hfr:∀ b,b<w.heap.size->w'.heap[b]? = w.heap[b]?:=fun b hb=>hE.frame b hb iK;obtain⟨h1,h2⟩:=hR.vV hE.size hE.os hE.tape hE.output hfr;refine⟨.panic v,_,σ,h1,h2,?_,rfl,rfl⟩;cases e with
 | returned v=>exact hO.elim
 | panicked c=>obtain⟨v',hc,hr⟩:=hO;exact⟨v',hc,VR.flat hr hv⟩
 | outgrown=>exact hO.elim
def Z1(σ : ae): Out->Out->Prop
 | .ret r0,.ret r=>View σ r0 r
 | .panic v,.panic u=>v=u
 | _,_=>False
def cQ.gC{f:FuncId}{args:List AV}{o:Out}(h:dZ P f args [] fun o' σ'=>Z1 σ' o' o)(hp:AV.cg args=true)(hf:∀ v,o = .panic v->v.flat=true): cQ P f args o:=by
 cases o with
 | ret r =>
   refine aM.UL (h.mono fun o' σ' h=>?_) hp;cases o' with
   | ret r0=>exact⟨r0,rfl,h⟩
   | panic v=>exact h.elim
 | panic v =>
   refine cQ.of_nil (h.mono fun o' σ' h=>?_) hp (hf v rfl);cases o' with
   | ret r0=>exact h.elim
   | panic u=>exact congrArg Out.panic h
