/- Part. -/
import Derived.Test.YtcjcnfcedihckaaGreatDoorV11
set_option linter.all false
namespace Go.AM
variable {P:Program}
mutual
def AV.dh: AV->Bool
 | .own .. | .ref .. | .eG .. | .mp _ | .si _ | .vg ..=>false
 | .agg cs=>AV.bX cs
 | .bJ cs=>AV.bX cs
 | .aF _ _ xs=>AV.bX xs
 | .eA _ x _=>AV.dh x
 | .fn _ a b=>AV.bX a && AV.bX b
 | .j6 _ v=>AV.dh v
 | .undef | .bool _ | .int .. | .str _ | .ai | .iE | .qo | .ja | .mg | .pC=>true
def AV.bX: List AV->Bool
 | []=>true
 | a::az=>AV.dh a && AV.bX az
end
def oh{l:List AV}: AV.bX l=true↔ ∀ a ∈ l,a.dh=true:=by
 induction l with
 | nil=>simp[AV.bX]
 | cons a l ih=>simp[AV.bX,ih]
def iW{l:List AV}(h:AV.bX l=true)(i:Nat): (l.getD i .undef).dh=true:=by
 rw[aj];by_cases hi:i<l.length
 ·rw[aK hi];exact oh.1 h _ (dD hi)
 ·rw[List.getElem?_eq_none (Nat.le_of_not_lt hi)];rfl
def ie{α : Type}(f : α->AV)(l:List α)(h:∀ a,(f a).dh=true): AV.bX (l.map f)=true:=by
 rw[oh];intro a ha;obtain⟨x,_,rfl⟩:=cW.1 ha;exact h x
def Eh{a:AV}(h:a.dh=true)(c:Nat): (a.cell c).dh=true:=by
 cases a<;>first|exact h|exact iW h c
def VR.dh{g g':aM}{w w':World}(hi:∀ b,g.fH b->g'.fH b/\w'.heap[b]? = w.heap[b]?){a:AV}{v:Value}(h:VR g w a v): a.dh=true->VR g' w' a v:=by
 induction h with
 | undef v=>exact fun _=> .undef v
 | bool b=>exact fun _=> .bool b
 | int k n=>exact fun _=> .int k n
 | str s=>exact fun _=> .str s
 | agg cs vs hl hs _ ih=>exact fun hp=> .agg cs vs hl hs (fun i h=>ih i h (iW hp i))
 | bJ cs vs hl _ ih=>exact fun hp=> .bJ cs vs hl (fun i h=>ih i h (iW hp i))
 | ai=>exact fun _=> .ai
 | kg f el b cap hf=>exact fun _=> .kg f el b cap hf
 | aF f el xs b off cap hb hf hx ft hc _ ih =>
   intro hp;obtain⟨hi',he⟩:=hi b hb;refine .aF f el xs b off cap hi' hf hx ft (fun i c h1 h2=>?_) (fun i c h1 h2=>?_)
   ·rw[lN he];exact hc i c h1 h2
   ·rw[qd he];exact ih i c h1 h2 (Eh (iW hp i) c)
 | own el l m lo n v h=>exact fun hp=>by cases hp
 | ref l off v h=>exact fun hp=>by cases hp
 | eA el x off b o hb ft hc _ ih =>
   intro hp;obtain⟨hi',he⟩:=hi b hb;refine .eA el x off b o hi' ft (fun c h2=>?_) (fun c h2=>?_)
   ·rw[lN he];exact hc c h2
   ·rw[qd he];exact ih c h2 (Eh (a:=x) hp c)
 | eG el l m i off v h=>exact fun hp=>by cases hp
 | iE=>exact fun _=> .iE
 | qo=>exact fun _=> .qo
 | ja=>exact fun _=> .ja
 | fn f first cap first' cap' hl hl' _ _ ih FB =>
   intro hp;simp only[AV.dh,aD]at hp;exact .fn f first cap first' cap' hl hl' (fun i h=>ih i h (iW hp.1 i)) (fun i h=>FB i h (iW hp.2 i))
 | j6 t a v _ ih=>exact fun hp=> .j6 t a v (ih hp)
 | mg=>exact fun _=> .mg
 | pC v h=>exact fun _=> .pC v h
 | mp l v h=>exact fun hp=>by cases hp
 | si l v h=>exact fun hp=>by cases hp
 | vg el l off n v h=>exact fun hp=>by cases hp
mutual
def AV.flat: AV->Bool
 | .agg cs=>AV.wI cs
 | .bJ cs=>AV.wI cs
 | .undef | .bool _ | .int .. | .str _ | .ai | .iE | .qo | .ja | .mg | .pC=>true
 | .aF _ _ []=>true
 | .j6 _ a=>AV.flat a
 | _=>false
def AV.wI: List AV->Bool
 | []=>true
 | a::az=>AV.flat a && AV.wI az
end
def F6{l:List AV}(h:AV.wI l=true)(i:Nat): (l.getD i .undef).flat=true:=by
 induction l generalizing i with
 | nil=>simp[AV.flat]
 | cons a l ih =>
   simp only[AV.wI,aD]at h;cases i with
   | zero=>simpa using h.1
   | succ i=>simpa using ih h.2 i
def VR.flat{g g':aM}{w w':World}{a:AV}{v:Value}(h:VR g w a v): a.flat=true->VR g' w' a v:=by
 induction h with
 | undef v=>exact fun _=> .undef v
 | bool b=>exact fun _=> .bool b
 | int k n=>exact fun _=> .int k n
 | str s=>exact fun _=> .str s
 | agg cs vs hl hs _ ih=>exact fun hp=> .agg cs vs hl hs (fun i h=>ih i h (F6 hp i))
 | bJ cs vs hl _ ih=>exact fun hp=> .bJ cs vs hl (fun i h=>ih i h (F6 hp i))
 | ai=>exact fun _=> .ai
 | kg f el b cap hf=>exact fun _=> .kg f el b cap hf
 | aF f el xs b off cap hb hf hx ft hc _ ih =>
   intro hp;cases xs with
   | nil=>exact .kg f el _ cap hf
   | cons x xs=>simp[AV.flat]at hp
 | iE=>exact fun _=> .iE
 | qo=>exact fun _=> .qo
 | ja=>exact fun _=> .ja
 | mg=>exact fun _=> .mg
 | pC v h=>exact fun _=> .pC v h
 | j6 t a v _ ih=>exact fun hp=> .j6 t a v (ih hp)
 | own|ref|eA|eG|fn|mp|si|vg=>exact fun hp=>by simp[AV.flat]at hp
inductive View (σ : ae):AV->AV->Prop where
 | refl (a:AV) (h:a.dh=true):View σ a a
 | ai (el:El):View σ .ai (.aF false el [])
 | weak (f:Bool) (el:El) (xs:List AV) (h:AV.bX xs=true):View σ (.aF f el xs) (.aF false el xs)
 | aF (f:Bool) (el:El) (xs ys:List AV) (hl:xs.length=ys.length) (h:∀ i,i<xs.length->View σ (xs.getD i .undef) (ys.getD i .undef)):View σ (.aF f el xs) (.aF false el ys)
 | own (T : Option TypeId) (el : El) (l lo n : Nat) (xs ys : List AV) (hl : σ[l]? = some (.cy T el xs)) (hy : ys.length = n) (hn : lo + n <= xs.length)
    (h:∀ i,i<n->View σ (xs.getD (lo+i) .undef) (ys.getD i .undef)):View σ (.own el l xs.length lo n) (.aF false el ys)
 | agg (cs ds:List AV) (hl:cs.length=ds.length) (h:∀ i,i<cs.length->View σ (cs.getD i .undef) (ds.getD i .undef)):View σ (.agg cs) (.agg ds)
 | bJ (cs ds:List AV) (hl:cs.length=ds.length) (h:∀ i,i<cs.length->View σ (cs.getD i .undef) (ds.getD i .undef)):View σ (.bJ cs) (.bJ ds)
 | cell (l:Nat) (v:AV) (hl : σ[l]? = some (.cells [v])) (hs:v.fits ⟨false,1⟩=true) (hp:v.dh=true):View σ (.ref l 0) (.eA ⟨false,1⟩ v 0)
 | cells (l n:Nat) (cs:List AV) (hl : σ[l]? = some (.cells cs)) (hn:cs.length=n) (hp:AV.bX cs=true):View σ (.ref l 0) (.eA ⟨true,n⟩ (.agg cs) 0)
 | pC (a:AV) (l:Nat) (o:bx) (hl : σ[l]? = some o) (ho:o.live=true) (h:a.scalar=true):View σ a .pC
 | Bn (l n:Nat) (cs ds:List AV) (hl : σ[l]? = some (.cells cs)) (hn:cs.length=n) (hd:cs.length=ds.length) (h:∀ i,i<cs.length->View σ (cs.getD i .undef) (ds.getD i .undef)):View σ (.ref l 0) (.eA ⟨true,n⟩ (.agg ds) 0)
 | fn (f : Fn) (az bs cs ds : List AV) (hl : az.length = bs.length) (h : ∀ i, i < az.length -> View σ (az.getD i .undef) (bs.getD i .undef))
    (hl':cs.length=ds.length) (h':∀ i,i<cs.length->View σ (cs.getD i .undef) (ds.getD i .undef)):View σ (.fn f az cs) (.fn f bs ds)
def bf(σ : ae)(cs ds:List AV): Prop:=cs.length=ds.length/\ ∀ i,i<cs.length->View σ (cs.getD i .undef) (ds.getD i .undef)
def bf.nil(σ : ae): bf σ [] []:=⟨rfl,fun _ h=>absurd h (dL _)⟩
def bf.cons{σ : ae}{a b:AV}{cs ds:List AV}(h:View σ a b)(hs:bf σ cs ds): bf σ (a::cs) (b::ds) :=
 ⟨by simp [hs.1], fun i hi => by
   cases i with
   | zero=>simpa using h
   | succ i=>simpa using hs.2 i (by simpa using hi)⟩
def bf.refl{σ : ae}{cs:List AV}(h:AV.bX cs=true): bf σ cs cs:=⟨rfl,fun i _=> .refl _ (iW h i)⟩
def View.om{σ : ae}{cs ds:List AV}(h:bf σ cs ds): View σ (.agg cs) (.agg ds):= .agg cs ds h.1 h.2
def View.ads{σ : ae}{cs ds:List AV}(h:bf σ cs ds): View σ (.bJ cs) (.bJ ds):= .bJ cs ds h.1 h.2
def View.Zq{σ : ae}{f:Bool}{el:El}{xs ys:List AV}(h:bf σ xs ys): View σ (.aF f el xs) (.aF false el ys):= .aF f el xs ys h.1 h.2
def View.fnL{σ : ae}{f:Fn}{az bs cs ds:List AV}(h:bf σ az bs)(h':bf σ cs ds): View σ (.fn f az cs) (.fn f bs ds):= .fn f az bs cs ds h.1 h.2 h'.1 h'.2
def View.vec{σ : ae}{T:Option TypeId}{el:El}{l m n:Nat}{xs:List AV}(hl : σ[l]? = some (.cy T el xs))(hm:m=xs.length)(hn:n=xs.length)(h:AV.bX xs=true): View σ (.own el l m 0 n) (.aF false el xs):=by
 subst hm;subst hn;exact .own T el l 0 xs.length xs xs hl rfl (by omega) (fun i _=>by rw[cj];exact .refl _ (iW h i))
def View.Zr{σ : ae}{T:Option TypeId}{el:El}{l m n:Nat}{xs ys:List AV}(hl : σ[l]? = some (.cy T el xs))(hm:m=xs.length)(hn:n=xs.length)(h:bf σ xs ys): View σ (.own el l m 0 n) (.aF false el ys):=by
 subst hm;subst hn;exact .own T el l 0 xs.length xs ys hl h.1.symm (by omega) (fun i hi=>by rw[cj];exact h.2 i hi)
def View.scalar{σ : ae}{a b:AV}(h:View σ a b): b.scalar=a.scalar:=by
 cases h<;>first|rfl|skip
 case pC=>rename_i h;exact h.symm
def View.fits{σ : ae}{a b:AV}(h:View σ a b)(el:El)(hf:a.fits el=true): b.fits el=true:=by
 cases h with
 | agg cs ds hl h =>
   simp only[AV.fits,aD,bq,beq_iff_eq]at hf ⊢;refine⟨⟨hf.1.1,by rw[<-hl];exact hf.1.2⟩,fun x hx=>?_⟩;obtain⟨i,hi,rfl⟩:=bA hx;have h1:=(h i (by omega)).scalar;rw[aj,aj,aK hi,aK (by omega:i<cs.length)]at h1;rw[bB,bB]at h1;rw[h1];exact hf.2 _ (dD _)
 | refl=>exact hf
 | ai=>exact hf
 | weak=>exact hf
 | aF=>exact hf
 | own=>exact hf
 | bJ=>exact hf
 | cell=>exact hf
 | cells=>exact hf
 | Bn=>exact hf
 | pC _ l o hl ho h=>cases a<;>first|exact hf|(simp[AV.scalar]at h;done)
 | fn=>exact hf
def View.mono{σ σ':ae}(hs:∀ (l:Nat) o,σ[l]? = some o->σ'[l]? = some o){a b:AV}(h:View σ a b): View σ' a b:=by
 induction h with
 | refl a h=>exact .refl a h
 | ai el=>exact .ai el
 | weak f el xs h=>exact .weak f el xs h
 | aF f el xs ys hl _ ih=>exact .aF f el xs ys hl ih
 | own T el l lo n xs ys hl hy hn _ ih=>exact .own T el l lo n xs ys (hs _ _ hl) hy hn ih
 | agg cs ds hl _ ih=>exact .agg cs ds hl ih
 | bJ cs ds hl _ ih=>exact .bJ cs ds hl ih
 | cell l v hl h hp=>exact .cell l v (hs _ _ hl) h hp
 | cells l n cs hl hn hp=>exact .cells l n cs (hs _ _ hl) hn hp
 | Bn l n cs ds hl hn hd h ih=>exact .Bn l n cs ds (hs _ _ hl) hn hd ih
 | pC a l o hl ho h=>exact .pC a l o (hs _ _ hl) ho h
 | fn f az bs cs ds hl _ hl' _ ih FB=>exact .fn f az bs cs ds hl ih hl' FB
def Ei {g g' : aM} {w : World} {σ : ae} {x y : AV} {el : El} (ih : ∀ u, VR g w x u -> VR g' w y u) (h : View σ x y) (hf : x.fits el = true) (u : Nat -> Value)
    (hu:∀ k,k<el.sz->VR g w (x.cell k) (u k)) (c:Nat) (hc:c<el.sz):VR g' w (y.cell c) (u c):=by
 by_cases hx:∃ cs,x = .agg cs
 ·obtain⟨cs,rfl⟩:=hx;simp only[AV.fits,aD,beq_iff_eq]at hf
  have h1:VR g w (.agg cs) (.agg (Array.ofFn fun i:Fin cs.length=>u i)):=by
   refine .agg cs _ (by simp) hf.2 (fun i hi=>?_);have:=hu i (by omega);simpa[hi,AV.cell]using this
  have h2:=ih _ h1;generalize hq:y=q at h2
  have:∃ ds,q = .agg ds:=by
   subst hq;cases h with
   | refl=>exact⟨_,rfl⟩
   | agg _ ds=>exact⟨ds,rfl⟩
   | pC _ _ _ _ _ h=>simp[AV.scalar]at h
  obtain⟨ds,rfl⟩:=this;cases h2 with
  | agg _ vs hl hs hh =>
    simp only[Array.size_ofFn]at hl;have:=hh c (by omega);have fK:c<cs.length:=by omega
    simpa[fK,AV.cell]using this
 ·have e1:x.cell c=x:=by cases x<;>first|rfl|exact absurd ⟨_,rfl⟩ hx
  have e2:y.cell c=y:=by
   cases h<;>first|rfl|(exact absurd ⟨_,rfl⟩ hx)|exact e1
  rw[e2];have:=hu c hc;rw[e1]at this;exact ih _ this
def View.vr {g g' : aM} {w : World} {σ : ae} (hR : Rel g w σ) (hi : ∀ b, g.fH b -> g'.fH b) (ht : ∀ b, lO σ g b -> g'.fH b) {a b : AV} (hv : View σ a b) :
    ∀ {v:Value},VR g w a v->VR g' w b v:=by
 have LS:∀ b,g.fH b->g'.fH b/\w.heap[b]? = w.heap[b]?:=fun b hb=>⟨hi b hb,rfl⟩
 induction hv with
 | refl a h=>exact fun hr=>hr.dh LS h
 | ai el=>intro v hr;cases hr;exact .kg false el none 0 (fun h=>by cases h)
 | weak f el xs h =>
   intro v hr;cases hr with
   | kg f el b cap hf=>exact .kg false el b cap (fun h=>by cases h)
   | aF f el xs b off cap hb hf hx ft hc hh =>
     exact .aF false el xs b off cap (hi b hb) (fun h=>by cases h) hx ft hc (fun i c h1 h2=>(hh i c h1 h2).dh LS (Eh (iW h i) c))
 | aF f el xs ys hl h ih =>
   intro v hr;cases hr with
   | kg f el b cap hf =>
     have:ys=[]:=List.length_eq_zero_iff.1 hl.symm;subst this;exact .kg false el b cap (fun h=>by cases h)
   | aF f el xs b off cap hb hf hx ft hc hh =>
     rw[hl];refine .aF false el ys b off cap (hi b hb) (fun h=>by cases h) (hl ▸ hx) (fun i h1=>(h i (hl ▸ h1)).fits el (ft i (hl ▸ h1))) (fun i c h1 h2=>hc i c (hl ▸ h1) h2) (fun i c h1 h2=>?_);exact Ei (fun u=>ih i (hl ▸ h1)) (h i (hl ▸ h1)) (ft i (hl ▸ h1)) (fun k=>dP w ⟨b,off+(i*el.sz+k),none⟩) (fun k hk=>hh i k (hl ▸ h1) hk) c h2
 | own T el l lo n xs ys hl hy hn h ih =>
   intro v hr;cases hr with
   | own _ _ _ _ _ _ hO =>
     obtain⟨_,_,A,cap,rfl,h4⟩:=hO;obtain⟨mD,qW,hrow⟩:=hR.ok l _ hl;by_cases PB:n=0
     ·subst PB;have:ys=[]:=List.length_eq_zero_iff.1 hy;subst this;exact .kg false el A cap (fun h=>by cases h)
     rcases hrow with⟨hx,_,_⟩|⟨b,vs,hb,hrow,hsz,hle,hc,_⟩
     ·subst hx;simp at hn;omega
     obtain⟨_,h6,h7⟩:=h4 mD.symm;have hlt:lo<g.cap l:=by omega
     have hA:=h7 hlt;rw[hb]at hA;simp only[cS]at hA;subst hA
     have hidx:∀ i c,i<n->c<el.sz->g.off l+(lo+i)*el.sz+c<vs.size:=fun i c h1 h2=>by
      rw[hsz];have:(lo+i)*el.sz+el.sz<=g.cap l*el.sz:=by rw[<-cV];exact bE _ (by omega)
      omega
     have hoff:∀ i c,g.off l+lo*el.sz+(i*el.sz+c)=g.off l+(lo+i)*el.sz+c:=fun i c=>by rw[cY];omega
     subst hy;refine .aF false el ys b (g.off l+lo*el.sz) cap (ht b ⟨l,⟨_,hl,rfl⟩,hb⟩) (fun h=>by cases h) (by omega) (fun i h1=>?_) (fun i c h1 h2=>?_) (fun i c h1 h2=>?_)
     ·exact(h i h1).fits el (qW (lo+i) (by omega))
     ·rw[hoff,hrow.cell (hidx i c h1 h2)];rfl
     ·rw[hoff]
      have e1:dP w ⟨b,g.off l+(lo+i)*el.sz+c,none⟩=vs.getD (g.off l+(lo+i)*el.sz+c) Go.undef:=by
       simp only[dP,hrow.cell (hidx i c h1 h2),bB]
      rw[e1];exact Ei (fun u=>ih i h1) (h i h1) (qW (lo+i) (by omega)) (fun k=>vs.getD (g.off l+(lo+i)*el.sz+k) Go.undef) (fun k hk=>hc (lo+i) k (by omega) hk) c h2
 | agg cs ds hl h ih =>
   intro v hr;cases hr with
   | agg _ vs hl' hs hh =>
     refine .agg ds vs (by omega) ?_ (fun i h1=>ih i (by omega) (hh i (by omega)));rw[bq]at hs ⊢;intro x hx;obtain⟨i,hi',rfl⟩:=bA hx;have h1:=(h i (by omega)).scalar;rw[aj,aj,aK hi',aK (by omega:i<cs.length)]at h1;rw[bB,bB]at h1;rw[h1];exact hs _ (dD _)
 | bJ cs ds hl h ih =>
   intro v hr;cases hr with
   | bJ _ vs hl' hh=>exact .bJ ds vs (by omega) (fun i h1=>ih i (by omega) (hh i (by omega)))
 | cell l x hl hs hp =>
   intro v hr;cases hr with
   | ref _ _ _ hO =>
     obtain⟨_,A,rfl,h2⟩:=hO;obtain⟨mD,_,b,vs,hb,hrow,hsz,hc,_⟩:=hR.ok l _ hl;obtain⟨h3,h4⟩:=h2 mD;rw[hb]at h3;cases h3;rw[h4];have h5:(0:Nat)<vs.size:=by simpa using Nat.lt_of_lt_of_eq Nat.zero_lt_one hsz.symm
     have hcell:=hrow.cell h5;have hx:=hc 0 (by simp);simp only[bR]at hx;refine .eA ⟨false,1⟩ x 0 A.block 0 (ht _ ⟨l,⟨_,hl,rfl⟩,hb⟩) hs (fun c h1=>?_) (fun c h1=>?_)
     ·have:c=0:=by have:c<1:=h1;omega
      subst this;rw[cj,hcell];rfl
     ·have:c=0:=by have:c<1:=h1;omega
      subst this;have e1:x.cell 0=x:=by cases x<;>first|rfl|simp[AV.fits]at hs
      simp only[cj,dP,hcell,bB,e1];exact hx.dh LS hp
 | cells l n cs hl hn hp =>
   intro v hr;cases hr with
   | ref _ _ _ hO =>
     obtain⟨_,A,rfl,h2⟩:=hO;obtain⟨mD,hsc,b,vs,hb,hrow,hsz,hc,_⟩:=hR.ok l _ hl;obtain⟨h3,h4⟩:=h2 mD;rw[hb]at h3;cases h3;rw[h4];refine .eA ⟨true,n⟩ (.agg cs) 0 A.block 0 (ht _ ⟨l,⟨_,hl,rfl⟩,hb⟩) (by simp[AV.fits,hn];simpa using hsc) (fun c h1=>?_) (fun c h1=>?_)
     ·have h1:c<n:=h1;rw[cj,hrow.cell (by omega)];rfl
     ·have h1:c<n:=h1;simp only[cj,dP,hrow.cell (show c<vs.size by omega),bB];exact(hc c (by omega)).dh LS (iW hp c)
 | pC a l o hl ho h=>intro v hr;exact .pC v (hr.CK h)
 | Bn l n cs ds hl hn hd h ih =>
   intro v hr;cases hr with
   | ref _ _ _ hO =>
     obtain⟨_,A,rfl,h2⟩:=hO;obtain⟨mD,hsc,b,vs,hb,hrow,hsz,hc,_⟩:=hR.ok l _ hl;obtain⟨h3,h4⟩:=h2 mD;rw[hb]at h3;cases h3;rw[h4];refine .eA ⟨true,n⟩ (.agg ds) 0 A.block 0 (ht _ ⟨l,⟨_,hl,rfl⟩,hb⟩) ?_ (fun c h1=>?_) (fun c h1=>?_)
     ·simp only[AV.fits,c_,aD,beq_iff_eq];refine⟨by omega,bq.2 fun x hx=>?_⟩;obtain⟨i,hi,rfl⟩:=bA hx;have:=(h i (by omega)).scalar;rw[aj,aj,aK hi,aK (by omega:i<cs.length)]at this;rw[bB,bB]at this;rw[this];exact bq.1 hsc _ (dD _)
     ·have h1:c<n:=h1;rw[cj,hrow.cell (by omega)];rfl
     ·have h1:c<n:=h1;simp only[cj,dP,hrow.cell (show c<vs.size by omega),bB];exact ih c (by omega) (hc c (by omega))
 | fn f az bs cs ds hl h hl' h' ih FB =>
   intro v hr;cases hr with
   | fn _ _ _ first' cap' k1 k2 k3 k4=>exact .fn f bs ds first' cap' (by omega) (by omega) (fun i h1=>ih i (by omega) (k3 i (by omega))) (fun i h1=>FB i (by omega) (k4 i (by omega)))
def aH(P:Program)(f:FuncId)(args:List AV)(r:AV): Prop:= ∀ σ,wB P f args σ r
def jl{g:aM}{b:Nat}: ¬ lO [] g b:=fun⟨_,⟨_,h,_⟩,_⟩=>by simp at h
def aM.rf(g:aM)(lo hi:Nat): aM:= { g with fH:=fun b=>g.fH b\/(lo<=b/\b<hi) }
def Rel.rf {g : aM} {w w' : World} {σ : ae} (h : Rel g w σ) (hsz : w.heap.size <= w'.heap.size) (hos : w'.os = w.os) (yJ : w'.tape = w.tape) (hout : w'.output = w.output)
    (hf:∀ b,b<w.heap.size->w'.heap[b]? = w.heap[b]?):Rel (g.rf w.heap.size w'.heap.size) w' σ/\ik σ g w σ (g.rf w.heap.size w'.heap.size) w':=by
 have hm:kH g w (g.rf w.heap.size w'.heap.size) w':=⟨fun b hb=>⟨.inl hb,hf b (h.lt b hb)⟩,Nat.le_refl _,fun _ _=>⟨Nat.le_refl _,fun _=>⟨rfl,rfl,rfl⟩⟩⟩;refine⟨⟨h.len,fun b hb=>?_,fun l o ho=>?_,h.inj,fun l b hl hb hi=>?_,h.glob.mono hm.fH⟩,⟨hm,hsz,hos,yJ,hout,fun b hb _=>hf b hb,fun b hb hi=>?_,fun b _ ht=>ht⟩⟩
 ·rcases hb with hb|hb
  ·exact cZ (h.lt b hb) hsz
  ·exact hb.2
 ·have hl:l<g.n:=by rw[<-h.len];exact(aP.1 ho).1
  by_cases hv:o.live=true
  ·exact(h.ok l o ho).step hm hl rfl (fun b hb=>hf b (h.kq ⟨o,ho,hv⟩ hb))
  ·cases o<;>simp[bx.live]at hv;trivial
 ·rcases hi with hi|hi
  ·exact h.ug l b hl hb hi
  ·have:=h.kq hl hb;omega
 ·rcases hi with hi|hi
  ·exact .inl hi
  ·omega
def aM.bare(I:Nat->Prop): aM:=⟨I,0,fun _=>0,fun _=>none,fun _=>0,fun _=>0⟩
def Rel.bare{I:Nat->Prop}{w:World}(h:∀ b,I b->b<w.heap.size)(hg:wz (aM.bare I) w): Rel (aM.bare I) w [] :=
 ⟨rfl,h,fun _ _ h=>by simp at h,fun _ _ _ ⟨_,h,_⟩=>by simp at h,fun _ _ ⟨_,h,_⟩=>by simp at h,hg⟩
def aH.WV{f:FuncId}{args:List AV}{r:AV}(h:dK P f args [] fun o σ'=> ∃ r0,o = .ret r0/\View σ' r0 r)(hp:AV.bX args=true): aH P f args r:=by
 intro σ;refine⟨h.1,fun g w vs hR hlen hv=>?_⟩;refine(h.2 (aM.bare g.fH) w vs (Rel.bare hR.lt ⟨hR.glob.1,hR.glob.2⟩) hlen (fun i hi=>VR.dh (g:=g) (g':=aM.bare g.fH) (fun b hb=>⟨hb,rfl⟩) (hv i hi) (iW hp i))).mono ?_;rintro e w' ⟨out,g',σ',mW,hE,hO,r0,rfl,Rg⟩;have hfr:∀ b,b<w.heap.size->w'.heap[b]? = w.heap[b]?:=fun b hb=>hE.frame b hb jl;obtain⟨h1,h2⟩:=hR.rf hE.size hE.os hE.tape hE.output hfr;refine⟨.ret r,_,σ,h1,h2,?_,rfl,rfl⟩;cases e with
 | returned v =>
   refine Rg.vr mW (fun b hb=>?_) (fun b hb=>?_) hO
   ·by_cases hlt:b<w.heap.size
    ·rcases hE.xL b hlt hb with h3|h3
     ·exact .inl h3
     ·exact absurd h3 jl
    ·exact .inr ⟨by omega,mW.lt b hb⟩
   ·by_cases hlt:b<w.heap.size
    ·exact absurd (hE.Jp b hlt hb) jl
    ·exact .inr ⟨by omega,mW.FC hb⟩
 | panicked c=>exact hO.elim
 | outgrown=>exact hO.elim
def aH.view{f:FuncId}{args args':List AV}{r:AV}{σ : ae}(h:aH P f args' r)(hv:bf σ args args')(hr:r.flat=true): wB P f args σ r:=by
 refine⟨(h []).1,fun g w vs hR hlen hvs=>?_⟩
 let I:Nat->Prop:=fun b=>g.fH b\/lO σ g b
 have hlt:∀ b,I b->b<w.heap.size:=fun b hb=>by
  rcases hb with hb|hb
  ·exact hR.lt b hb
  ·exact hR.FC hb
 refine((h []).2 (aM.bare I) w vs (Rel.bare hlt ⟨fun b hb=> .inl (hR.glob.1 b hb),hR.glob.2⟩) (hv.1 ▸ hlen) (fun i hi=>?_)).mono ?_
 ·exact(hv.2 i (hv.1 ▸ hi)).vr (g':=aM.bare I) hR (fun b hb=> .inl hb) (fun b hb=> .inr hb) (hvs i (hv.1 ▸ hi))
 rintro e w' ⟨out,g',σ',mW,hE,hO,rfl,rfl⟩;have hfr:∀ b,b<w.heap.size->w'.heap[b]? = w.heap[b]?:=fun b hb=>hE.frame b hb jl;obtain⟨h1,h2⟩:=hR.rf hE.size hE.os hE.tape hE.output hfr;refine⟨.ret r,_,σ,h1,h2,?_,rfl,rfl⟩;cases e with
 | returned v=>exact VR.flat (a:=r) hO hr
 | panicked c=>exact hO.elim
 | outgrown=>exact hO.elim
inductive rh (σ : ae):AV->AV->Prop where
 | flat (a:AV) (h:a.flat=true):rh σ a a
 | own (T : Option TypeId) (el : El) (l lo n : Nat) (xs ys : List AV) (hl : σ[l]? = some (.cy T el xs)) (hy : ys.length = n) (hn : lo + n <= xs.length)
    (h:∀ i,i<n->rh σ (xs.getD (lo+i) .undef) (ys.getD i .undef)):rh σ (.own el l xs.length lo n) (.aF false el ys)
 | agg (cs ds:List AV) (hl:cs.length=ds.length) (h:∀ i,i<cs.length->rh σ (cs.getD i .undef) (ds.getD i .undef)):rh σ (.agg cs) (.agg ds)
 | bJ (cs ds:List AV) (hl:cs.length=ds.length) (h:∀ i,i<cs.length->rh σ (cs.getD i .undef) (ds.getD i .undef)):rh σ (.bJ cs) (.bJ ds)
mutual
def AV.Ej: ∀(a:AV),a.flat=true->a.dh=true
 | .agg cs,h=>AV.Bo cs h
 | .bJ cs,h=>AV.Bo cs h
 | .undef,_ | .bool _,_ | .int ..,_ | .str _,_ | .ai,_ | .iE,_ | .qo,_ | .ja,_ | .mg,_ | .pC,_=>rfl
 | .aF _ _ [],_=>rfl
 | .j6 _ a,h=>AV.Ej a h
 | .aF _ _ (_::_),h | .own ..,h | .ref ..,h | .eA ..,h | .eG ..,h | .fn ..,h | .mp _,h | .si _,h | .vg ..,h=>by simp[AV.flat]at h
def AV.Bo: ∀(l:List AV),AV.wI l=true->AV.bX l=true
 | [],_=>rfl
 | a :: l, h => by
   simp only[AV.wI,aD]at h;simp only[AV.bX,aD];exact⟨AV.Ej a h.1,AV.Bo l h.2⟩
end
def rh.view{σ : ae}{a b:AV}(h:rh σ a b): View σ a b:=by
 induction h with
 | flat a h=>exact .refl a (AV.Ej a h)
 | own T el l lo n xs ys hl hy hn _ ih=>exact .own T el l lo n xs ys hl hy hn ih
 | agg cs ds hl _ ih=>exact .agg cs ds hl ih
 | bJ cs ds hl _ ih=>exact .bJ cs ds hl ih
def rh.vr{g g':aM}{w:World}{σ : ae}(hR:Rel g w σ)(ht:∀ b,lO σ g b->g'.fH b){a b:AV}(hv:rh σ a b): ∀ {v:Value},VR g w a v->VR g' w b v:=by
 induction hv with
 | flat a h=>exact fun hr=>hr.flat h
 | own T el l lo n xs ys hl hy hn h ih =>
   intro v hr;cases hr with
   | own _ _ _ _ _ _ hO =>
     obtain⟨_,_,A,cap,rfl,h4⟩:=hO;obtain⟨mD,qW,hrow⟩:=hR.ok l _ hl;by_cases PB:n=0
     ·subst PB;have:ys=[]:=List.length_eq_zero_iff.1 hy;subst this;exact .kg false el A cap (fun h=>by cases h)
     rcases hrow with⟨hx,_,_⟩|⟨b,vs,hb,hrow,hsz,hle,hc,_⟩
     ·subst hx;simp at hn;omega
     obtain⟨_,h6,h7⟩:=h4 mD.symm;have hlt:lo<g.cap l:=by omega
     have hA:=h7 hlt;rw[hb]at hA;simp only[cS]at hA;subst hA
     have hidx:∀ i c,i<n->c<el.sz->g.off l+(lo+i)*el.sz+c<vs.size:=fun i c h1 h2=>by
      rw[hsz];have:(lo+i)*el.sz+el.sz<=g.cap l*el.sz:=by rw[<-cV];exact bE _ (by omega)
      omega
     have hoff:∀ i c,g.off l+lo*el.sz+(i*el.sz+c)=g.off l+(lo+i)*el.sz+c:=fun i c=>by rw[cY];omega
     subst hy;refine .aF false el ys b (g.off l+lo*el.sz) cap (ht b ⟨l,⟨_,hl,rfl⟩,hb⟩) (fun h=>by cases h) (by omega) (fun i h1=>?_) (fun i c h1 h2=>?_) (fun i c h1 h2=>?_)
     ·exact(h i h1).view.fits el (qW (lo+i) (by omega))
     ·rw[hoff,hrow.cell (hidx i c h1 h2)];rfl
     ·rw[hoff]
      have e1:dP w ⟨b,g.off l+(lo+i)*el.sz+c,none⟩=vs.getD (g.off l+(lo+i)*el.sz+c) Go.undef:=by
       simp only[dP,hrow.cell (hidx i c h1 h2),bB]
      rw[e1];exact Ei (fun u=>ih i h1) (h i h1).view (qW (lo+i) (by omega)) (fun k=>vs.getD (g.off l+(lo+i)*el.sz+k) Go.undef) (fun k hk=>hc (lo+i) k (by omega) hk) c h2
 | agg cs ds hl h ih =>
   intro v hr;cases hr with
   | agg _ vs hl' hs hh =>
     refine .agg ds vs (by omega) ?_ (fun i h1=>ih i (by omega) (hh i (by omega)));rw[bq]at hs ⊢;intro x hx;obtain⟨i,hi',rfl⟩:=bA hx;have h1:=(h i (by omega)).view.scalar;rw[aj,aj,aK hi',aK (by omega:i<cs.length)]at h1;rw[bB,bB]at h1;rw[h1];exact hs _ (dD _)
 | bJ cs ds hl h ih =>
   intro v hr;cases hr with
   | bJ _ vs hl' hh=>exact .bJ ds vs (by omega) (fun i h1=>ih i (by omega) (hh i (by omega)))
def View.adt{a b:AV}(h:View [] a b): a.dh=true:=by
 induction h with
 | refl a h=>exact h
 | ai=>rfl
 | weak f el xs h=>exact h
 | aF f el xs ys hl h ih =>
   refine oh.2 fun x hx=>?_;obtain⟨i,hi,rfl⟩:=bA hx;have:=ih i hi;rwa[aj,aK hi,bB]at this
 | own T el l lo n xs ys hl=>simp at hl
 | agg cs ds hl h ih =>
   refine oh.2 fun x hx=>?_;obtain⟨i,hi,rfl⟩:=bA hx;have:=ih i hi;rwa[aj,aK hi,bB]at this
 | bJ cs ds hl h ih =>
   refine oh.2 fun x hx=>?_;obtain⟨i,hi,rfl⟩:=bA hx;have:=ih i hi;rwa[aj,aK hi,bB]at this
 | cell l v hl=>simp at hl
 | cells l n cs hl=>simp at hl
 | Bn l n cs ds hl=>simp at hl
 | pC a l o hl=>simp at hl
 | fn f az bs cs ds hl h hl' h' ih FB =>
   simp only[AV.dh,aD];refine⟨oh.2 fun x hx=>?_,oh.2 fun x hx=>?_⟩
   ·obtain⟨i,hi,rfl⟩:=bA hx;have:=ih i hi;rwa[aj,aK hi,bB]at this
   ·obtain⟨i,hi,rfl⟩:=bA hx;have:=FB i hi;rwa[aj,aK hi,bB]at this
def View.Tm{g:aM}{w:World}{a b:AV}(h:View [] a b){v:Value}(hv:VR g w a v): VR (aM.bare g.fH) w a v:=VR.dh (g:=g) (g':=aM.bare g.fH) (fun _ hb=>⟨hb,rfl⟩) hv h.adt
def aH.weak{f:FuncId}{args args':List AV}{r:AV}(h:aH P f args' r)(hv:bf [] args args'): aH P f args r:=by
 intro σ;refine⟨(h []).1,fun g w vs hR hlen hvs=>?_⟩;refine((h σ).2 g w vs hR (hv.1 ▸ hlen) (fun i hi=>?_));refine View.vr (σ:=[]) (g:=aM.bare g.fH) (g':=g) (Rel.bare hR.lt ⟨hR.glob.1,hR.glob.2⟩) (fun b hb=>hb) (fun b hb=>absurd hb jl) (hv.2 i (hv.1 ▸ hi)) ?_;exact View.Tm (hv.2 i (hv.1 ▸ hi)) (hvs i (hv.1 ▸ hi))
end Go.AM
namespace Go.AM
variable {P:Program}
def bC(P:Program)(f:FuncId)(off:Nat)(args:List AV)(cs ds:List AV)(r:AV): Prop :=
 ∀(σ : ae) (k:Nat),σ[k]? = some (.cells cs)->dK P f (.ref k off::args) σ fun o σ'=>o = .ret r/\σ' = σ.set k (.cells ds)
def wJ{σ : ae}{k:Nat}{o o':bx}(h : σ[k]? = some o): (σ.set k o')[k]? = some o':=by
 have:=(aP.1 h).1;simp[this]
def bC.Tn {f : FuncId} {off : Nat} {A : Nat -> List AV} {cs ds : List AV} {r : AV} (hl : ∀ k, (A k).length = (A 0).length)
    (h:dK P f (.ref 0 off::A 0) [.cells cs] fun o σ'=> ∃ r0 mS τ,o = .ret r0/\σ' = .cells mS:: τ/\View (.dead:: τ) r0 r/\bf (.dead:: τ) mS ds)
    (hA:∀ (g g0:aM) (w:World) (k:Nat),(∀ c,g.fH c->g0.fH c/\w.heap[c]? = w.heap[c]?)->(∀ o v,VR g w (.ref k o) v->VR g0 w (.ref 0 o) v)-> ∀ i v,VR g w ((A k).getD i .undef) v->VR g0 w ((A 0).getD i .undef) v) (hc:AV.bX cs=true) :
    ∀(σ : ae) (k:Nat),σ[k]? = some (.cells cs)->dK P f (.ref k off::A k) σ fun o σ'=>o = .ret r/\σ' = σ.set k (.cells ds):=by
 intro σ k hk;refine⟨h.1,fun g w vs hR hlen hv=>?_⟩;have hkn:k<g.n:=by rw[<-hR.len];exact(aP.1 hk).1
 have lC:Live σ k:=⟨_,hk,rfl⟩;obtain⟨Zs,hsc,b,us,hb,hrow,YU,hcell,_⟩:=hR.ok k _ hk
 let g0:aM:=⟨g.fH,1,fun _=>1,fun _=>some b,fun _=>g.cap k,fun _=>g.off k⟩
 have ae5:b<w.heap.size:=hrow.lt;have Rh:¬ g.fH b:=hR.ug k b lC hb;have hpi:∀ c,g.fH c->g0.fH c/\w.heap[c]? = w.heap[c]?:=fun c hc=>⟨hc,rfl⟩
 have hR0:Rel g0 w [.cells cs]:=by
  refine⟨rfl,hR.lt,fun l o ho=>?_,fun l l' c hl hl' _ _=>?_,fun l c hl hc=>?_,⟨hR.glob.1,hR.glob.2⟩⟩
  ·cases l with
   | zero =>
     simp at ho;subst ho;exact⟨rfl,hsc,b,us,rfl,hrow,YU,fun i hi=>(hcell i hi).dh hpi (iW hc i),trivial⟩
   | succ l=>simp at ho
  ·have h1:=hl.lt;have h2:=hl'.lt;simp at h1 h2;omega
  ·have:c=b:=by simpa[g0]using hc.symm
   subst this;exact Rh
 have Vu:∀ c,lO [.cells cs] g0 c↔c=b:=fun c=>by
  constructor
  ·rintro⟨l,_,hc⟩;simpa[g0]using hc.symm
  ·rintro rfl;exact⟨0,⟨_,rfl,rfl⟩,rfl⟩
 have Ri:∀ o v,VR g w (.ref k o) v->VR g0 w (.ref 0 o) v:=fun o v this=>by
  cases this with
  | ref _ _ _ hh =>
    obtain⟨_,A,e,h2⟩:=hh;refine .ref _ _ _ ⟨⟨Nat.zero_lt_one,Nat.le_refl _⟩,A,e,fun _=>?_⟩;have:=h2 Zs;rw[hb]at this;exact this
 have mD:∀ i,i<(AV.ref 0 off::A 0).length->VR g0 w ((AV.ref 0 off::A 0).getD i .undef) (vs.getD i Go.undef):=fun i hi=>by
  have:=hv i (by simpa[hl k]using hi);cases i with
  | zero =>
    simp only[bR]at this ⊢;exact Ri _ _ this
  | succ i =>
    simp only[fm]at this ⊢;exact hA g g0 w k hpi Ri i _ this
 refine(h.2 g0 w vs hR0 (by simpa[hl k]using hlen) mD).mono ?_;rintro e w' ⟨out,g',σ',mW,hE,hO,r0,mS,τ,rfl,rfl,Rg,Mf⟩;have hfr:∀ c,c<w.heap.size->c≠b->w'.heap[c]? = w.heap[c]?:=fun c hc hne=>hE.frame c hc (fun t=>hne ((Vu c).1 t));obtain⟨abq,Vd,b',us',hb',abr,ae6,Zt,_⟩:=mW.ok 0 _ rfl
 have Zu:b'=b:=by
  have:=(hE.mono.ver 0 (by show 0<1;omega)).2 abq;rw[hb']at this;simpa[g0]using this.1
 subst Zu
 let g2:aM:= { g with fH:=fun c=>g.fH c\/(w.heap.size<=c/\c<w'.heap.size) }
 have abt:∀ c,g'.fH c->g2.fH c:=fun c hc=>by
  by_cases hlt:c<w.heap.size
  ·rcases hE.xL c hlt hc with h3|h3
   ·exact .inl h3
   ·exfalso;have:=(Vu c).1 h3;subst this;exact mW.ug 0 c ⟨_,rfl,rfl⟩ hb' hc
  ·exact .inr ⟨by omega,mW.lt c hc⟩
 have hm:kH g w g2 w':=⟨fun c hc=>⟨.inl hc,hfr c (hR.lt c hc) (fun e=>Rh (e ▸ hc))⟩,Nat.le_refl _,fun _ _=>⟨Nat.le_refl _,fun _=>⟨rfl,rfl,rfl⟩⟩⟩
 have aeJ:¬ g2.fH b':=fun hh=>by
  rcases hh with hh|hh
  ·exact Rh hh
  ·omega
 have Tp:∀ {x y:AV},View (.dead:: τ) x y-> ∀ {v:Value},VR g' w' x v->VR g2 w' y v:=fun {x y} adu {v} Mg=>by
  have hRd:Rel g' w' (.dead:: τ):=by
   have hlen:=mW.len;refine⟨by simpa using hlen,mW.lt,fun l o ho=>?_,fun l l' c hl hl'=>?_,fun l c hl=>?_,mW.glob⟩
   ·cases l with
    | zero=>simp at ho;subst ho;trivial
    | succ l=>exact mW.ok (l+1) o (by simpa using ho)
   ·have lift : ∀ l, Live (.dead :: τ) l -> Live (.cells mS :: τ) l := fun l hl => by
     obtain⟨o,ho,hv⟩:=hl;cases l with
     | zero=>simp at ho;subst ho;cases hv
     | succ l=>exact⟨o,by simpa using ho,hv⟩
    exact mW.inj l l' c (lift l hl) (lift l' hl')
   ·obtain⟨o,ho,hv⟩:=hl;cases l with
    | zero=>simp at ho;subst ho;cases hv
    | succ l=>exact mW.ug (l+1) c ⟨o,by simpa using ho,hv⟩
  refine adu.vr hRd abt (fun c hc=>?_) Mg;obtain⟨l,⟨o,ho,hv⟩,hc⟩:=hc;cases l with
  | zero=>simp at ho;subst ho;cases hv
  | succ l =>
    have uk:Live (.cells mS:: τ) (l+1):=⟨o,by simpa using ho,hv⟩;refine .inr ⟨?_,mW.kq uk hc⟩;apply Nat.le_of_not_lt;intro hlt;have:=(Vu c).1 (hE.Jp c hlt ⟨_,uk,hc⟩);subst this;have:=mW.inj (l+1) 0 c uk ⟨_,rfl,rfl⟩ hc hb';omega
 have hds:mS.length=ds.length:=Mf.1
 have Mh:Rel g2 w' (σ.set k (.cells ds)):=by
  refine⟨by simp[g2,hR.len],fun c hc=>?_,fun l o ho=>?_,fun l l' c hl hl'=>?_,fun l c hl hc hi=>?_,hR.glob.mono hm.fH⟩
  ·rcases hc with hc|hc
   ·exact cZ (hR.lt c hc) hE.size
   ·exact hc.2
  ·by_cases hlk:l=k
   ·subst hlk;rw[wJ hk]at ho;cases ho;refine⟨Zs,?_,b',us',hb,abr,by omega,fun i hi=>Tp (Mf.2 i (by omega)) (Zt i (by omega)),trivial⟩;rw[bq]at Vd ⊢;intro x hx;obtain⟨i,hi,rfl⟩:=bA hx;have h1:=(Mf.2 i (by omega)).scalar;rw[aj,aj,aK hi,aK (by omega:i<mS.length)]at h1;rw[bB,bB]at h1;rw[h1];exact Vd _ (dD _)
   ·rw[List.getElem?_set_ne (Ne.symm hlk)]at ho;have hl:l<g.n:=by rw[<-hR.len];exact(aP.1 ho).1
    by_cases Zv:o.live=true
    ·exact(hR.ok l o ho).step hm hl rfl (fun c hc=>hfr c (hR.kq ⟨o,ho,Zv⟩ hc) (fun e=>hlk (hR.inj l k c ⟨o,ho,Zv⟩ lC hc (e ▸ hb))))
    ·cases o<;>simp[bx.live]at Zv;trivial
  ·have lift : ∀ l, Live (σ.set k (.cells ds)) l -> Live σ l := fun l hl => by
    rcases kC hl with⟨rfl,_,_⟩|⟨_,hl⟩
    ·exact lC
    ·exact hl
   exact hR.inj l l' c (lift l hl) (lift l' hl')
  ·have hl' : Live σ l := by
    rcases kC hl with⟨rfl,_,_⟩|⟨_,hl⟩
    ·exact lC
    ·exact hl
   rcases hi with hi|hi
   ·exact hR.ug l c hl' hc hi
   ·have:=hR.kq hl' hc;omega
 refine⟨.ret r,g2,_,Mh,⟨hm,hE.size,hE.os,hE.tape,hE.output,fun c hc ht=>?_,fun c hc hi=>?_,fun c hc ht=>?_⟩,?_,rfl,rfl⟩
 ·exact hfr c hc (fun e=>ht ⟨k,lC,e ▸ hb⟩)
 ·rcases hi with hi|hi
  ·exact .inl hi
  ·omega
 ·obtain⟨l,hl,hc2⟩:=ht;rcases kC hl with⟨rfl,_,_⟩|⟨_,hl⟩
  ·exact⟨_,lC,hc2⟩
  ·exact⟨l,hl,hc2⟩
 ·cases e with
  | returned v=>exact Tp Rg hO
  | panicked c=>exact hO.elim
  | outgrown=>exact hO.elim
def bC.cC {f : FuncId} {off : Nat} {args cs ds : List AV} {r : AV}
    (h:dK P f (.ref 0 off::args) [.cells cs] fun o σ'=> ∃ r0 mS τ,o = .ret r0/\σ' = .cells mS:: τ/\View (.dead:: τ) r0 r/\bf (.dead:: τ) mS ds) (hp:AV.bX args=true) (hc:AV.bX cs=true) :
    bC P f off args cs ds r:=bC.Tn (A:=fun _=>args) (fun _=>rfl) h (fun _ _ _ _ hpi _ i _ hv=>hv.dh hpi (iW hp i)) hc
def Mi(P:Program)(f:FuncId)(cs ds:List AV)(r:AV)(F:FuncId): Prop :=
 ∀(σ : ae) (k:Nat),σ[k]? = some (.cells cs)->dK P f [.ref k 0,.fn (.func F) [.ref k 0] []] σ fun o σ'=>o = .ret r/\σ' = σ.set k (.cells ds)
def Mi.cC {f F : FuncId} {cs ds : List AV} {r : AV}
    (h:dK P f [.ref 0 0,.fn (.func F) [.ref 0 0] []] [.cells cs] fun o σ'=> ∃ r0 mS τ,o = .ret r0/\σ' = .cells mS:: τ/\View (.dead:: τ) r0 r/\bf (.dead:: τ) mS ds) (hc:AV.bX cs=true):Mi P f cs ds r F:=by
 refine bC.Tn (A:=fun k=>[.fn (.func F) [.ref k 0] []]) (fun _=>rfl) h (fun g g0 w k hpi Ri i v hv=>?_) hc;cases i with
 | succ i=>exact hv.dh hpi rfl
 | zero =>
   cases hv with
   | fn f' first cap first' cap' hl hl' h1 h2 =>
     refine .fn _ _ _ _ _ hl hl' (fun i hi=>?_) (fun i hi=>absurd hi (dL _));cases i with
     | zero=>exact Ri _ _ (h1 0 (Nat.zero_lt_one))
     | succ i=>simp at hi
section
variable {n:FuncId} {args:List AV} {σ : ae} {K Kp:AV->ae->Prop} {r:AV}
def u0(h:aH P n args r)(hk:kM r (.mk:Tg fun r=>K r σ)): uB P n args σ (.mk:Tg (K,Kp)):=PS h hk
def u7(h:aH P n args r)(hk:kM r (.mk:Tg fun r=>K r σ)): y8 P n args σ (.mk:Tg (K,Kp)):=PU h hk
def XI{args':List AV}(h:aH P n args' r)(hv:bf [] args args')(hk:kM r (.mk:Tg fun r=>K r σ)): uB P n args σ (.mk:Tg (K,Kp)):=PS (aH.weak h hv) hk
def XJ{args':List AV}(h:aH P n args' r)(hv:bf [] args args')(hk:kM r (.mk:Tg fun r=>K r σ)): y8 P n args σ (.mk:Tg (K,Kp)):=PU (aH.weak h hv) hk
def sE{args':List AV}(h:aH P n args' r)(hv:bf σ args args')(hr:r.flat=true)(hk:kM r (.mk:Tg fun r=>K r σ)): uB P n args σ (.mk:Tg (K,Kp)) :=
 (aH.view h hv hr).mono fun o s ⟨h1,h2⟩=>by subst h1;subst h2;exact hk
def XK{args':List AV}(h:aH P n args' r)(hv:bf σ args args')(hr:r.flat=true)(hk:kM r (.mk:Tg fun r=>K r σ)): y8 P n args σ (.mk:Tg (K,Kp)) :=
 ⟨r, fun τ => aH.view h ⟨hv.1, fun i hi => (hv.2 i hi).mono (fun l o hl => by
   rw[aN (aP.1 hl).1];exact hl)⟩ hr,hk⟩
def adw {k : Nat} {F : FuncId} {cs ds : List AV} (h : Mi P n cs ds r F) (xW : σ[k]? = some (.cells cs)) (hk : kM r (.mk : Tg fun r => y4 (σ.set k (.cells ds)) (.mk : Tg fun σ => K r σ))) :
    uB P n [.ref k 0,.fn (.func F) [.ref k 0] []] σ (.mk:Tg (K,Kp)) :=
 (h σ k xW).mono fun o s ⟨h1,h2⟩=>by subst h1;subst h2;exact hk
def H_ {k off : Nat} {cs ds : List AV} (h : bC P n off args cs ds r) (xW : σ[k]? = some (.cells cs)) (hk : kM r (.mk : Tg fun r => y4 (σ.set k (.cells ds)) (.mk : Tg fun σ => K r σ))) :
    uB P n (.ref k off::args) σ (.mk:Tg (K,Kp)) :=
 (h σ k xW).mono fun o s ⟨h1,h2⟩=>by subst h1;subst h2;exact hk
def za(P:Program)(f:FuncId)(args:List AV)(o:Out): Prop:= ∀ s,dK P f args s fun o' s'=>o'=o/\s'=s
def za.ret{f:FuncId}{args:List AV}{r:AV}(h:aH P f args r): za P f args (.ret r):=h
def za.weak{f:FuncId}{args args':List AV}{o:Out}(h:za P f args' o)(hv:bf [] args args'): za P f args o:=by
 intro σ;refine⟨(h []).1,fun g w vs hR hlen hvs=>?_⟩;refine((h σ).2 g w vs hR (hv.1 ▸ hlen) (fun i hi=>?_));refine View.vr (σ:=[]) (g:=aM.bare g.fH) (g':=g) (Rel.bare hR.lt ⟨hR.glob.1,hR.glob.2⟩) (fun b hb=>hb) (fun b hb=>absurd hb jl) (hv.2 i (hv.1 ▸ hi)) ?_;exact View.Tm (hv.2 i (hv.1 ▸ hi)) (hvs i (hv.1 ▸ hi))
end
def za.of_nil{f:FuncId}{args:List AV}{v:AV}(h:dK P f args [] fun o _=>o = .panic v)(hp:AV.bX args=true)(hv:v.flat=true): za P f args (.panic v):=by
 intro σ;refine⟨h.1,fun g w vs hR hlen hvs=>?_⟩;refine(h.2 (aM.bare g.fH) w vs (Rel.bare hR.lt ⟨hR.glob.1,hR.glob.2⟩) hlen (fun i hi=>VR.dh (g:=g) (g':=aM.bare g.fH) (fun b hb=>⟨hb,rfl⟩) (hvs i hi) (iW hp i))).mono ?_;rintro e w' ⟨out,g',σ',mW,hE,hO,rfl⟩;have hfr:∀ b,b<w.heap.size->w'.heap[b]? = w.heap[b]?:=fun b hb=>hE.frame b hb jl;obtain⟨h1,h2⟩:=hR.rf hE.size hE.os hE.tape hE.output hfr;refine⟨.panic v,_,σ,h1,h2,?_,rfl,rfl⟩;cases e with
 | returned v=>exact hO.elim
 | panicked c=>obtain⟨v',hc,hr⟩:=hO;exact⟨v',hc,VR.flat hr hv⟩
 | outgrown=>exact hO.elim
