/- Part. -/
import Derived.Test.YtcjcnfcedihckaaGreatDoorW13
set_option linter.all false
namespace Go.AM
variable {P:Program}
mutual
def AV.dF: AV->Bool
 | .own .. | .ref .. | .eJ .. | .mp _ | .qS _ | .sK ..=>false
 | .agg cs=>AV.cB cs
 | .bU cs=>AV.cB cs
 | .aO _ _ xs=>AV.cB xs
 | .dY _ x _=>AV.dF x
 | .fn _ a b=>AV.cB a && AV.cB b
 | .kP _ v=>AV.dF v
 | .undef | .bool _ | .int .. | .str _ | .au | .iX | .rK | .jn | .lG | .qC=>true
def AV.cB: List AV->Bool
 | []=>true
 | a::az=>AV.dF a && AV.cB az
end
def pM{l:List AV}: AV.cB l=true↔ ∀ a ∈ l,a.dF=true:=by
 induction l with
 | nil=>simp[AV.cB]
 | cons a l ih=>simp[AV.cB,ih]
def jh{l:List AV}(h:AV.cB l=true)(i:Nat): (l.getD i .undef).dF=true:=by
 rw[aj];by_cases hi:i<l.length
 ·rw[aN hi];exact pM.1 h _ (cU hi)
 ·rw[List.getElem?_eq_none (Nat.le_of_not_lt hi)];rfl
def iJ{α : Type}(f : α->AV)(l:List α)(h:∀ a,(f a).dF=true): AV.cB (l.map f)=true:=by
 rw[pM];intro a ha;obtain⟨x,_,rfl⟩:=cy.1 ha;exact h x
def Fw{a:AV}(h:a.dF=true)(c:Nat): (a.cell c).dF=true:=by
 cases a<;>first|exact h|exact jh h c
def VR.dF{g g':aJ}{w w':World}(hi:∀ b,g.fL b->g'.fL b/\w'.heap[b]? = w.heap[b]?){a:AV}{v:Value}(h:VR g w a v): a.dF=true->VR g' w' a v:=by
 induction h with
 | undef v=>exact fun _=> .undef v
 | bool b=>exact fun _=> .bool b
 | int k n=>exact fun _=> .int k n
 | str s=>exact fun _=> .str s
 | agg cs vs hl hs _ ih=>exact fun hp=> .agg cs vs hl hs (fun i h=>ih i h (jh hp i))
 | bU cs vs hl _ ih=>exact fun hp=> .bU cs vs hl (fun i h=>ih i h (jh hp i))
 | au=>exact fun _=> .au
 | iO f el b cap hf=>exact fun _=> .iO f el b cap hf
 | aO f el xs b off cap hb hf hx ft hc _ ih =>
   intro hp;obtain⟨hi',he⟩:=hi b hb;refine .aO f el xs b off cap hi' hf hx ft (fun i c h1 h2=>?_) (fun i c h1 h2=>?_)
   ·rw[mJ he];exact hc i c h1 h2
   ·rw[rD he];exact ih i c h1 h2 (Fw (jh hp i) c)
 | own el l m lo n v h=>exact fun hp=>by cases hp
 | ref l off v h=>exact fun hp=>by cases hp
 | dY el x off b o hb ft hc _ ih =>
   intro hp;obtain⟨hi',he⟩:=hi b hb;refine .dY el x off b o hi' ft (fun c h2=>?_) (fun c h2=>?_)
   ·rw[mJ he];exact hc c h2
   ·rw[rD he];exact ih c h2 (Fw (a:=x) hp c)
 | eJ el l m i off v h=>exact fun hp=>by cases hp
 | iX=>exact fun _=> .iX
 | rK=>exact fun _=> .rK
 | jn=>exact fun _=> .jn
 | fn f first cap first' cap' hl hl' _ _ ih Gq =>
   intro hp;simp only[AV.dF,aq]at hp;exact .fn f first cap first' cap' hl hl' (fun i h=>ih i h (jh hp.1 i)) (fun i h=>Gq i h (jh hp.2 i))
 | kP t a v _ ih=>exact fun hp=> .kP t a v (ih hp)
 | lG=>exact fun _=> .lG
 | qC v h=>exact fun _=> .qC v h
 | mp l v h=>exact fun hp=>by cases hp
 | qS l v h=>exact fun hp=>by cases hp
 | sK el l off n v h=>exact fun hp=>by cases hp
mutual
def AV.flat: AV->Bool
 | .agg cs=>AV.x8 cs
 | .bU cs=>AV.x8 cs
 | .undef | .bool _ | .int .. | .str _ | .au | .iX | .rK | .jn | .lG | .qC=>true
 | .aO _ _ []=>true
 | .kP _ a=>AV.flat a
 | _=>false
def AV.x8: List AV->Bool
 | []=>true
 | a::az=>AV.flat a && AV.x8 az
end
def GZ{l:List AV}(h:AV.x8 l=true)(i:Nat): (l.getD i .undef).flat=true:=by
 induction l generalizing i with
 | nil=>simp[AV.flat]
 | cons a l ih =>
   simp only[AV.x8,aq]at h;cases i with
   | zero=>simpa using h.1
   | succ i=>simpa using ih h.2 i
def VR.flat{g g':aJ}{w w':World}{a:AV}{v:Value}(h:VR g w a v): a.flat=true->VR g' w' a v:=by
 induction h with
 | undef v=>exact fun _=> .undef v
 | bool b=>exact fun _=> .bool b
 | int k n=>exact fun _=> .int k n
 | str s=>exact fun _=> .str s
 | agg cs vs hl hs _ ih=>exact fun hp=> .agg cs vs hl hs (fun i h=>ih i h (GZ hp i))
 | bU cs vs hl _ ih=>exact fun hp=> .bU cs vs hl (fun i h=>ih i h (GZ hp i))
 | au=>exact fun _=> .au
 | iO f el b cap hf=>exact fun _=> .iO f el b cap hf
 | aO f el xs b off cap hb hf hx ft hc _ ih =>
   intro hp;cases xs with
   | nil=>exact .iO f el _ cap hf
   | cons x xs=>simp[AV.flat]at hp
 | iX=>exact fun _=> .iX
 | rK=>exact fun _=> .rK
 | jn=>exact fun _=> .jn
 | lG=>exact fun _=> .lG
 | qC v h=>exact fun _=> .qC v h
 | kP t a v _ ih=>exact fun hp=> .kP t a v (ih hp)
 | own|ref|dY|eJ|fn|mp|qS|sK=>exact fun hp=>by simp[AV.flat]at hp
inductive View (σ : ae):AV->AV->Prop where
 | refl (a:AV) (h:a.dF=true):View σ a a
 | au (el:El):View σ .au (.aO false el [])
 | weak (f:Bool) (el:El) (xs:List AV) (h:AV.cB xs=true):View σ (.aO f el xs) (.aO false el xs)
 | aO (f:Bool) (el:El) (xs ys:List AV) (hl:xs.length=ys.length) (h:∀ i,i<xs.length->View σ (xs.getD i .undef) (ys.getD i .undef)):View σ (.aO f el xs) (.aO false el ys)
 | own (T : Option TypeId) (el : El) (l lo n : Nat) (xs ys : List AV) (hl : σ[l]? = some (.cz T el xs)) (hy : ys.length = n) (hn : lo + n <= xs.length)
    (h:∀ i,i<n->View σ (xs.getD (lo+i) .undef) (ys.getD i .undef)):View σ (.own el l xs.length lo n) (.aO false el ys)
 | agg (cs ds:List AV) (hl:cs.length=ds.length) (h:∀ i,i<cs.length->View σ (cs.getD i .undef) (ds.getD i .undef)):View σ (.agg cs) (.agg ds)
 | bU (cs ds:List AV) (hl:cs.length=ds.length) (h:∀ i,i<cs.length->View σ (cs.getD i .undef) (ds.getD i .undef)):View σ (.bU cs) (.bU ds)
 | cell (l:Nat) (v:AV) (hl : σ[l]? = some (.cells [v])) (hs:v.fits ⟨false,1⟩=true) (hp:v.dF=true):View σ (.ref l 0) (.dY ⟨false,1⟩ v 0)
 | cells (l n:Nat) (cs:List AV) (hl : σ[l]? = some (.cells cs)) (hn:cs.length=n) (hp:AV.cB cs=true):View σ (.ref l 0) (.dY ⟨true,n⟩ (.agg cs) 0)
 | qC (a:AV) (l:Nat) (o:aZ) (hl : σ[l]? = some o) (ho:o.live=true) (h:a.scalar=true):View σ a .qC
 | ze (l n:Nat) (cs ds:List AV) (hl : σ[l]? = some (.cells cs)) (hn:cs.length=n) (hd:cs.length=ds.length) (h:∀ i,i<cs.length->View σ (cs.getD i .undef) (ds.getD i .undef)):View σ (.ref l 0) (.dY ⟨true,n⟩ (.agg ds) 0)
 | fn (f : Fn) (az bs cs ds : List AV) (hl : az.length = bs.length) (h : ∀ i, i < az.length -> View σ (az.getD i .undef) (bs.getD i .undef))
    (hl':cs.length=ds.length) (h':∀ i,i<cs.length->View σ (cs.getD i .undef) (ds.getD i .undef)):View σ (.fn f az cs) (.fn f bs ds)
def bS(σ : ae)(cs ds:List AV): Prop:=cs.length=ds.length/\ ∀ i,i<cs.length->View σ (cs.getD i .undef) (ds.getD i .undef)
def bS.nil(σ : ae): bS σ [] []:=⟨rfl,fun _ h=>absurd h (cG _)⟩
def bS.cons{σ : ae}{a b:AV}{cs ds:List AV}(h:View σ a b)(hs:bS σ cs ds): bS σ (a::cs) (b::ds) :=
 ⟨by simp [hs.1], fun i hi => by
   cases i with
   | zero=>simpa using h
   | succ i=>simpa using hs.2 i (by simpa using hi)⟩
def bS.refl{σ : ae}{cs:List AV}(h:AV.cB cs=true): bS σ cs cs:=⟨rfl,fun i _=> .refl _ (jh h i)⟩
def View.s5{σ : ae}{cs ds:List AV}(h:bS σ cs ds): View σ (.agg cs) (.agg ds):= .agg cs ds h.1 h.2
def View.agc{σ : ae}{cs ds:List AV}(h:bS σ cs ds): View σ (.bU cs) (.bU ds):= .bU cs ds h.1 h.2
def View.aci{σ : ae}{f:Bool}{el:El}{xs ys:List AV}(h:bS σ xs ys): View σ (.aO f el xs) (.aO false el ys):= .aO f el xs ys h.1 h.2
def View.fnL{σ : ae}{f:Fn}{az bs cs ds:List AV}(h:bS σ az bs)(h':bS σ cs ds): View σ (.fn f az cs) (.fn f bs ds):= .fn f az bs cs ds h.1 h.2 h'.1 h'.2
def View.vec{σ : ae}{T:Option TypeId}{el:El}{l m n:Nat}{xs:List AV}(hl : σ[l]? = some (.cz T el xs))(hm:m=xs.length)(hn:n=xs.length)(h:AV.cB xs=true): View σ (.own el l m 0 n) (.aO false el xs):=by
 subst hm;subst hn;exact .own T el l 0 xs.length xs xs hl rfl (by omega) (fun i _=>by rw[b_];exact .refl _ (jh h i))
def View.acj{σ : ae}{T:Option TypeId}{el:El}{l m n:Nat}{xs ys:List AV}(hl : σ[l]? = some (.cz T el xs))(hm:m=xs.length)(hn:n=xs.length)(h:bS σ xs ys): View σ (.own el l m 0 n) (.aO false el ys):=by
 subst hm;subst hn;exact .own T el l 0 xs.length xs ys hl h.1.symm (by omega) (fun i hi=>by rw[b_];exact h.2 i hi)
def View.scalar{σ : ae}{a b:AV}(h:View σ a b): b.scalar=a.scalar:=by
 cases h<;>first|rfl|skip
 case qC=>rename_i h;exact h.symm
def View.fits{σ : ae}{a b:AV}(h:View σ a b)(el:El)(hf:a.fits el=true): b.fits el=true:=by
 cases h with
 | agg cs ds hl h =>
   simp only[AV.fits,aq,aX,beq_iff_eq]at hf ⊢;refine⟨⟨hf.1.1,by rw[<-hl];exact hf.1.2⟩,fun x hx=>?_⟩;obtain⟨i,hi,rfl⟩:=bz hx;have h1:=(h i (by omega)).scalar;rw[aj,aj,aN hi,aN (by omega:i<cs.length)]at h1;rw[bA,bA]at h1;rw[h1];exact hf.2 _ (cU _)
 | refl=>exact hf
 | au=>exact hf
 | weak=>exact hf
 | aO=>exact hf
 | own=>exact hf
 | bU=>exact hf
 | cell=>exact hf
 | cells=>exact hf
 | ze=>exact hf
 | qC _ l o hl ho h=>cases a<;>first|exact hf|(simp[AV.scalar]at h;done)
 | fn=>exact hf
def View.mono{σ σ':ae}(hs:∀ (l:Nat) o,σ[l]? = some o->σ'[l]? = some o){a b:AV}(h:View σ a b): View σ' a b:=by
 induction h with
 | refl a h=>exact .refl a h
 | au el=>exact .au el
 | weak f el xs h=>exact .weak f el xs h
 | aO f el xs ys hl _ ih=>exact .aO f el xs ys hl ih
 | own T el l lo n xs ys hl hy hn _ ih=>exact .own T el l lo n xs ys (hs _ _ hl) hy hn ih
 | agg cs ds hl _ ih=>exact .agg cs ds hl ih
 | bU cs ds hl _ ih=>exact .bU cs ds hl ih
 | cell l v hl h hp=>exact .cell l v (hs _ _ hl) h hp
 | cells l n cs hl hn hp=>exact .cells l n cs (hs _ _ hl) hn hp
 | ze l n cs ds hl hn hd h ih=>exact .ze l n cs ds (hs _ _ hl) hn hd ih
 | qC a l o hl ho h=>exact .qC a l o (hs _ _ hl) ho h
 | fn f az bs cs ds hl _ hl' _ ih Gq=>exact .fn f az bs cs ds hl ih hl' Gq
def Fx {g g' : aJ} {w : World} {σ : ae} {x y : AV} {el : El} (ih : ∀ u, VR g w x u -> VR g' w y u) (h : View σ x y) (hf : x.fits el = true) (u : Nat -> Value)
    (hu:∀ k,k<el.sz->VR g w (x.cell k) (u k)) (c:Nat) (hc:c<el.sz):VR g' w (y.cell c) (u c):=by
 by_cases hx:∃ cs,x = .agg cs
 ·obtain⟨cs,rfl⟩:=hx;simp only[AV.fits,aq,beq_iff_eq]at hf
  have h1:VR g w (.agg cs) (.agg (Array.ofFn fun i:Fin cs.length=>u i)):=by
   refine .agg cs _ (by simp) hf.2 (fun i hi=>?_);have:=hu i (by omega);simpa[hi,AV.cell]using this
  have h2:=ih _ h1;generalize hq:y=q at h2
  have:∃ ds,q = .agg ds:=by
   subst hq;cases h with
   | refl=>exact⟨_,rfl⟩
   | agg _ ds=>exact⟨ds,rfl⟩
   | qC _ _ _ _ _ h=>simp[AV.scalar]at h
  obtain⟨ds,rfl⟩:=this;cases h2 with
  | agg _ vs hl hs hh =>
    simp only[Array.size_ofFn]at hl;have:=hh c (by omega);have kr:c<cs.length:=by omega
    simpa[kr,AV.cell]using this
 ·have e1:x.cell c=x:=by cases x<;>first|rfl|exact absurd ⟨_,rfl⟩ hx
  have e2:y.cell c=y:=by
   cases h<;>first|rfl|(exact absurd ⟨_,rfl⟩ hx)|exact e1
  rw[e2];have:=hu c hc;rw[e1]at this;exact ih _ this
def View.vr {g g' : aJ} {w : World} {σ : ae} (hR : Rel g w σ) (hi : ∀ b, g.fL b -> g'.fL b) (ht : ∀ b, mh σ g b -> g'.fL b) {a b : AV} (hv : View σ a b) :
    ∀ {v:Value},VR g w a v->VR g' w b v:=by
 have Ev:∀ b,g.fL b->g'.fL b/\w.heap[b]? = w.heap[b]?:=fun b hb=>⟨hi b hb,rfl⟩
 induction hv with
 | refl a h=>exact fun hr=>hr.dF Ev h
 | au el=>intro v hr;cases hr;exact .iO false el none 0 (fun h=>by cases h)
 | weak f el xs h =>
   intro v hr;cases hr with
   | iO f el b cap hf=>exact .iO false el b cap (fun h=>by cases h)
   | aO f el xs b off cap hb hf hx ft hc hh =>
     exact .aO false el xs b off cap (hi b hb) (fun h=>by cases h) hx ft hc (fun i c h1 h2=>(hh i c h1 h2).dF Ev (Fw (jh h i) c))
 | aO f el xs ys hl h ih =>
   intro v hr;cases hr with
   | iO f el b cap hf =>
     have:ys=[]:=List.length_eq_zero_iff.1 hl.symm;subst this;exact .iO false el b cap (fun h=>by cases h)
   | aO f el xs b off cap hb hf hx ft hc hh =>
     rw[hl];refine .aO false el ys b off cap (hi b hb) (fun h=>by cases h) (hl ▸ hx) (fun i h1=>(h i (hl ▸ h1)).fits el (ft i (hl ▸ h1))) (fun i c h1 h2=>hc i c (hl ▸ h1) h2) (fun i c h1 h2=>?_);exact Fx (fun u=>ih i (hl ▸ h1)) (h i (hl ▸ h1)) (ft i (hl ▸ h1)) (fun k=>dD w ⟨b,off+(i*el.sz+k),none⟩) (fun k hk=>hh i k (hl ▸ h1) hk) c h2
 | own T el l lo n xs ys hl hy hn h ih =>
   intro v hr;cases hr with
   | own _ _ _ _ _ _ hO =>
     obtain⟨_,_,A,cap,rfl,h4⟩:=hO;obtain⟨lg,pB,hrow⟩:=hR.ok l _ hl;by_cases KC:n=0
     ·subst KC;have:ys=[]:=List.length_eq_zero_iff.1 hy;subst this;exact .iO false el A cap (fun h=>by cases h)
     rcases hrow with⟨hx,_,_⟩|⟨b,vs,hb,hrow,hsz,hle,hc,_⟩
     ·subst hx;simp at hn;omega
     obtain⟨_,h6,h7⟩:=h4 lg.symm;have hlt:lo<g.cap l:=by omega
     have hA:=h7 hlt;rw[hb]at hA;simp only[aT]at hA;subst hA
     have hidx:∀ i c,i<n->c<el.sz->g.off l+(lo+i)*el.sz+c<vs.size:=fun i c h1 h2=>by
      rw[hsz];have:(lo+i)*el.sz+el.sz<=g.cap l*el.sz:=by rw[<-cM];exact aY _ (by omega)
      omega
     have hoff:∀ i c,g.off l+lo*el.sz+(i*el.sz+c)=g.off l+(lo+i)*el.sz+c:=fun i c=>by rw[bE];omega
     subst hy;refine .aO false el ys b (g.off l+lo*el.sz) cap (ht b ⟨l,⟨_,hl,rfl⟩,hb⟩) (fun h=>by cases h) (by omega) (fun i h1=>?_) (fun i c h1 h2=>?_) (fun i c h1 h2=>?_)
     ·exact(h i h1).fits el (pB (lo+i) (by omega))
     ·rw[hoff,hrow.cell (hidx i c h1 h2)];rfl
     ·rw[hoff]
      have e1:dD w ⟨b,g.off l+(lo+i)*el.sz+c,none⟩=vs.getD (g.off l+(lo+i)*el.sz+c) Go.undef:=by
       simp only[dD,hrow.cell (hidx i c h1 h2),bA]
      rw[e1];exact Fx (fun u=>ih i h1) (h i h1) (pB (lo+i) (by omega)) (fun k=>vs.getD (g.off l+(lo+i)*el.sz+k) Go.undef) (fun k hk=>hc (lo+i) k (by omega) hk) c h2
 | agg cs ds hl h ih =>
   intro v hr;cases hr with
   | agg _ vs hl' hs hh =>
     refine .agg ds vs (by omega) ?_ (fun i h1=>ih i (by omega) (hh i (by omega)));rw[aX]at hs ⊢;intro x hx;obtain⟨i,hi',rfl⟩:=bz hx;have h1:=(h i (by omega)).scalar;rw[aj,aj,aN hi',aN (by omega:i<cs.length)]at h1;rw[bA,bA]at h1;rw[h1];exact hs _ (cU _)
 | bU cs ds hl h ih =>
   intro v hr;cases hr with
   | bU _ vs hl' hh=>exact .bU ds vs (by omega) (fun i h1=>ih i (by omega) (hh i (by omega)))
 | cell l x hl hs hp =>
   intro v hr;cases hr with
   | ref _ _ _ hO =>
     obtain⟨_,A,rfl,h2⟩:=hO;obtain⟨lg,_,b,vs,hb,hrow,hsz,hc,_⟩:=hR.ok l _ hl;obtain⟨h3,h4⟩:=h2 lg;rw[hb]at h3;cases h3;rw[h4];have h5:(0:Nat)<vs.size:=by simpa using Nat.lt_of_lt_of_eq Nat.zero_lt_one hsz.symm
     have hcell:=hrow.cell h5;have hx:=hc 0 (by simp);simp only[aV]at hx;refine .dY ⟨false,1⟩ x 0 A.block 0 (ht _ ⟨l,⟨_,hl,rfl⟩,hb⟩) hs (fun c h1=>?_) (fun c h1=>?_)
     ·have:c=0:=by have:c<1:=h1;omega
      subst this;rw[b_,hcell];rfl
     ·have:c=0:=by have:c<1:=h1;omega
      subst this;have e1:x.cell 0=x:=by cases x<;>first|rfl|simp[AV.fits]at hs
      simp only[b_,dD,hcell,bA,e1];exact hx.dF Ev hp
 | cells l n cs hl hn hp =>
   intro v hr;cases hr with
   | ref _ _ _ hO =>
     obtain⟨_,A,rfl,h2⟩:=hO;obtain⟨lg,hsc,b,vs,hb,hrow,hsz,hc,_⟩:=hR.ok l _ hl;obtain⟨h3,h4⟩:=h2 lg;rw[hb]at h3;cases h3;rw[h4];refine .dY ⟨true,n⟩ (.agg cs) 0 A.block 0 (ht _ ⟨l,⟨_,hl,rfl⟩,hb⟩) (by simp[AV.fits,hn];simpa using hsc) (fun c h1=>?_) (fun c h1=>?_)
     ·have h1:c<n:=h1;rw[b_,hrow.cell (by omega)];rfl
     ·have h1:c<n:=h1;simp only[b_,dD,hrow.cell (show c<vs.size by omega),bA];exact(hc c (by omega)).dF Ev (jh hp c)
 | qC a l o hl ho h=>intro v hr;exact .qC v (hr.DI h)
 | ze l n cs ds hl hn hd h ih =>
   intro v hr;cases hr with
   | ref _ _ _ hO =>
     obtain⟨_,A,rfl,h2⟩:=hO;obtain⟨lg,hsc,b,vs,hb,hrow,hsz,hc,_⟩:=hR.ok l _ hl;obtain⟨h3,h4⟩:=h2 lg;rw[hb]at h3;cases h3;rw[h4];refine .dY ⟨true,n⟩ (.agg ds) 0 A.block 0 (ht _ ⟨l,⟨_,hl,rfl⟩,hb⟩) ?_ (fun c h1=>?_) (fun c h1=>?_)
     ·simp only[AV.fits,ew,aq,beq_iff_eq];refine⟨by omega,aX.2 fun x hx=>?_⟩;obtain⟨i,hi,rfl⟩:=bz hx;have:=(h i (by omega)).scalar;rw[aj,aj,aN hi,aN (by omega:i<cs.length)]at this;rw[bA,bA]at this;rw[this];exact aX.1 hsc _ (cU _)
     ·have h1:c<n:=h1;rw[b_,hrow.cell (by omega)];rfl
     ·have h1:c<n:=h1;simp only[b_,dD,hrow.cell (show c<vs.size by omega),bA];exact ih c (by omega) (hc c (by omega))
 | fn f az bs cs ds hl h hl' h' ih Gq =>
   intro v hr;cases hr with
   | fn _ _ _ first' cap' k1 k2 k3 k4=>exact .fn f bs ds first' cap' (by omega) (by omega) (fun i h1=>ih i (by omega) (k3 i (by omega))) (fun i h1=>Gq i (by omega) (k4 i (by omega)))
def aM(P:Program)(f:FuncId)(args:List AV)(r:AV): Prop:= ∀ σ,xU P f args σ r
def jB{g:aJ}{b:Nat}: ¬ mh [] g b:=fun⟨_,⟨_,h,_⟩,_⟩=>by simp at h
def aJ.s6(g:aJ)(lo hi:Nat): aJ:= { g with fL:=fun b=>g.fL b\/(lo<=b/\b<hi) }
def Rel.s6 {g : aJ} {w w' : World} {σ : ae} (h : Rel g w σ) (hsz : w.heap.size <= w'.heap.size) (hos : w'.os = w.os) (v7 : w'.tape = w.tape) (hout : w'.output = w.output)
    (hf:∀ b,b<w.heap.size->w'.heap[b]? = w.heap[b]?):Rel (g.s6 w.heap.size w'.heap.size) w' σ/\fC σ g w σ (g.s6 w.heap.size w'.heap.size) w':=by
 have hm:kK g w (g.s6 w.heap.size w'.heap.size) w':=⟨fun b hb=>⟨.inl hb,hf b (h.lt b hb)⟩,Nat.le_refl _,fun _ _=>⟨Nat.le_refl _,fun _=>⟨rfl,rfl,rfl⟩⟩⟩;refine⟨⟨h.len,fun b hb=>?_,fun l o ho=>?_,h.inj,fun l b hl hb hi=>?_,h.glob.mono hm.fL⟩,⟨hm,hsz,hos,v7,hout,fun b hb _=>hf b hb,fun b hb hi=>?_,fun b _ ht=>ht⟩⟩
 ·rcases hb with hb|hb
  ·exact dL (h.lt b hb) hsz
  ·exact hb.2
 ·have hl:l<g.n:=by rw[<-h.len];exact(aP.1 ho).1
  by_cases hv:o.live=true
  ·exact(h.ok l o ho).step hm hl rfl (fun b hb=>hf b (h.kL ⟨o,ho,hv⟩ hb))
  ·cases o<;>simp[aZ.live]at hv;trivial
 ·rcases hi with hi|hi
  ·exact h.sL l b hl hb hi
  ·have:=h.kL hl hb;omega
 ·rcases hi with hi|hi
  ·exact .inl hi
  ·omega
def aJ.bare(I:Nat->Prop): aJ:=⟨I,0,fun _=>0,fun _=>none,fun _=>0,fun _=>0⟩
def Rel.bare{I:Nat->Prop}{w:World}(h:∀ b,I b->b<w.heap.size)(hg:xR (aJ.bare I) w): Rel (aJ.bare I) w [] :=
 ⟨rfl,h,fun _ _ h=>by simp at h,fun _ _ _ ⟨_,h,_⟩=>by simp at h,fun _ _ ⟨_,h,_⟩=>by simp at h,hg⟩
def aM.DX{f:FuncId}{args:List AV}{r:AV}(h:cR P f args [] fun o σ'=> ∃ r0,o = .ret r0/\View σ' r0 r)(hp:AV.cB args=true): aM P f args r:=by
 intro σ;refine⟨h.1,fun g w vs hR hlen hv=>?_⟩;refine(h.2 (aJ.bare g.fL) w vs (Rel.bare hR.lt ⟨hR.glob.1,hR.glob.2⟩) hlen (fun i hi=>VR.dF (g:=g) (g':=aJ.bare g.fL) (fun b hb=>⟨hb,rfl⟩) (hv i hi) (jh hp i))).mono ?_;rintro e w' ⟨out,g',σ',kV,hE,hO,r0,rfl,SI⟩;have hfr:∀ b,b<w.heap.size->w'.heap[b]? = w.heap[b]?:=fun b hb=>hE.frame b hb jB;obtain⟨h1,h2⟩:=hR.s6 hE.size hE.os hE.tape hE.output hfr;refine⟨.ret r,_,σ,h1,h2,?_,rfl,rfl⟩;cases e with
 | returned v =>
   refine SI.vr kV (fun b hb=>?_) (fun b hb=>?_) hO
   ·by_cases hlt:b<w.heap.size
    ·rcases hE.y7 b hlt hb with h3|h3
     ·exact .inl h3
     ·exact absurd h3 jB
    ·exact .inr ⟨by omega,kV.lt b hb⟩
   ·by_cases hlt:b<w.heap.size
    ·exact absurd (hE.J6 b hlt hb) jB
    ·exact .inr ⟨by omega,kV.zR hb⟩
 | panicked c=>exact hO.elim
 | outgrown=>exact hO.elim
def aM.view{f:FuncId}{args args':List AV}{r:AV}{σ : ae}(h:aM P f args' r)(hv:bS σ args args')(hr:r.flat=true): xU P f args σ r:=by
 refine⟨(h []).1,fun g w vs hR hlen hvs=>?_⟩
 let I:Nat->Prop:=fun b=>g.fL b\/mh σ g b
 have hlt:∀ b,I b->b<w.heap.size:=fun b hb=>by
  rcases hb with hb|hb
  ·exact hR.lt b hb
  ·exact hR.zR hb
 refine((h []).2 (aJ.bare I) w vs (Rel.bare hlt ⟨fun b hb=> .inl (hR.glob.1 b hb),hR.glob.2⟩) (hv.1 ▸ hlen) (fun i hi=>?_)).mono ?_
 ·exact(hv.2 i (hv.1 ▸ hi)).vr (g':=aJ.bare I) hR (fun b hb=> .inl hb) (fun b hb=> .inr hb) (hvs i (hv.1 ▸ hi))
 rintro e w' ⟨out,g',σ',kV,hE,hO,rfl,rfl⟩;have hfr:∀ b,b<w.heap.size->w'.heap[b]? = w.heap[b]?:=fun b hb=>hE.frame b hb jB;obtain⟨h1,h2⟩:=hR.s6 hE.size hE.os hE.tape hE.output hfr;refine⟨.ret r,_,σ,h1,h2,?_,rfl,rfl⟩;cases e with
 | returned v=>exact VR.flat (a:=r) hO hr
 | panicked c=>exact hO.elim
 | outgrown=>exact hO.elim
inductive s7 (σ : ae):AV->AV->Prop where
 | flat (a:AV) (h:a.flat=true):s7 σ a a
 | own (T : Option TypeId) (el : El) (l lo n : Nat) (xs ys : List AV) (hl : σ[l]? = some (.cz T el xs)) (hy : ys.length = n) (hn : lo + n <= xs.length)
    (h:∀ i,i<n->s7 σ (xs.getD (lo+i) .undef) (ys.getD i .undef)):s7 σ (.own el l xs.length lo n) (.aO false el ys)
 | agg (cs ds:List AV) (hl:cs.length=ds.length) (h:∀ i,i<cs.length->s7 σ (cs.getD i .undef) (ds.getD i .undef)):s7 σ (.agg cs) (.agg ds)
 | bU (cs ds:List AV) (hl:cs.length=ds.length) (h:∀ i,i<cs.length->s7 σ (cs.getD i .undef) (ds.getD i .undef)):s7 σ (.bU cs) (.bU ds)
mutual
def AV.Fy: ∀(a:AV),a.flat=true->a.dF=true
 | .agg cs,h=>AV.Cm cs h
 | .bU cs,h=>AV.Cm cs h
 | .undef,_ | .bool _,_ | .int ..,_ | .str _,_ | .au,_ | .iX,_ | .rK,_ | .jn,_ | .lG,_ | .qC,_=>rfl
 | .aO _ _ [],_=>rfl
 | .kP _ a,h=>AV.Fy a h
 | .aO _ _ (_::_),h | .own ..,h | .ref ..,h | .dY ..,h | .eJ ..,h | .fn ..,h | .mp _,h | .qS _,h | .sK ..,h=>by simp[AV.flat]at h
def AV.Cm: ∀(l:List AV),AV.x8 l=true->AV.cB l=true
 | [],_=>rfl
 | a :: l, h => by
   simp only[AV.x8,aq]at h;simp only[AV.cB,aq];exact⟨AV.Fy a h.1,AV.Cm l h.2⟩
end
def s7.view{σ : ae}{a b:AV}(h:s7 σ a b): View σ a b:=by
 induction h with
 | flat a h=>exact .refl a (AV.Fy a h)
 | own T el l lo n xs ys hl hy hn _ ih=>exact .own T el l lo n xs ys hl hy hn ih
 | agg cs ds hl _ ih=>exact .agg cs ds hl ih
 | bU cs ds hl _ ih=>exact .bU cs ds hl ih
def s7.vr{g g':aJ}{w:World}{σ : ae}(hR:Rel g w σ)(ht:∀ b,mh σ g b->g'.fL b){a b:AV}(hv:s7 σ a b): ∀ {v:Value},VR g w a v->VR g' w b v:=by
 induction hv with
 | flat a h=>exact fun hr=>hr.flat h
 | own T el l lo n xs ys hl hy hn h ih =>
   intro v hr;cases hr with
   | own _ _ _ _ _ _ hO =>
     obtain⟨_,_,A,cap,rfl,h4⟩:=hO;obtain⟨lg,pB,hrow⟩:=hR.ok l _ hl;by_cases KC:n=0
     ·subst KC;have:ys=[]:=List.length_eq_zero_iff.1 hy;subst this;exact .iO false el A cap (fun h=>by cases h)
     rcases hrow with⟨hx,_,_⟩|⟨b,vs,hb,hrow,hsz,hle,hc,_⟩
     ·subst hx;simp at hn;omega
     obtain⟨_,h6,h7⟩:=h4 lg.symm;have hlt:lo<g.cap l:=by omega
     have hA:=h7 hlt;rw[hb]at hA;simp only[aT]at hA;subst hA
     have hidx:∀ i c,i<n->c<el.sz->g.off l+(lo+i)*el.sz+c<vs.size:=fun i c h1 h2=>by
      rw[hsz];have:(lo+i)*el.sz+el.sz<=g.cap l*el.sz:=by rw[<-cM];exact aY _ (by omega)
      omega
     have hoff:∀ i c,g.off l+lo*el.sz+(i*el.sz+c)=g.off l+(lo+i)*el.sz+c:=fun i c=>by rw[bE];omega
     subst hy;refine .aO false el ys b (g.off l+lo*el.sz) cap (ht b ⟨l,⟨_,hl,rfl⟩,hb⟩) (fun h=>by cases h) (by omega) (fun i h1=>?_) (fun i c h1 h2=>?_) (fun i c h1 h2=>?_)
     ·exact(h i h1).view.fits el (pB (lo+i) (by omega))
     ·rw[hoff,hrow.cell (hidx i c h1 h2)];rfl
     ·rw[hoff]
      have e1:dD w ⟨b,g.off l+(lo+i)*el.sz+c,none⟩=vs.getD (g.off l+(lo+i)*el.sz+c) Go.undef:=by
       simp only[dD,hrow.cell (hidx i c h1 h2),bA]
      rw[e1];exact Fx (fun u=>ih i h1) (h i h1).view (pB (lo+i) (by omega)) (fun k=>vs.getD (g.off l+(lo+i)*el.sz+k) Go.undef) (fun k hk=>hc (lo+i) k (by omega) hk) c h2
 | agg cs ds hl h ih =>
   intro v hr;cases hr with
   | agg _ vs hl' hs hh =>
     refine .agg ds vs (by omega) ?_ (fun i h1=>ih i (by omega) (hh i (by omega)));rw[aX]at hs ⊢;intro x hx;obtain⟨i,hi',rfl⟩:=bz hx;have h1:=(h i (by omega)).view.scalar;rw[aj,aj,aN hi',aN (by omega:i<cs.length)]at h1;rw[bA,bA]at h1;rw[h1];exact hs _ (cU _)
 | bU cs ds hl h ih =>
   intro v hr;cases hr with
   | bU _ vs hl' hh=>exact .bU ds vs (by omega) (fun i h1=>ih i (by omega) (hh i (by omega)))
def View.agd{a b:AV}(h:View [] a b): a.dF=true:=by
 induction h with
 | refl a h=>exact h
 | au=>rfl
 | weak f el xs h=>exact h
 | aO f el xs ys hl h ih =>
   refine pM.2 fun x hx=>?_;obtain⟨i,hi,rfl⟩:=bz hx;have:=ih i hi;rwa[aj,aN hi,bA]at this
 | own T el l lo n xs ys hl=>simp at hl
 | agg cs ds hl h ih =>
   refine pM.2 fun x hx=>?_;obtain⟨i,hi,rfl⟩:=bz hx;have:=ih i hi;rwa[aj,aN hi,bA]at this
 | bU cs ds hl h ih =>
   refine pM.2 fun x hx=>?_;obtain⟨i,hi,rfl⟩:=bz hx;have:=ih i hi;rwa[aj,aN hi,bA]at this
 | cell l v hl=>simp at hl
 | cells l n cs hl=>simp at hl
 | ze l n cs ds hl=>simp at hl
 | qC a l o hl=>simp at hl
 | fn f az bs cs ds hl h hl' h' ih Gq =>
   simp only[AV.dF,aq];refine⟨pM.2 fun x hx=>?_,pM.2 fun x hx=>?_⟩
   ·obtain⟨i,hi,rfl⟩:=bz hx;have:=ih i hi;rwa[aj,aN hi,bA]at this
   ·obtain⟨i,hi,rfl⟩:=bz hx;have:=Gq i hi;rwa[aj,aN hi,bA]at this
def View.Vi{g:aJ}{w:World}{a b:AV}(h:View [] a b){v:Value}(hv:VR g w a v): VR (aJ.bare g.fL) w a v:=VR.dF (g:=g) (g':=aJ.bare g.fL) (fun _ hb=>⟨hb,rfl⟩) hv h.agd
def aM.weak{f:FuncId}{args args':List AV}{r:AV}(h:aM P f args' r)(hv:bS [] args args'): aM P f args r:=by
 intro σ;refine⟨(h []).1,fun g w vs hR hlen hvs=>?_⟩;refine((h σ).2 g w vs hR (hv.1 ▸ hlen) (fun i hi=>?_));refine View.vr (σ:=[]) (g:=aJ.bare g.fL) (g':=g) (Rel.bare hR.lt ⟨hR.glob.1,hR.glob.2⟩) (fun b hb=>hb) (fun b hb=>absurd hb jB) (hv.2 i (hv.1 ▸ hi)) ?_;exact View.Vi (hv.2 i (hv.1 ▸ hi)) (hvs i (hv.1 ▸ hi))
end Go.AM
namespace Go.AM
variable {P:Program}
def c_(P:Program)(f:FuncId)(off:Nat)(args:List AV)(cs ds:List AV)(r:AV): Prop :=
 ∀(σ : ae) (k:Nat),σ[k]? = some (.cells cs)->cR P f (.ref k off::args) σ fun o σ'=>o = .ret r/\σ' = σ.set k (.cells ds)
def x9{σ : ae}{k:Nat}{o o':aZ}(h : σ[k]? = some o): (σ.set k o')[k]? = some o':=by
 have:=(aP.1 h).1;simp[this]
def c_.Vj {f : FuncId} {off : Nat} {A : Nat -> List AV} {cs ds : List AV} {r : AV} (hl : ∀ k, (A k).length = (A 0).length)
    (h:cR P f (.ref 0 off::A 0) [.cells cs] fun o σ'=> ∃ r0 qB τ,o = .ret r0/\σ' = .cells qB:: τ/\View (.dead:: τ) r0 r/\bS (.dead:: τ) qB ds)
    (hA:∀ (g g0:aJ) (w:World) (k:Nat),(∀ c,g.fL c->g0.fL c/\w.heap[c]? = w.heap[c]?)->(∀ o v,VR g w (.ref k o) v->VR g0 w (.ref 0 o) v)-> ∀ i v,VR g w ((A k).getD i .undef) v->VR g0 w ((A 0).getD i .undef) v) (hc:AV.cB cs=true) :
    ∀(σ : ae) (k:Nat),σ[k]? = some (.cells cs)->cR P f (.ref k off::A k) σ fun o σ'=>o = .ret r/\σ' = σ.set k (.cells ds):=by
 intro σ k hk;refine⟨h.1,fun g w vs hR hlen hv=>?_⟩;have hkn:k<g.n:=by rw[<-hR.len];exact(aP.1 hk).1
 have jQ:Live σ k:=⟨_,hk,rfl⟩;obtain⟨Cn,hsc,b,us,hb,hrow,y_,hcell,_⟩:=hR.ok k _ hk
 let g0:aJ:=⟨g.fL,1,fun _=>1,fun _=>some b,fun _=>g.cap k,fun _=>g.off k⟩
 have ahP:b<w.heap.size:=hrow.lt;have DQ:¬ g.fL b:=hR.sL k b jQ hb;have hpi:∀ c,g.fL c->g0.fL c/\w.heap[c]? = w.heap[c]?:=fun c hc=>⟨hc,rfl⟩
 have hR0:Rel g0 w [.cells cs]:=by
  refine⟨rfl,hR.lt,fun l o ho=>?_,fun l l' c hl hl' _ _=>?_,fun l c hl hc=>?_,⟨hR.glob.1,hR.glob.2⟩⟩
  ·cases l with
   | zero =>
     simp at ho;subst ho;exact⟨rfl,hsc,b,us,rfl,hrow,y_,fun i hi=>(hcell i hi).dF hpi (jh hc i),trivial⟩
   | succ l=>simp at ho
  ·have h1:=hl.lt;have h2:=hl'.lt;simp at h1 h2;omega
  ·have:c=b:=by simpa[g0]using hc.symm
   subst this;exact DQ
 have XV:∀ c,mh [.cells cs] g0 c↔c=b:=fun c=>by
  constructor
  ·rintro⟨l,_,hc⟩;simpa[g0]using hc.symm
  ·rintro rfl;exact⟨0,⟨_,rfl,rfl⟩,rfl⟩
 have SJ:∀ o v,VR g w (.ref k o) v->VR g0 w (.ref 0 o) v:=fun o v this=>by
  cases this with
  | ref _ _ _ hh =>
    obtain⟨_,A,e,h2⟩:=hh;refine .ref _ _ _ ⟨⟨Nat.zero_lt_one,Nat.le_refl _⟩,A,e,fun _=>?_⟩;have:=h2 Cn;rw[hb]at this;exact this
 have lg:∀ i,i<(AV.ref 0 off::A 0).length->VR g0 w ((AV.ref 0 off::A 0).getD i .undef) (vs.getD i Go.undef):=fun i hi=>by
  have:=hv i (by simpa[hl k]using hi);cases i with
  | zero =>
    simp only[aV]at this ⊢;exact SJ _ _ this
  | succ i =>
    simp only[cq]at this ⊢;exact hA g g0 w k hpi SJ i _ this
 refine(h.2 g0 w vs hR0 (by simpa[hl k]using hlen) lg).mono ?_;rintro e w' ⟨out,g',σ',kV,hE,hO,r0,qB,τ,rfl,rfl,SI,Nn⟩;have hfr:∀ c,c<w.heap.size->c≠b->w'.heap[c]? = w.heap[c]?:=fun c hc hne=>hE.frame c hc (fun t=>hne ((XV c).1 t));obtain⟨aeh,XA,b',us',hb',aei,ahQ,ack,_⟩:=kV.ok 0 _ rfl
 have nW:b'=b:=by
  have:=(hE.mono.ver 0 (by show 0<1;omega)).2 aeh;rw[hb']at this;simpa[g0]using this.1
 subst nW
 let g2:aJ:= { g with fL:=fun c=>g.fL c\/(w.heap.size<=c/\c<w'.heap.size) }
 have aej:∀ c,g'.fL c->g2.fL c:=fun c hc=>by
  by_cases hlt:c<w.heap.size
  ·rcases hE.y7 c hlt hc with h3|h3
   ·exact .inl h3
   ·exfalso;have:=(XV c).1 h3;subst this;exact kV.sL 0 c ⟨_,rfl,rfl⟩ hb' hc
  ·exact .inr ⟨by omega,kV.lt c hc⟩
 have hm:kK g w g2 w':=⟨fun c hc=>⟨.inl hc,hfr c (hR.lt c hc) (fun e=>DQ (e ▸ hc))⟩,Nat.le_refl _,fun _ _=>⟨Nat.le_refl _,fun _=>⟨rfl,rfl,rfl⟩⟩⟩
 have ahs:¬ g2.fL b':=fun hh=>by
  rcases hh with hh|hh
  ·exact DQ hh
  ·omega
 have Vk:∀ {x y:AV},View (.dead:: τ) x y-> ∀ {v:Value},VR g' w' x v->VR g2 w' y v:=fun {x y} age {v} ZK=>by
  have hRd:Rel g' w' (.dead:: τ):=by
   have hlen:=kV.len;refine⟨by simpa using hlen,kV.lt,fun l o ho=>?_,fun l l' c hl hl'=>?_,fun l c hl=>?_,kV.glob⟩
   ·cases l with
    | zero=>simp at ho;subst ho;trivial
    | succ l=>exact kV.ok (l+1) o (by simpa using ho)
   ·have lift : ∀ l, Live (.dead :: τ) l -> Live (.cells qB :: τ) l := fun l hl => by
     obtain⟨o,ho,hv⟩:=hl;cases l with
     | zero=>simp at ho;subst ho;cases hv
     | succ l=>exact⟨o,by simpa using ho,hv⟩
    exact kV.inj l l' c (lift l hl) (lift l' hl')
   ·obtain⟨o,ho,hv⟩:=hl;cases l with
    | zero=>simp at ho;subst ho;cases hv
    | succ l=>exact kV.sL (l+1) c ⟨o,by simpa using ho,hv⟩
  refine age.vr hRd aej (fun c hc=>?_) ZK;obtain⟨l,⟨o,ho,hv⟩,hc⟩:=hc;cases l with
  | zero=>simp at ho;subst ho;cases hv
  | succ l =>
    have nX:Live (.cells qB:: τ) (l+1):=⟨o,by simpa using ho,hv⟩;refine .inr ⟨?_,kV.kL nX hc⟩;apply Nat.le_of_not_lt;intro hlt;have:=(XV c).1 (hE.J6 c hlt ⟨_,nX,hc⟩);subst this;have:=kV.inj (l+1) 0 c nX ⟨_,rfl,rfl⟩ hc hb';omega
 have hds:qB.length=ds.length:=Nn.1
 have hR2:Rel g2 w' (σ.set k (.cells ds)):=by
  refine⟨by simp[g2,hR.len],fun c hc=>?_,fun l o ho=>?_,fun l l' c hl hl'=>?_,fun l c hl hc hi=>?_,hR.glob.mono hm.fL⟩
  ·rcases hc with hc|hc
   ·exact dL (hR.lt c hc) hE.size
   ·exact hc.2
  ·by_cases hlk:l=k
   ·subst hlk;rw[x9 hk]at ho;cases ho;refine⟨Cn,?_,b',us',hb,aei,by omega,fun i hi=>Vk (Nn.2 i (by omega)) (ack i (by omega)),trivial⟩;rw[aX]at XA ⊢;intro x hx;obtain⟨i,hi,rfl⟩:=bz hx;have h1:=(Nn.2 i (by omega)).scalar;rw[aj,aj,aN hi,aN (by omega:i<qB.length)]at h1;rw[bA,bA]at h1;rw[h1];exact XA _ (cU _)
   ·rw[List.getElem?_set_ne (Ne.symm hlk)]at ho;have hl:l<g.n:=by rw[<-hR.len];exact(aP.1 ho).1
    by_cases hvv:o.live=true
    ·exact(hR.ok l o ho).step hm hl rfl (fun c hc=>hfr c (hR.kL ⟨o,ho,hvv⟩ hc) (fun e=>hlk (hR.inj l k c ⟨o,ho,hvv⟩ jQ hc (e ▸ hb))))
    ·cases o<;>simp[aZ.live]at hvv;trivial
  ·have lift : ∀ l, Live (σ.set k (.cells ds)) l -> Live σ l := fun l hl => by
    rcases kM hl with⟨rfl,_,_⟩|⟨_,hl⟩
    ·exact jQ
    ·exact hl
   exact hR.inj l l' c (lift l hl) (lift l' hl')
  ·have hl' : Live σ l := by
    rcases kM hl with⟨rfl,_,_⟩|⟨_,hl⟩
    ·exact jQ
    ·exact hl
   rcases hi with hi|hi
   ·exact hR.sL l c hl' hc hi
   ·have:=hR.kL hl' hc;omega
 refine⟨.ret r,g2,_,hR2,⟨hm,hE.size,hE.os,hE.tape,hE.output,fun c hc ht=>?_,fun c hc hi=>?_,fun c hc ht=>?_⟩,?_,rfl,rfl⟩
 ·exact hfr c hc (fun e=>ht ⟨k,jQ,e ▸ hb⟩)
 ·rcases hi with hi|hi
  ·exact .inl hi
  ·omega
 ·obtain⟨l,hl,hc2⟩:=ht;rcases kM hl with⟨rfl,_,_⟩|⟨_,hl⟩
  ·exact⟨_,jQ,hc2⟩
  ·exact⟨l,hl,hc2⟩
 ·cases e with
  | returned v=>exact Vk SI hO
  | panicked c=>exact hO.elim
  | outgrown=>exact hO.elim
def c_.gj {f : FuncId} {off : Nat} {args cs ds : List AV} {r : AV}
    (h:cR P f (.ref 0 off::args) [.cells cs] fun o σ'=> ∃ r0 qB τ,o = .ret r0/\σ' = .cells qB:: τ/\View (.dead:: τ) r0 r/\bS (.dead:: τ) qB ds) (hp:AV.cB args=true) (hc:AV.cB cs=true) :
    c_ P f off args cs ds r:=c_.Vj (A:=fun _=>args) (fun _=>rfl) h (fun _ _ _ _ hpi _ i _ hv=>hv.dF hpi (jh hp i)) hc
def Np(P:Program)(f:FuncId)(cs ds:List AV)(r:AV)(F:FuncId): Prop :=
 ∀(σ : ae) (k:Nat),σ[k]? = some (.cells cs)->cR P f [.ref k 0,.fn (.func F) [.ref k 0] []] σ fun o σ'=>o = .ret r/\σ' = σ.set k (.cells ds)
def Np.gj {f F : FuncId} {cs ds : List AV} {r : AV}
    (h:cR P f [.ref 0 0,.fn (.func F) [.ref 0 0] []] [.cells cs] fun o σ'=> ∃ r0 qB τ,o = .ret r0/\σ' = .cells qB:: τ/\View (.dead:: τ) r0 r/\bS (.dead:: τ) qB ds) (hc:AV.cB cs=true):Np P f cs ds r F:=by
 refine c_.Vj (A:=fun k=>[.fn (.func F) [.ref k 0] []]) (fun _=>rfl) h (fun g g0 w k hpi SJ i v hv=>?_) hc;cases i with
 | succ i=>exact hv.dF hpi rfl
 | zero =>
   cases hv with
   | fn f' first cap first' cap' hl hl' h1 h2 =>
     refine .fn _ _ _ _ _ hl hl' (fun i hi=>?_) (fun i hi=>absurd hi (cG _));cases i with
     | zero=>exact SJ _ _ (h1 0 (Nat.zero_lt_one))
     | succ i=>simp at hi
section
variable {n:FuncId} {args:List AV} {σ : ae} {K Kp:AV->ae->Prop} {r:AV}
def DY(h:aM P n args r)(hk:kR r (.mk:Tg fun r=>K r σ)): qj P n args σ (.mk:Tg (K,Kp)):=Q7 h hk
def DZ(h:aM P n args r)(hk:kR r (.mk:Tg fun r=>K r σ)): Aj P n args σ (.mk:Tg (K,Kp)):=Q8 h hk
def aaw{args':List AV}(h:aM P n args' r)(hv:bS [] args args')(hk:kR r (.mk:Tg fun r=>K r σ)): qj P n args σ (.mk:Tg (K,Kp)):=Q7 (aM.weak h hv) hk
def aax{args':List AV}(h:aM P n args' r)(hv:bS [] args args')(hk:kR r (.mk:Tg fun r=>K r σ)): Aj P n args σ (.mk:Tg (K,Kp)):=Q8 (aM.weak h hv) hk
def qo{args':List AV}(h:aM P n args' r)(hv:bS σ args args')(hr:r.flat=true)(hk:kR r (.mk:Tg fun r=>K r σ)): qj P n args σ (.mk:Tg (K,Kp)) :=
 (aM.view h hv hr).mono fun o s ⟨h1,h2⟩=>by subst h1;subst h2;exact hk
def aay{args':List AV}(h:aM P n args' r)(hv:bS σ args args')(hr:r.flat=true)(hk:kR r (.mk:Tg fun r=>K r σ)): Aj P n args σ (.mk:Tg (K,Kp)) :=
 ⟨r, fun τ => aM.view h ⟨hv.1, fun i hi => (hv.2 i hi).mono (fun l o hl => by
   rw[aH (aP.1 hl).1];exact hl)⟩ hr,hk⟩
def agf {k : Nat} {F : FuncId} {cs ds : List AV} (h : Np P n cs ds r F) (zd : σ[k]? = some (.cells cs)) (hk : kR r (.mk : Tg fun r => Af (σ.set k (.cells ds)) (.mk : Tg fun σ => K r σ))) :
    qj P n [.ref k 0,.fn (.func F) [.ref k 0] []] σ (.mk:Tg (K,Kp)) :=
 (h σ k zd).mono fun o s ⟨h1,h2⟩=>by subst h1;subst h2;exact hk
def I5 {k off : Nat} {cs ds : List AV} (h : c_ P n off args cs ds r) (zd : σ[k]? = some (.cells cs)) (hk : kR r (.mk : Tg fun r => Af (σ.set k (.cells ds)) (.mk : Tg fun σ => K r σ))) :
    qj P n (.ref k off::args) σ (.mk:Tg (K,Kp)) :=
 (h σ k zd).mono fun o s ⟨h1,h2⟩=>by subst h1;subst h2;exact hk
def Am(P:Program)(f:FuncId)(args:List AV)(o:Out): Prop:= ∀ s,cR P f args s fun o' s'=>o'=o/\s'=s
def Am.ret{f:FuncId}{args:List AV}{r:AV}(h:aM P f args r): Am P f args (.ret r):=h
def Am.weak{f:FuncId}{args args':List AV}{o:Out}(h:Am P f args' o)(hv:bS [] args args'): Am P f args o:=by
 intro σ;refine⟨(h []).1,fun g w vs hR hlen hvs=>?_⟩;refine((h σ).2 g w vs hR (hv.1 ▸ hlen) (fun i hi=>?_));refine View.vr (σ:=[]) (g:=aJ.bare g.fL) (g':=g) (Rel.bare hR.lt ⟨hR.glob.1,hR.glob.2⟩) (fun b hb=>hb) (fun b hb=>absurd hb jB) (hv.2 i (hv.1 ▸ hi)) ?_;exact View.Vi (hv.2 i (hv.1 ▸ hi)) (hvs i (hv.1 ▸ hi))
end
def Am.of_nil{f:FuncId}{args:List AV}{v:AV}(h:cR P f args [] fun o _=>o = .panic v)(hp:AV.cB args=true)(hv:v.flat=true): Am P f args (.panic v):=by
 intro σ;refine⟨h.1,fun g w vs hR hlen hvs=>?_⟩;refine(h.2 (aJ.bare g.fL) w vs (Rel.bare hR.lt ⟨hR.glob.1,hR.glob.2⟩) hlen (fun i hi=>VR.dF (g:=g) (g':=aJ.bare g.fL) (fun b hb=>⟨hb,rfl⟩) (hvs i hi) (jh hp i))).mono ?_;rintro e w' ⟨out,g',σ',kV,hE,hO,rfl⟩;have hfr:∀ b,b<w.heap.size->w'.heap[b]? = w.heap[b]?:=fun b hb=>hE.frame b hb jB;obtain⟨h1,h2⟩:=hR.s6 hE.size hE.os hE.tape hE.output hfr;refine⟨.panic v,_,σ,h1,h2,?_,rfl,rfl⟩;cases e with
 | returned v=>exact hO.elim
 | panicked c=>obtain⟨v',hc,hr⟩:=hO;exact⟨v',hc,VR.flat hr hv⟩
 | outgrown=>exact hO.elim
