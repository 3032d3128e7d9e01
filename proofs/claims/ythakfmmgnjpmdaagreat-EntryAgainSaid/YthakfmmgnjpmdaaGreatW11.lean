/- Part. -/
import Derived.Test.YthakfmmgnjpmdaaGreatW10
set_option linter.all false
namespace Go.AM
variable {P:Program}
mutual
def AV.cQ: AV->Bool
 | .own .. | .ref .. | .fR .. | .mp _ | .tZ _ | .wY ..=>false
 | .agg cs=>AV.bG cs
 | .bJ cs=>AV.bG cs
 | .aG _ _ xs=>AV.bG xs
 | .eL _ x _=>AV.cQ x
 | .fn _ a b=>AV.bG a && AV.bG b
 | .k8 _ v=>AV.cQ v
 | .undef | .bool _ | .int .. | .str _ | .ai | .p7 | .si | .mF | .j4 | .pM=>true
def AV.bG: List AV->Bool
 | []=>true
 | a::az=>AV.cQ a && AV.bG az
end
def qd{l:List AV}: AV.bG l=true↔ ∀ a ∈ l,a.cQ=true:=by
 induction l with
 | nil=>simp[AV.bG]
 | cons a l ih=>simp[AV.bG,ih]
def jx{l:List AV}(h:AV.bG l=true)(i:Nat): (l.getD i .undef).cQ=true:=by
 rw[aB];by_cases hi:i<l.length
 ·rw[aE hi];exact qd.1 h _ (eW hi)
 ·rw[fQ (h_ hi)];rfl
def gk{α : Type}(f : α->AV)(l:List α)(h:∀ a,(f a).cQ=true): AV.bG (l.map f)=true:=by
 rw[qd];intro a ha;obtain⟨x,_,rfl⟩:=eZ.1 ha;exact h x
def GZ{a:AV}(h:a.cQ=true)(c:Nat): (a.cell c).cQ=true:=by
 cases a<;>first|exact h|exact jx h c
def VR.cQ{g g':aM}{w w':World}(hi:∀ b,g.fM b->g'.fM b/\w'.heap[b]? = w.heap[b]?){a:AV}{v:Value}(h:VR g w a v): a.cQ=true->VR g' w' a v:=by
 induction h with
 | undef v=>exact fun _=> .undef v
 | bool b=>exact fun _=> .bool b
 | int k n=>exact fun _=> .int k n
 | str s=>exact fun _=> .str s
 | agg cs vs hl hs _ ih=>exact fun hp=> .agg cs vs hl hs (fun i h=>ih i h (jx hp i))
 | bJ cs vs hl _ ih=>exact fun hp=> .bJ cs vs hl (fun i h=>ih i h (jx hp i))
 | ai=>exact fun _=> .ai
 | lO f el b cap hf=>exact fun _=> .lO f el b cap hf
 | aG f el xs b off cap hb hf hx ft hc _ ih =>
   intro hp;obtain⟨hi',he⟩:=hi b hb;refine .aG f el xs b off cap hi' hf hx ft (fun i c h1 h2=>?_) (fun i c h1 h2=>?_)
   ·rw[nk he];exact hc i c h1 h2
   ·rw[rS he];exact ih i c h1 h2 (GZ (jx hp i) c)
 | own el l m lo n v h=>exact fun hp=>by cases hp
 | ref l off v h=>exact fun hp=>by cases hp
 | eL el x off b o hb ft hc _ ih =>
   intro hp;obtain⟨hi',he⟩:=hi b hb;refine .eL el x off b o hi' ft (fun c h2=>?_) (fun c h2=>?_)
   ·rw[nk he];exact hc c h2
   ·rw[rS he];exact ih c h2 (GZ (a:=x) hp c)
 | fR el l m i off v h=>exact fun hp=>by cases hp
 | p7=>exact fun _=> .p7
 | si=>exact fun _=> .si
 | mF=>exact fun _=> .mF
 | fn f first cap first' cap' hl hl' _ _ ih mX =>
   intro hp;simp only[AV.cQ,aC]at hp;exact .fn f first cap first' cap' hl hl' (fun i h=>ih i h (jx hp.1 i)) (fun i h=>mX i h (jx hp.2 i))
 | k8 t a v _ ih=>exact fun hp=> .k8 t a v (ih hp)
 | j4=>exact fun _=> .j4
 | pM v h=>exact fun _=> .pM v h
 | mp l v h=>exact fun hp=>by cases hp
 | tZ l v h=>exact fun hp=>by cases hp
 | wY el l off n v h=>exact fun hp=>by cases hp
mutual
def AV.flat: AV->Bool
 | .agg cs=>AV.yD cs
 | .bJ cs=>AV.yD cs
 | .undef | .bool _ | .int .. | .str _ | .ai | .p7 | .si | .mF | .j4 | .pM=>true
 | .aG _ _ []=>true
 | .k8 _ a=>AV.flat a
 | _=>false
def AV.yD: List AV->Bool
 | []=>true
 | a::az=>AV.flat a && AV.yD az
end
def IL{l:List AV}(h:AV.yD l=true)(i:Nat): (l.getD i .undef).flat=true:=by
 induction l generalizing i with
 | nil=>simp[AV.flat]
 | cons a l ih =>
   simp only[AV.yD,aC]at h;cases i with
   | zero=>simpa using h.1
   | succ i=>simpa using ih h.2 i
def VR.flat{g g':aM}{w w':World}{a:AV}{v:Value}(h:VR g w a v): a.flat=true->VR g' w' a v:=by
 induction h with
 | undef v=>exact fun _=> .undef v
 | bool b=>exact fun _=> .bool b
 | int k n=>exact fun _=> .int k n
 | str s=>exact fun _=> .str s
 | agg cs vs hl hs _ ih=>exact fun hp=> .agg cs vs hl hs (fun i h=>ih i h (IL hp i))
 | bJ cs vs hl _ ih=>exact fun hp=> .bJ cs vs hl (fun i h=>ih i h (IL hp i))
 | ai=>exact fun _=> .ai
 | lO f el b cap hf=>exact fun _=> .lO f el b cap hf
 | aG f el xs b off cap hb hf hx ft hc _ ih =>
   intro hp;cases xs with
   | nil=>exact .lO f el _ cap hf
   | cons x xs=>simp[AV.flat]at hp
 | p7=>exact fun _=> .p7
 | si=>exact fun _=> .si
 | mF=>exact fun _=> .mF
 | j4=>exact fun _=> .j4
 | pM v h=>exact fun _=> .pM v h
 | k8 t a v _ ih=>exact fun hp=> .k8 t a v (ih hp)
 | own|ref|eL|fR|fn|mp|tZ|wY=>exact fun hp=>by simp[AV.flat]at hp
inductive View (σ : ae):AV->AV->Prop where
 | refl (a:AV) (h:a.cQ=true):View σ a a
 | ai (el:El):View σ .ai (.aG false el [])
 | weak (f:Bool) (el:El) (xs:List AV) (h:AV.bG xs=true):View σ (.aG f el xs) (.aG false el xs)
 | aG (f:Bool) (el:El) (xs ys:List AV) (hl:xs.length=ys.length) (h:∀ i,i<xs.length->View σ (xs.getD i .undef) (ys.getD i .undef)):View σ (.aG f el xs) (.aG false el ys)
 | own (T : Option TypeId) (el : El) (l lo n : Nat) (xs ys : List AV) (hl : σ[l]? = some (.dW T el xs)) (hy : ys.length = n) (hn : lo + n <= xs.length)
    (h:∀ i,i<n->View σ (xs.getD (lo+i) .undef) (ys.getD i .undef)):View σ (.own el l xs.length lo n) (.aG false el ys)
 | agg (cs ds:List AV) (hl:cs.length=ds.length) (h:∀ i,i<cs.length->View σ (cs.getD i .undef) (ds.getD i .undef)):View σ (.agg cs) (.agg ds)
 | bJ (cs ds:List AV) (hl:cs.length=ds.length) (h:∀ i,i<cs.length->View σ (cs.getD i .undef) (ds.getD i .undef)):View σ (.bJ cs) (.bJ ds)
 | cell (l:Nat) (v:AV) (hl : σ[l]? = some (.cells [v])) (hs:v.fits ⟨false,1⟩=true) (hp:v.cQ=true):View σ (.ref l 0) (.eL ⟨false,1⟩ v 0)
 | cells (l n:Nat) (cs:List AV) (hl : σ[l]? = some (.cells cs)) (hn:cs.length=n) (hp:AV.bG cs=true):View σ (.ref l 0) (.eL ⟨true,n⟩ (.agg cs) 0)
 | pM (a:AV) (l:Nat) (o:bE) (hl : σ[l]? = some o) (ho:o.live=true) (h:a.scalar=true):View σ a .pM
 | xm (l n:Nat) (cs ds:List AV) (hl : σ[l]? = some (.cells cs)) (hn:cs.length=n) (hd:cs.length=ds.length) (h:∀ i,i<cs.length->View σ (cs.getD i .undef) (ds.getD i .undef)):View σ (.ref l 0) (.eL ⟨true,n⟩ (.agg ds) 0)
 | fn (f : Fn) (az bs cs ds : List AV) (hl : az.length = bs.length) (h : ∀ i, i < az.length -> View σ (az.getD i .undef) (bs.getD i .undef))
    (hl':cs.length=ds.length) (h':∀ i,i<cs.length->View σ (cs.getD i .undef) (ds.getD i .undef)):View σ (.fn f az cs) (.fn f bs ds)
def bn(σ : ae)(cs ds:List AV): Prop:=cs.length=ds.length/\ ∀ i,i<cs.length->View σ (cs.getD i .undef) (ds.getD i .undef)
def bn.nil(σ : ae): bn σ [] []:=⟨rfl,fun _ h=>absurd h (dY _)⟩
def bn.cons{σ : ae}{a b:AV}{cs ds:List AV}(h:View σ a b)(hs:bn σ cs ds): bn σ (a::cs) (b::ds) :=
 ⟨by simp [hs.1], fun i hi => by
   cases i with
   | zero=>simpa using h
   | succ i=>simpa using hs.2 i (by simpa using hi)⟩
def bn.refl{σ : ae}{cs:List AV}(h:AV.bG cs=true): bn σ cs cs:=⟨rfl,fun i _=> .refl _ (jx h i)⟩
def View.n9{σ : ae}{cs ds:List AV}(h:bn σ cs ds): View σ (.agg cs) (.agg ds):= .agg cs ds h.1 h.2
def View.af1{σ : ae}{cs ds:List AV}(h:bn σ cs ds): View σ (.bJ cs) (.bJ ds):= .bJ cs ds h.1 h.2
def View.Ky{σ : ae}{f:Bool}{el:El}{xs ys:List AV}(h:bn σ xs ys): View σ (.aG f el xs) (.aG false el ys):= .aG f el xs ys h.1 h.2
def View.fnL{σ : ae}{f:Fn}{az bs cs ds:List AV}(h:bn σ az bs)(h':bn σ cs ds): View σ (.fn f az cs) (.fn f bs ds):= .fn f az bs cs ds h.1 h.2 h'.1 h'.2
def View.vec{σ : ae}{T:Option TypeId}{el:El}{l m n:Nat}{xs:List AV}(hl : σ[l]? = some (.dW T el xs))(hm:m=xs.length)(hn:n=xs.length)(h:AV.bG xs=true): View σ (.own el l m 0 n) (.aG false el xs):=by
 subst hm;subst hn;exact .own T el l 0 xs.length xs xs hl rfl (by omega) (fun i _=>by rw[cE];exact .refl _ (jx h i))
def View.scalar{σ : ae}{a b:AV}(h:View σ a b): b.scalar=a.scalar:=by
 cases h<;>first|rfl|skip
 case pM=>rename_i h;exact h.symm
def View.fits{σ : ae}{a b:AV}(h:View σ a b)(el:El)(hf:a.fits el=true): b.fits el=true:=by
 cases h with
 | agg cs ds hl h =>
   simp only[AV.fits,aC,bg,beq_iff_eq]at hf ⊢;refine⟨⟨hf.1.1,by rw[<-hl];exact hf.1.2⟩,fun x hx=>?_⟩;obtain⟨i,hi,rfl⟩:=bT hx;have h1:=(h i (by omega)).scalar;rw[aB,aB,aE hi,aE (by omega:i<cs.length)]at h1;rw[bC,bC]at h1;rw[h1];exact hf.2 _ (eW _)
 | refl=>exact hf
 | ai=>exact hf
 | weak=>exact hf
 | aG=>exact hf
 | own=>exact hf
 | bJ=>exact hf
 | cell=>exact hf
 | cells=>exact hf
 | xm=>exact hf
 | pM _ l o hl ho h=>cases a<;>first|exact hf|(simp[AV.scalar]at h;done)
 | fn=>exact hf
def View.mono{σ σ':ae}(hs:∀ (l:Nat) o,σ[l]? = some o->σ'[l]? = some o){a b:AV}(h:View σ a b): View σ' a b:=by
 induction h with
 | refl a h=>exact .refl a h
 | ai el=>exact .ai el
 | weak f el xs h=>exact .weak f el xs h
 | aG f el xs ys hl _ ih=>exact .aG f el xs ys hl ih
 | own T el l lo n xs ys hl hy hn _ ih=>exact .own T el l lo n xs ys (hs _ _ hl) hy hn ih
 | agg cs ds hl _ ih=>exact .agg cs ds hl ih
 | bJ cs ds hl _ ih=>exact .bJ cs ds hl ih
 | cell l v hl h hp=>exact .cell l v (hs _ _ hl) h hp
 | cells l n cs hl hn hp=>exact .cells l n cs (hs _ _ hl) hn hp
 | xm l n cs ds hl hn hd h ih=>exact .xm l n cs ds (hs _ _ hl) hn hd ih
 | pM a l o hl ho h=>exact .pM a l o (hs _ _ hl) ho h
 | fn f az bs cs ds hl _ hl' _ ih mX=>exact .fn f az bs cs ds hl ih hl' mX
def G0 {g g' : aM} {w : World} {σ : ae} {x y : AV} {el : El} (ih : ∀ u, VR g w x u -> VR g' w y u) (h : View σ x y) (hf : x.fits el = true) (u : Nat -> Value)
    (hu:∀ k,k<el.sz->VR g w (x.cell k) (u k)) (c:Nat) (hc:c<el.sz):VR g' w (y.cell c) (u c):=by
 by_cases hx:∃ cs,x = .agg cs
 ·obtain⟨cs,rfl⟩:=hx;simp only[AV.fits,aC,beq_iff_eq]at hf
  have h1:VR g w (.agg cs) (.agg (Array.ofFn fun i:Fin cs.length=>u i)):=by
   refine .agg cs _ (by simp) hf.2 (fun i hi=>?_);have:=hu i (by omega);simpa[hi,AV.cell]using this
  have h2:=ih _ h1;generalize hq:y=q at h2
  have:∃ ds,q = .agg ds:=by
   subst hq;cases h with
   | refl=>exact⟨_,rfl⟩
   | agg _ ds=>exact⟨ds,rfl⟩
   | pM _ _ _ _ _ h=>simp[AV.scalar]at h
  obtain⟨ds,rfl⟩:=this;cases h2 with
  | agg _ vs hl hs hh =>
    simp only[Array.size_ofFn]at hl;have:=hh c (by omega);have ic:c<cs.length:=by omega
    simpa[ic,AV.cell]using this
 ·have e1:x.cell c=x:=by cases x<;>first|rfl|exact absurd ⟨_,rfl⟩ hx
  have e2:y.cell c=y:=by
   cases h<;>first|rfl|(exact absurd ⟨_,rfl⟩ hx)|exact e1
  rw[e2];have:=hu c hc;rw[e1]at this;exact ih _ this
def View.vr {g g' : aM} {w : World} {σ : ae} (hR : Rel g w σ) (hi : ∀ b, g.fM b -> g'.fM b) (ht : ∀ b, nn σ g b -> g'.fM b) {a b : AV} (hv : View σ a b) :
    ∀ {v:Value},VR g w a v->VR g' w b v:=by
 have Io:∀ b,g.fM b->g'.fM b/\w.heap[b]? = w.heap[b]?:=fun b hb=>⟨hi b hb,rfl⟩
 induction hv with
 | refl a h=>exact fun hr=>hr.cQ Io h
 | ai el=>intro v hr;cases hr;exact .lO false el none 0 (fun h=>by cases h)
 | weak f el xs h =>
   intro v hr;cases hr with
   | lO f el b cap hf=>exact .lO false el b cap (fun h=>by cases h)
   | aG f el xs b off cap hb hf hx ft hc hh =>
     exact .aG false el xs b off cap (hi b hb) (fun h=>by cases h) hx ft hc (fun i c h1 h2=>(hh i c h1 h2).cQ Io (GZ (jx h i) c))
 | aG f el xs ys hl h ih =>
   intro v hr;cases hr with
   | lO f el b cap hf =>
     have:ys=[]:=List.length_eq_zero_iff.1 hl.symm;subst this;exact .lO false el b cap (fun h=>by cases h)
   | aG f el xs b off cap hb hf hx ft hc hh =>
     rw[hl];refine .aG false el ys b off cap (hi b hb) (fun h=>by cases h) (hl ▸ hx) (fun i h1=>(h i (hl ▸ h1)).fits el (ft i (hl ▸ h1))) (fun i c h1 h2=>hc i c (hl ▸ h1) h2) (fun i c h1 h2=>?_);exact G0 (fun u=>ih i (hl ▸ h1)) (h i (hl ▸ h1)) (ft i (hl ▸ h1)) (fun k=>eT w ⟨b,off+(i*el.sz+k),none⟩) (fun k hk=>hh i k (hl ▸ h1) hk) c h2
 | own T el l lo n xs ys hl hy hn h ih =>
   intro v hr;cases hr with
   | own _ _ _ _ _ _ hO =>
     obtain⟨_,_,A,cap,rfl,h4⟩:=hO;obtain⟨kp,vg,hrow⟩:=hR.ok l _ hl;by_cases SR:n=0
     ·subst SR;have:ys=[]:=List.length_eq_zero_iff.1 hy;subst this;exact .lO false el A cap (fun h=>by cases h)
     rcases hrow with⟨hx,_,_⟩|⟨b,vs,hb,hrow,hsz,hle,hc,_⟩
     ·subst hx;simp at hn;omega
     obtain⟨_,h6,h7⟩:=h4 kp.symm;have hlt:lo<g.cap l:=by omega
     have hA:=h7 hlt;rw[hb]at hA;simp only[fJ]at hA;subst hA
     have hidx:∀ i c,i<n->c<el.sz->g.off l+(lo+i)*el.sz+c<vs.size:=fun i c h1 h2=>by
      rw[hsz];have:(lo+i)*el.sz+el.sz<=g.cap l*el.sz:=by rw[<-ei];exact bL _ (by omega)
      omega
     have hoff:∀ i c,g.off l+lo*el.sz+(i*el.sz+c)=g.off l+(lo+i)*el.sz+c:=fun i c=>by rw[ep];omega
     subst hy;refine .aG false el ys b (g.off l+lo*el.sz) cap (ht b ⟨l,⟨_,hl,rfl⟩,hb⟩) (fun h=>by cases h) (by omega) (fun i h1=>?_) (fun i c h1 h2=>?_) (fun i c h1 h2=>?_)
     ·exact(h i h1).fits el (vg (lo+i) (by omega))
     ·rw[hoff,hrow.cell (hidx i c h1 h2)];rfl
     ·rw[hoff]
      have e1:eT w ⟨b,g.off l+(lo+i)*el.sz+c,none⟩=vs.getD (g.off l+(lo+i)*el.sz+c) Go.undef:=by
       simp only[eT,hrow.cell (hidx i c h1 h2),bC]
      rw[e1];exact G0 (fun u=>ih i h1) (h i h1) (vg (lo+i) (by omega)) (fun k=>vs.getD (g.off l+(lo+i)*el.sz+k) Go.undef) (fun k hk=>hc (lo+i) k (by omega) hk) c h2
 | agg cs ds hl h ih =>
   intro v hr;cases hr with
   | agg _ vs hl' hs hh =>
     refine .agg ds vs (by omega) ?_ (fun i h1=>ih i (by omega) (hh i (by omega)));rw[bg]at hs ⊢;intro x hx;obtain⟨i,hi',rfl⟩:=bT hx;have h1:=(h i (by omega)).scalar;rw[aB,aB,aE hi',aE (by omega:i<cs.length)]at h1;rw[bC,bC]at h1;rw[h1];exact hs _ (eW _)
 | bJ cs ds hl h ih =>
   intro v hr;cases hr with
   | bJ _ vs hl' hh=>exact .bJ ds vs (by omega) (fun i h1=>ih i (by omega) (hh i (by omega)))
 | cell l x hl hs hp =>
   intro v hr;cases hr with
   | ref _ _ _ hO =>
     obtain⟨_,A,rfl,h2⟩:=hO;obtain⟨kp,_,b,vs,hb,hrow,hsz,hc,_⟩:=hR.ok l _ hl;obtain⟨h3,h4⟩:=h2 kp;rw[hb]at h3;cases h3;rw[h4];have h5:(0:Nat)<vs.size:=by simpa using Nat.lt_of_lt_of_eq Nat.zero_lt_one hsz.symm
     have hcell:=hrow.cell h5;have hx:=hc 0 (by simp);simp only[dn]at hx;refine .eL ⟨false,1⟩ x 0 A.block 0 (ht _ ⟨l,⟨_,hl,rfl⟩,hb⟩) hs (fun c h1=>?_) (fun c h1=>?_)
     ·have:c=0:=by have:c<1:=h1;omega
      subst this;rw[cE,hcell];rfl
     ·have:c=0:=by have:c<1:=h1;omega
      subst this;have e1:x.cell 0=x:=by cases x<;>first|rfl|simp[AV.fits]at hs
      simp only[cE,eT,hcell,bC,e1];exact hx.cQ Io hp
 | cells l n cs hl hn hp =>
   intro v hr;cases hr with
   | ref _ _ _ hO =>
     obtain⟨_,A,rfl,h2⟩:=hO;obtain⟨kp,hsc,b,vs,hb,hrow,hsz,hc,_⟩:=hR.ok l _ hl;obtain⟨h3,h4⟩:=h2 kp;rw[hb]at h3;cases h3;rw[h4];refine .eL ⟨true,n⟩ (.agg cs) 0 A.block 0 (ht _ ⟨l,⟨_,hl,rfl⟩,hb⟩) (by simp[AV.fits,hn];simpa using hsc) (fun c h1=>?_) (fun c h1=>?_)
     ·have h1:c<n:=h1;rw[cE,hrow.cell (by omega)];rfl
     ·have h1:c<n:=h1;simp only[cE,eT,hrow.cell (show c<vs.size by omega),bC];exact(hc c (by omega)).cQ Io (jx hp c)
 | pM a l o hl ho h=>intro v hr;exact .pM v (hr.E9 h)
 | xm l n cs ds hl hn hd h ih =>
   intro v hr;cases hr with
   | ref _ _ _ hO =>
     obtain⟨_,A,rfl,h2⟩:=hO;obtain⟨kp,hsc,b,vs,hb,hrow,hsz,hc,_⟩:=hR.ok l _ hl;obtain⟨h3,h4⟩:=h2 kp;rw[hb]at h3;cases h3;rw[h4];refine .eL ⟨true,n⟩ (.agg ds) 0 A.block 0 (ht _ ⟨l,⟨_,hl,rfl⟩,hb⟩) ?_ (fun c h1=>?_) (fun c h1=>?_)
     ·simp only[AV.fits,dG,aC,beq_iff_eq];refine⟨by omega,bg.2 fun x hx=>?_⟩;obtain⟨i,hi,rfl⟩:=bT hx;have:=(h i (by omega)).scalar;rw[aB,aB,aE hi,aE (by omega:i<cs.length)]at this;rw[bC,bC]at this;rw[this];exact bg.1 hsc _ (eW _)
     ·have h1:c<n:=h1;rw[cE,hrow.cell (by omega)];rfl
     ·have h1:c<n:=h1;simp only[cE,eT,hrow.cell (show c<vs.size by omega),bC];exact ih c (by omega) (hc c (by omega))
 | fn f az bs cs ds hl h hl' h' ih mX =>
   intro v hr;cases hr with
   | fn _ _ _ first' cap' k1 k2 k3 k4=>exact .fn f bs ds first' cap' (by omega) (by omega) (fun i h1=>ih i (by omega) (k3 i (by omega))) (fun i h1=>mX i (by omega) (k4 i (by omega)))
def aF(P:Program)(f:FuncId)(args:List AV)(r:AV): Prop:= ∀ σ,yp P f args σ r
def iF{g:aM}{b:Nat}: ¬ nn [] g b:=fun⟨_,⟨_,h,_⟩,_⟩=>by simp at h
def aM.vi(g:aM)(lo hi:Nat): aM:= { g with fM:=fun b=>g.fM b\/(lo<=b/\b<hi) }
def Rel.vi {g : aM} {w w' : World} {σ : ae} (h : Rel g w σ) (hsz : w.heap.size <= w'.heap.size) (hos : w'.os = w.os) (AW : w'.tape = w.tape) (hout : w'.output = w.output)
    (hf:∀ b,b<w.heap.size->w'.heap[b]? = w.heap[b]?):Rel (g.vi w.heap.size w'.heap.size) w' σ/\fN σ g w σ (g.vi w.heap.size w'.heap.size) w':=by
 have hm:lu g w (g.vi w.heap.size w'.heap.size) w':=⟨fun b hb=>⟨.inl hb,hf b (h.lt b hb)⟩,Nat.le_refl _,fun _ _=>⟨Nat.le_refl _,fun _=>⟨rfl,rfl,rfl⟩⟩⟩;refine⟨⟨h.len,fun b hb=>?_,fun l o ho=>?_,h.inj,fun l b hl hb hi=>?_,h.glob.mono hm.fM⟩,⟨hm,hsz,hos,AW,hout,fun b hb _=>hf b hb,fun b hb hi=>?_,fun b _ ht=>ht⟩⟩
 ·rcases hb with hb|hb
  ·exact dz (h.lt b hb) hsz
  ·exact hb.2
 ·have hl:l<g.n:=by rw[<-h.len];exact(aQ.1 ho).1
  by_cases hv:o.live=true
  ·exact(h.ok l o ho).step hm hl rfl (fun b hb=>hf b (h.j6 ⟨o,ho,hv⟩ hb))
  ·cases o<;>simp[bE.live]at hv;trivial
 ·rcases hi with hi|hi
  ·exact h.u5 l b hl hb hi
  ·have:=h.j6 hl hb;omega
 ·rcases hi with hi|hi
  ·exact .inl hi
  ·omega
def aM.bare(I:Nat->Prop): aM:=⟨I,0,fun _=>0,fun _=>none,fun _=>0,fun _=>0⟩
def Rel.bare{I:Nat->Prop}{w:World}(h:∀ b,I b->b<w.heap.size)(hg:AU (aM.bare I) w): Rel (aM.bare I) w [] :=
 ⟨rfl,h,fun _ _ h=>by simp at h,fun _ _ _ ⟨_,h,_⟩=>by simp at h,fun _ _ ⟨_,h,_⟩=>by simp at h,hg⟩
def aF.On{f:FuncId}{args:List AV}{r:AV}(h:eU P f args [] fun o σ'=> ∃ r0,o = .ret r0/\View σ' r0 r)(hp:AV.bG args=true): aF P f args r:=by
 intro σ;refine⟨h.1,fun g w vs hR hlen hv=>?_⟩;refine(h.2 (aM.bare g.fM) w vs (Rel.bare hR.lt ⟨hR.glob.1,hR.glob.2⟩) hlen (fun i hi=>VR.cQ (g:=g) (g':=aM.bare g.fM) (fun b hb=>⟨hb,rfl⟩) (hv i hi) (jx hp i))).mono ?_;rintro e w' ⟨out,g',σ',nX,hE,hO,r0,rfl,IP⟩;have hfr:∀ b,b<w.heap.size->w'.heap[b]? = w.heap[b]?:=fun b hb=>hE.frame b hb iF;obtain⟨h1,h2⟩:=hR.vi hE.size hE.os hE.tape hE.output hfr;refine⟨.ret r,_,σ,h1,h2,?_,rfl,rfl⟩;cases e with
 | returned v =>
   refine IP.vr nX (fun b hb=>?_) (fun b hb=>?_) hO
   ·by_cases hlt:b<w.heap.size
    ·rcases hE.w5 b hlt hb with h3|h3
     ·exact .inl h3
     ·exact absurd h3 iF
    ·exact .inr ⟨by omega,nX.lt b hb⟩
   ·by_cases hlt:b<w.heap.size
    ·exact absurd (hE.LN b hlt hb) iF
    ·exact .inr ⟨by omega,nX.H8 hb⟩
 | panicked c=>exact hO.elim
 | outgrown=>exact hO.elim
def aF.view{f:FuncId}{args args':List AV}{r:AV}{σ : ae}(h:aF P f args' r)(hv:bn σ args args')(hr:r.flat=true): yp P f args σ r:=by
 refine⟨(h []).1,fun g w vs hR hlen hvs=>?_⟩
 let I:Nat->Prop:=fun b=>g.fM b\/nn σ g b
 have hlt:∀ b,I b->b<w.heap.size:=fun b hb=>by
  rcases hb with hb|hb
  ·exact hR.lt b hb
  ·exact hR.H8 hb
 refine((h []).2 (aM.bare I) w vs (Rel.bare hlt ⟨fun b hb=> .inl (hR.glob.1 b hb),hR.glob.2⟩) (hv.1 ▸ hlen) (fun i hi=>?_)).mono ?_
 ·exact(hv.2 i (hv.1 ▸ hi)).vr (g':=aM.bare I) hR (fun b hb=> .inl hb) (fun b hb=> .inr hb) (hvs i (hv.1 ▸ hi))
 rintro e w' ⟨out,g',σ',nX,hE,hO,rfl,rfl⟩;have hfr:∀ b,b<w.heap.size->w'.heap[b]? = w.heap[b]?:=fun b hb=>hE.frame b hb iF;obtain⟨h1,h2⟩:=hR.vi hE.size hE.os hE.tape hE.output hfr;refine⟨.ret r,_,σ,h1,h2,?_,rfl,rfl⟩;cases e with
 | returned v=>exact VR.flat (a:=r) hO hr
 | panicked c=>exact hO.elim
 | outgrown=>exact hO.elim
inductive s_ (σ : ae):AV->AV->Prop where
 | flat (a:AV) (h:a.flat=true):s_ σ a a
 | own (T : Option TypeId) (el : El) (l lo n : Nat) (xs ys : List AV) (hl : σ[l]? = some (.dW T el xs)) (hy : ys.length = n) (hn : lo + n <= xs.length)
    (h:∀ i,i<n->s_ σ (xs.getD (lo+i) .undef) (ys.getD i .undef)):s_ σ (.own el l xs.length lo n) (.aG false el ys)
 | agg (cs ds:List AV) (hl:cs.length=ds.length) (h:∀ i,i<cs.length->s_ σ (cs.getD i .undef) (ds.getD i .undef)):s_ σ (.agg cs) (.agg ds)
 | bJ (cs ds:List AV) (hl:cs.length=ds.length) (h:∀ i,i<cs.length->s_ σ (cs.getD i .undef) (ds.getD i .undef)):s_ σ (.bJ cs) (.bJ ds)
mutual
def AV.G1: ∀(a:AV),a.flat=true->a.cQ=true
 | .agg cs,h=>AV.Dz cs h
 | .bJ cs,h=>AV.Dz cs h
 | .undef,_ | .bool _,_ | .int ..,_ | .str _,_ | .ai,_ | .p7,_ | .si,_ | .mF,_ | .j4,_ | .pM,_=>rfl
 | .aG _ _ [],_=>rfl
 | .k8 _ a,h=>AV.G1 a h
 | .aG _ _ (_::_),h | .own ..,h | .ref ..,h | .eL ..,h | .fR ..,h | .fn ..,h | .mp _,h | .tZ _,h | .wY ..,h=>by simp[AV.flat]at h
def AV.Dz: ∀(l:List AV),AV.yD l=true->AV.bG l=true
 | [],_=>rfl
 | a :: l, h => by
   simp only[AV.yD,aC]at h;simp only[AV.bG,aC];exact⟨AV.G1 a h.1,AV.Dz l h.2⟩
end
def s_.view{σ : ae}{a b:AV}(h:s_ σ a b): View σ a b:=by
 induction h with
 | flat a h=>exact .refl a (AV.G1 a h)
 | own T el l lo n xs ys hl hy hn _ ih=>exact .own T el l lo n xs ys hl hy hn ih
 | agg cs ds hl _ ih=>exact .agg cs ds hl ih
 | bJ cs ds hl _ ih=>exact .bJ cs ds hl ih
def s_.vr{g g':aM}{w:World}{σ : ae}(hR:Rel g w σ)(ht:∀ b,nn σ g b->g'.fM b){a b:AV}(hv:s_ σ a b): ∀ {v:Value},VR g w a v->VR g' w b v:=by
 induction hv with
 | flat a h=>exact fun hr=>hr.flat h
 | own T el l lo n xs ys hl hy hn h ih =>
   intro v hr;cases hr with
   | own _ _ _ _ _ _ hO =>
     obtain⟨_,_,A,cap,rfl,h4⟩:=hO;obtain⟨kp,vg,hrow⟩:=hR.ok l _ hl;by_cases SR:n=0
     ·subst SR;have:ys=[]:=List.length_eq_zero_iff.1 hy;subst this;exact .lO false el A cap (fun h=>by cases h)
     rcases hrow with⟨hx,_,_⟩|⟨b,vs,hb,hrow,hsz,hle,hc,_⟩
     ·subst hx;simp at hn;omega
     obtain⟨_,h6,h7⟩:=h4 kp.symm;have hlt:lo<g.cap l:=by omega
     have hA:=h7 hlt;rw[hb]at hA;simp only[fJ]at hA;subst hA
     have hidx:∀ i c,i<n->c<el.sz->g.off l+(lo+i)*el.sz+c<vs.size:=fun i c h1 h2=>by
      rw[hsz];have:(lo+i)*el.sz+el.sz<=g.cap l*el.sz:=by rw[<-ei];exact bL _ (by omega)
      omega
     have hoff:∀ i c,g.off l+lo*el.sz+(i*el.sz+c)=g.off l+(lo+i)*el.sz+c:=fun i c=>by rw[ep];omega
     subst hy;refine .aG false el ys b (g.off l+lo*el.sz) cap (ht b ⟨l,⟨_,hl,rfl⟩,hb⟩) (fun h=>by cases h) (by omega) (fun i h1=>?_) (fun i c h1 h2=>?_) (fun i c h1 h2=>?_)
     ·exact(h i h1).view.fits el (vg (lo+i) (by omega))
     ·rw[hoff,hrow.cell (hidx i c h1 h2)];rfl
     ·rw[hoff]
      have e1:eT w ⟨b,g.off l+(lo+i)*el.sz+c,none⟩=vs.getD (g.off l+(lo+i)*el.sz+c) Go.undef:=by
       simp only[eT,hrow.cell (hidx i c h1 h2),bC]
      rw[e1];exact G0 (fun u=>ih i h1) (h i h1).view (vg (lo+i) (by omega)) (fun k=>vs.getD (g.off l+(lo+i)*el.sz+k) Go.undef) (fun k hk=>hc (lo+i) k (by omega) hk) c h2
 | agg cs ds hl h ih =>
   intro v hr;cases hr with
   | agg _ vs hl' hs hh =>
     refine .agg ds vs (by omega) ?_ (fun i h1=>ih i (by omega) (hh i (by omega)));rw[bg]at hs ⊢;intro x hx;obtain⟨i,hi',rfl⟩:=bT hx;have h1:=(h i (by omega)).view.scalar;rw[aB,aB,aE hi',aE (by omega:i<cs.length)]at h1;rw[bC,bC]at h1;rw[h1];exact hs _ (eW _)
 | bJ cs ds hl h ih =>
   intro v hr;cases hr with
   | bJ _ vs hl' hh=>exact .bJ ds vs (by omega) (fun i h1=>ih i (by omega) (hh i (by omega)))
def View.af2{a b:AV}(h:View [] a b): a.cQ=true:=by
 induction h with
 | refl a h=>exact h
 | ai=>rfl
 | weak f el xs h=>exact h
 | aG f el xs ys hl h ih =>
   refine qd.2 fun x hx=>?_;obtain⟨i,hi,rfl⟩:=bT hx;have:=ih i hi;rwa[aB,aE hi,bC]at this
 | own T el l lo n xs ys hl=>simp at hl
 | agg cs ds hl h ih =>
   refine qd.2 fun x hx=>?_;obtain⟨i,hi,rfl⟩:=bT hx;have:=ih i hi;rwa[aB,aE hi,bC]at this
 | bJ cs ds hl h ih =>
   refine qd.2 fun x hx=>?_;obtain⟨i,hi,rfl⟩:=bT hx;have:=ih i hi;rwa[aB,aE hi,bC]at this
 | cell l v hl=>simp at hl
 | cells l n cs hl=>simp at hl
 | xm l n cs ds hl=>simp at hl
 | pM a l o hl=>simp at hl
 | fn f az bs cs ds hl h hl' h' ih mX =>
   simp only[AV.cQ,aC];refine⟨qd.2 fun x hx=>?_,qd.2 fun x hx=>?_⟩
   ·obtain⟨i,hi,rfl⟩:=bT hx;have:=ih i hi;rwa[aB,aE hi,bC]at this
   ·obtain⟨i,hi,rfl⟩:=bT hx;have:=mX i hi;rwa[aB,aE hi,bC]at this
def View.WN{g:aM}{w:World}{a b:AV}(h:View [] a b){v:Value}(hv:VR g w a v): VR (aM.bare g.fM) w a v:=VR.cQ (g:=g) (g':=aM.bare g.fM) (fun _ hb=>⟨hb,rfl⟩) hv h.af2
def aF.weak{f:FuncId}{args args':List AV}{r:AV}(h:aF P f args' r)(hv:bn [] args args'): aF P f args r:=by
 intro σ;refine⟨(h []).1,fun g w vs hR hlen hvs=>?_⟩;refine((h σ).2 g w vs hR (hv.1 ▸ hlen) (fun i hi=>?_));refine View.vr (σ:=[]) (g:=aM.bare g.fM) (g':=g) (Rel.bare hR.lt ⟨hR.glob.1,hR.glob.2⟩) (fun b hb=>hb) (fun b hb=>absurd hb iF) (hv.2 i (hv.1 ▸ hi)) ?_;exact View.WN (hv.2 i (hv.1 ▸ hi)) (hvs i (hv.1 ▸ hi))
end Go.AM
namespace Go.AM
variable {P:Program}
def br(P:Program)(f:FuncId)(off:Nat)(args:List AV)(cs ds:List AV)(r:AV): Prop :=
 ∀(σ : ae) (k:Nat),σ[k]? = some (.cells cs)->eU P f (.ref k off::args) σ fun o σ'=>o = .ret r/\σ' = σ.set k (.cells ds)
def td{σ : ae}{k:Nat}{o o':bE}(h : σ[k]? = some o): (σ.set k o')[k]? = some o':=by
 have:=(aQ.1 h).1;simp[this]
def br.WO {f : FuncId} {off : Nat} {A : Nat -> List AV} {cs ds : List AV} {r : AV} (hl : ∀ k, (A k).length = (A 0).length)
    (h:eU P f (.ref 0 off::A 0) [.cells cs] fun o σ'=> ∃ r0 n6 τ,o = .ret r0/\σ' = .cells n6:: τ/\View (.dead:: τ) r0 r/\bn (.dead:: τ) n6 ds)
    (hA:∀ (g g0:aM) (w:World) (k:Nat),(∀ c,g.fM c->g0.fM c/\w.heap[c]? = w.heap[c]?)->(∀ o v,VR g w (.ref k o) v->VR g0 w (.ref 0 o) v)-> ∀ i v,VR g w ((A k).getD i .undef) v->VR g0 w ((A 0).getD i .undef) v) (hc:AV.bG cs=true) :
    ∀(σ : ae) (k:Nat),σ[k]? = some (.cells cs)->eU P f (.ref k off::A k) σ fun o σ'=>o = .ret r/\σ' = σ.set k (.cells ds):=by
 intro σ k hk;refine⟨h.1,fun g w vs hR hlen hv=>?_⟩;have hkn:k<g.n:=by rw[<-hR.len];exact(aQ.1 hk).1
 have mR:Live σ k:=⟨_,hk,rfl⟩;obtain⟨acG,hsc,b,us,hb,hrow,hus,hcell,_⟩:=hR.ok k _ hk
 let g0:aM:=⟨g.fM,1,fun _=>1,fun _=>some b,fun _=>g.cap k,fun _=>g.off k⟩
 have ahH:b<w.heap.size:=hrow.lt;have Ux:¬ g.fM b:=hR.u5 k b mR hb;have hpi:∀ c,g.fM c->g0.fM c/\w.heap[c]? = w.heap[c]?:=fun c hc=>⟨hc,rfl⟩
 have hR0:Rel g0 w [.cells cs]:=by
  refine⟨rfl,hR.lt,fun l o ho=>?_,fun l l' c hl hl' _ _=>?_,fun l c hl hc=>?_,⟨hR.glob.1,hR.glob.2⟩⟩
  ·cases l with
   | zero =>
     simp at ho;subst ho;exact⟨rfl,hsc,b,us,rfl,hrow,hus,fun i hi=>(hcell i hi).cQ hpi (jx hc i),trivial⟩
   | succ l=>simp at ho
  ·have h1:=hl.lt;have h2:=hl'.lt;simp at h1 h2;omega
  ·have:c=b:=by simpa[g0]using hc.symm
   subst this;exact Ux
 have YW:∀ c,nn [.cells cs] g0 c↔c=b:=fun c=>by
  constructor
  ·rintro⟨l,_,hc⟩;simpa[g0]using hc.symm
  ·rintro rfl;exact⟨0,⟨_,rfl,rfl⟩,rfl⟩
 have Uy:∀ o v,VR g w (.ref k o) v->VR g0 w (.ref 0 o) v:=fun o v this=>by
  cases this with
  | ref _ _ _ hh =>
    obtain⟨_,A,e,h2⟩:=hh;refine .ref _ _ _ ⟨⟨Nat.zero_lt_one,Nat.le_refl _⟩,A,e,fun _=>?_⟩;have:=h2 acG;rw[hb]at this;exact this
 have kp:∀ i,i<(AV.ref 0 off::A 0).length->VR g0 w ((AV.ref 0 off::A 0).getD i .undef) (vs.getD i Go.undef):=fun i hi=>by
  have:=hv i (by simpa[hl k]using hi);cases i with
  | zero =>
    simp only[dn]at this ⊢;exact Uy _ _ this
  | succ i =>
    simp only[jd]at this ⊢;exact hA g g0 w k hpi Uy i _ this
 refine(h.2 g0 w vs hR0 (by simpa[hl k]using hlen) kp).mono ?_;rintro e w' ⟨out,g',σ',nX,hE,hO,r0,n6,τ,rfl,rfl,IP,Pa⟩;have hfr:∀ c,c<w.heap.size->c≠b->w'.heap[c]? = w.heap[c]?:=fun c hc hne=>hE.frame c hc (fun t=>hne ((YW c).1 t));obtain⟨aek,YE,b',us',hb',ael,ahI,acH,_⟩:=nX.ok 0 _ rfl
 have hbb:b'=b:=by
  have:=(hE.mono.ver 0 (by show 0<1;omega)).2 aek;rw[hb']at this;simpa[g0]using this.1
 subst hbb
 let g2:aM:= { g with fM:=fun c=>g.fM c\/(w.heap.size<=c/\c<w'.heap.size) }
 have aem:∀ c,g'.fM c->g2.fM c:=fun c hc=>by
  by_cases hlt:c<w.heap.size
  ·rcases hE.w5 c hlt hc with h3|h3
   ·exact .inl h3
   ·exfalso;have:=(YW c).1 h3;subst this;exact nX.u5 0 c ⟨_,rfl,rfl⟩ hb' hc
  ·exact .inr ⟨by omega,nX.lt c hc⟩
 have hm:lu g w g2 w':=⟨fun c hc=>⟨.inl hc,hfr c (hR.lt c hc) (fun e=>Ux (e ▸ hc))⟩,Nat.le_refl _,fun _ _=>⟨Nat.le_refl _,fun _=>⟨rfl,rfl,rfl⟩⟩⟩
 have ahm:¬ g2.fM b':=fun hh=>by
  rcases hh with hh|hh
  ·exact Ux hh
  ·omega
 have WQ:∀ {x y:AV},View (.dead:: τ) x y-> ∀ {v:Value},VR g' w' x v->VR g2 w' y v:=fun {x y} af3 {v} hxv=>by
  have hRd:Rel g' w' (.dead:: τ):=by
   have hlen:=nX.len;refine⟨by simpa using hlen,nX.lt,fun l o ho=>?_,fun l l' c hl hl'=>?_,fun l c hl=>?_,nX.glob⟩
   ·cases l with
    | zero=>simp at ho;subst ho;trivial
    | succ l=>exact nX.ok (l+1) o (by simpa using ho)
   ·have lift : ∀ l, Live (.dead :: τ) l -> Live (.cells n6 :: τ) l := fun l hl => by
     obtain⟨o,ho,hv⟩:=hl;cases l with
     | zero=>simp at ho;subst ho;cases hv
     | succ l=>exact⟨o,by simpa using ho,hv⟩
    exact nX.inj l l' c (lift l hl) (lift l' hl')
   ·obtain⟨o,ho,hv⟩:=hl;cases l with
    | zero=>simp at ho;subst ho;cases hv
    | succ l=>exact nX.u5 (l+1) c ⟨o,by simpa using ho,hv⟩
  refine af3.vr hRd aem (fun c hc=>?_) hxv;obtain⟨l,⟨o,ho,hv⟩,hc⟩:=hc;cases l with
  | zero=>simp at ho;subst ho;cases hv
  | succ l =>
    have FW:Live (.cells n6:: τ) (l+1):=⟨o,by simpa using ho,hv⟩;refine .inr ⟨?_,nX.j6 FW hc⟩;apply h_;intro hlt;have:=(YW c).1 (hE.LN c hlt ⟨_,FW,hc⟩);subst this;have:=nX.inj (l+1) 0 c FW ⟨_,rfl,rfl⟩ hc hb';omega
 have hds:n6.length=ds.length:=Pa.1
 have Cn:Rel g2 w' (σ.set k (.cells ds)):=by
  refine⟨by simp[g2,hR.len],fun c hc=>?_,fun l o ho=>?_,fun l l' c hl hl'=>?_,fun l c hl hc hi=>?_,hR.glob.mono hm.fM⟩
  ·rcases hc with hc|hc
   ·exact dz (hR.lt c hc) hE.size
   ·exact hc.2
  ·by_cases hlk:l=k
   ·subst hlk;rw[td hk]at ho;cases ho;refine⟨acG,?_,b',us',hb,ael,by omega,fun i hi=>WQ (Pa.2 i (by omega)) (acH i (by omega)),trivial⟩;rw[bg]at YE ⊢;intro x hx;obtain⟨i,hi,rfl⟩:=bT hx;have h1:=(Pa.2 i (by omega)).scalar;rw[aB,aB,aE hi,aE (by omega:i<n6.length)]at h1;rw[bC,bC]at h1;rw[h1];exact YE _ (eW _)
   ·rw[bP (Ne.symm hlk)]at ho;have hl:l<g.n:=by rw[<-hR.len];exact(aQ.1 ho).1
    by_cases hvv:o.live=true
    ·exact(hR.ok l o ho).step hm hl rfl (fun c hc=>hfr c (hR.j6 ⟨o,ho,hvv⟩ hc) (fun e=>hlk (hR.inj l k c ⟨o,ho,hvv⟩ mR hc (e ▸ hb))))
    ·cases o<;>simp[bE.live]at hvv;trivial
  ·have lift : ∀ l, Live (σ.set k (.cells ds)) l -> Live σ l := fun l hl => by
    rcases mG hl with⟨rfl,_,_⟩|⟨_,hl⟩
    ·exact mR
    ·exact hl
   exact hR.inj l l' c (lift l hl) (lift l' hl')
  ·have hl' : Live σ l := by
    rcases mG hl with⟨rfl,_,_⟩|⟨_,hl⟩
    ·exact mR
    ·exact hl
   rcases hi with hi|hi
   ·exact hR.u5 l c hl' hc hi
   ·have:=hR.j6 hl' hc;omega
 refine⟨.ret r,g2,_,Cn,⟨hm,hE.size,hE.os,hE.tape,hE.output,fun c hc ht=>?_,fun c hc hi=>?_,fun c hc ht=>?_⟩,?_,rfl,rfl⟩
 ·exact hfr c hc (fun e=>ht ⟨k,mR,e ▸ hb⟩)
 ·rcases hi with hi|hi
  ·exact .inl hi
  ·omega
 ·obtain⟨l,hl,hc2⟩:=ht;rcases mG hl with⟨rfl,_,_⟩|⟨_,hl⟩
  ·exact⟨_,mR,hc2⟩
  ·exact⟨l,hl,hc2⟩
 ·cases e with
  | returned v=>exact WQ IP hO
  | panicked c=>exact hO.elim
  | outgrown=>exact hO.elim
def br.bM {f : FuncId} {off : Nat} {args cs ds : List AV} {r : AV}
    (h:eU P f (.ref 0 off::args) [.cells cs] fun o σ'=> ∃ r0 n6 τ,o = .ret r0/\σ' = .cells n6:: τ/\View (.dead:: τ) r0 r/\bn (.dead:: τ) n6 ds) (hp:AV.bG args=true) (hc:AV.bG cs=true) :
    br P f off args cs ds r:=br.WO (A:=fun _=>args) (fun _=>rfl) h (fun _ _ _ _ hpi _ i _ hv=>hv.cQ hpi (jx hp i)) hc
def xn(P:Program)(f:FuncId)(cs ds:List AV)(r:AV)(F:FuncId): Prop :=
 ∀(σ : ae) (k:Nat),σ[k]? = some (.cells cs)->eU P f [.ref k 0,.fn (.func F) [.ref k 0] []] σ fun o σ'=>o = .ret r/\σ' = σ.set k (.cells ds)
def xn.bM {f F : FuncId} {cs ds : List AV} {r : AV}
    (h:eU P f [.ref 0 0,.fn (.func F) [.ref 0 0] []] [.cells cs] fun o σ'=> ∃ r0 n6 τ,o = .ret r0/\σ' = .cells n6:: τ/\View (.dead:: τ) r0 r/\bn (.dead:: τ) n6 ds) (hc:AV.bG cs=true):xn P f cs ds r F:=by
 refine br.WO (A:=fun k=>[.fn (.func F) [.ref k 0] []]) (fun _=>rfl) h (fun g g0 w k hpi Uy i v hv=>?_) hc;cases i with
 | succ i=>exact hv.cQ hpi rfl
 | zero =>
   cases hv with
   | fn f' first cap first' cap' hl hl' h1 h2 =>
     refine .fn _ _ _ _ _ hl hl' (fun i hi=>?_) (fun i hi=>absurd hi (dY _));cases i with
     | zero=>exact Uy _ _ (h1 0 (Nat.zero_lt_one))
     | succ i=>simp at hi
section
variable {n:FuncId} {args:List AV} {σ : ae} {K Kp:AV->ae->Prop} {r:AV}
def uw(h:aF P n args r)(hk:jX r (.mk:Tg fun r=>K r σ)): pP P n args σ (.mk:Tg (K,Kp)):=S4 h hk
def wT(h:aF P n args r)(hk:jX r (.mk:Tg fun r=>K r σ)): Bf P n args σ (.mk:Tg (K,Kp)):=S5 h hk
def aa3{args':List AV}(h:aF P n args' r)(hv:bn [] args args')(hk:jX r (.mk:Tg fun r=>K r σ)): pP P n args σ (.mk:Tg (K,Kp)):=S4 (aF.weak h hv) hk
def aa4{args':List AV}(h:aF P n args' r)(hv:bn [] args args')(hk:jX r (.mk:Tg fun r=>K r σ)): Bf P n args σ (.mk:Tg (K,Kp)):=S5 (aF.weak h hv) hk
def Kz{args':List AV}(h:aF P n args' r)(hv:bn σ args args')(hr:r.flat=true)(hk:jX r (.mk:Tg fun r=>K r σ)): pP P n args σ (.mk:Tg (K,Kp)) :=
 (aF.view h hv hr).mono fun o s ⟨h1,h2⟩=>by subst h1;subst h2;exact hk
def aa5{args':List AV}(h:aF P n args' r)(hv:bn σ args args')(hr:r.flat=true)(hk:jX r (.mk:Tg fun r=>K r σ)): Bf P n args σ (.mk:Tg (K,Kp)) :=
 ⟨r, fun τ => aF.view h ⟨hv.1, fun i hi => (hv.2 i hi).mono (fun l o hl => by
   rw[aV (aQ.1 hl).1];exact hl)⟩ hr,hk⟩
def Pb {k : Nat} {F : FuncId} {cs ds : List AV} (h : xn P n cs ds r F) (gE : σ[k]? = some (.cells cs)) (hk : jX r (.mk : Tg fun r => uR (σ.set k (.cells ds)) (.mk : Tg fun σ => K r σ))) :
    pP P n [.ref k 0,.fn (.func F) [.ref k 0] []] σ (.mk:Tg (K,Kp)) :=
 (h σ k gE).mono fun o s ⟨h1,h2⟩=>by subst h1;subst h2;exact hk
def KA {k off : Nat} {cs ds : List AV} (h : br P n off args cs ds r) (gE : σ[k]? = some (.cells cs)) (hk : jX r (.mk : Tg fun r => uR (σ.set k (.cells ds)) (.mk : Tg fun σ => K r σ))) :
    pP P n (.ref k off::args) σ (.mk:Tg (K,Kp)) :=
 (h σ k gE).mono fun o s ⟨h1,h2⟩=>by subst h1;subst h2;exact hk
def cK(P:Program)(f:FuncId)(args:List AV)(o:Out): Prop:= ∀ s,eU P f args s fun o' s'=>o'=o/\s'=s
def cK.ret{f:FuncId}{args:List AV}{r:AV}(h:aF P f args r): cK P f args (.ret r):=h
def KB{n:FuncId}{args:List AV}{σ : ae}{K Kp:AV->ae->Prop}{v:AV}(h:cK P n args (.panic v))(hk:Kp v σ): pP P n args σ (.mk:Tg (K,Kp)) :=
 (h σ).mono fun o s ⟨h1,h2⟩=>by subst h1;subst h2;exact hk
def S7{n:FuncId}{args:List AV}{σ : ae}{K Kp:AV->ae->Prop}{r:AV}(h:aF P n args r)(hk:jX r (.mk:Tg fun r=>K r σ)): Om P n args σ (.mk:Tg (K,Kp)):=⟨.ret r,h,hk⟩
def cK.weak{f:FuncId}{args args':List AV}{o:Out}(h:cK P f args' o)(hv:bn [] args args'): cK P f args o:=by
 intro σ;refine⟨(h []).1,fun g w vs hR hlen hvs=>?_⟩;refine((h σ).2 g w vs hR (hv.1 ▸ hlen) (fun i hi=>?_));refine View.vr (σ:=[]) (g:=aM.bare g.fM) (g':=g) (Rel.bare hR.lt ⟨hR.glob.1,hR.glob.2⟩) (fun b hb=>hb) (fun b hb=>absurd hb iF) (hv.2 i (hv.1 ▸ hi)) ?_;exact View.WN (hv.2 i (hv.1 ▸ hi)) (hvs i (hv.1 ▸ hi))
def KC{n:FuncId}{args:List AV}{σ : ae}{K Kp:AV->ae->Prop}{v:AV}(h:cK P n args (.panic v))(hk:∀ s,Kp v s): Om P n args σ (.mk:Tg (K,Kp)):=⟨.panic v,h,hk⟩
end
def cK.of_nil{f:FuncId}{args:List AV}{v:AV}(h:eU P f args [] fun o _=>o = .panic v)(hp:AV.bG args=true)(hv:v.flat=true): cK P f args (.panic v):=by
 intro σ;refine⟨h.1,fun g w vs hR hlen hvs=>?_⟩;refine(h.2 (aM.bare g.fM) w vs (Rel.bare hR.lt ⟨hR.glob.1,hR.glob.2⟩) hlen (fun i hi=>VR.cQ (g:=g) (g':=aM.bare g.fM) (fun b hb=>⟨hb,rfl⟩) (hvs i hi) (jx hp i))).mono ?_;rintro e w' ⟨out,g',σ',nX,hE,hO,rfl⟩;have hfr:∀ b,b<w.heap.size->w'.heap[b]? = w.heap[b]?:=fun b hb=>hE.frame b hb iF;obtain⟨h1,h2⟩:=hR.vi hE.size hE.os hE.tape hE.output hfr;refine⟨.panic v,_,σ,h1,h2,?_,rfl,rfl⟩;cases e with
 | returned v=>exact hO.elim
 | panicked c=>obtain⟨v',hc,hr⟩:=hO;exact⟨v',hc,VR.flat hr hv⟩
 | outgrown=>exact hO.elim
def YX(σ : ae): Out->Out->Prop
 | .ret r0,.ret r=>View σ r0 r
 | .panic v,.panic u=>v=u
 | _,_=>False
def cK.fS{f:FuncId}{args:List AV}{o:Out}(h:eU P f args [] fun o' σ'=>YX σ' o' o)(hp:AV.bG args=true)(hf:∀ v,o = .panic v->v.flat=true): cK P f args o:=by
 cases o with
 | ret r =>
   refine aF.On (h.mono fun o' σ' h=>?_) hp;cases o' with
   | ret r0=>exact⟨r0,rfl,h⟩
   | panic v=>exact h.elim
 | panic v =>
   refine cK.of_nil (h.mono fun o' σ' h=>?_) hp (hf v rfl);cases o' with
   | ret r0=>exact h.elim
   | panic u=>exact congrArg Out.panic h
