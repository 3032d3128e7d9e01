/- Part. -/
import Derived.Test.YtmbgnaoilncbnaaGreatDoorX10
set_option linter.all false
namespace Go.AM
variable {P:Program}
def Ta(ms:List Nat)(r e:Env): Env:=fun t=>if ms.contains t then r t else e t
def w_: List (Nat × AV)->Env->Env
 | [],e=>e
 |(d,v)::l,e=>fC (w_ l e) (some d) v
@[go_sem ↓] def acS (e:Env):w_ [] e=e:=_root_.id rfl
@[go_sem ↓] def abw (d:Nat) (v:AV) (l:List (Nat × AV)) (e:Env):w_ ((d,v)::l) e=fC (w_ l e) (some d) v:=_root_.id rfl
@[go_sem ↓] def akP (ms:List Nat) (r e:Env) (t:Nat):Ta ms r e t=PI (ms.contains t) (.mk:Tg (r t,e t)):=_root_.id rfl
def Kj(ms:List Nat)(e e':Env): Prop:= ∀ t,ms.contains t=false->e' t=e t
def aem(ms:List Nat)(r e:Env): Kj ms e (Ta ms r e):=fun t h=>by simp only[Ta,h];rfl
def aen{ms:List Nat}{e e':Env}{d:Nat}{v:AV}(hd:ms.contains d=true)(h:Kj ms e e'): Kj ms e (fC e' (some d) v):=fun t ht=>by
 simp only[fC];split
 ·rename_i e1;subst e1;rw[hd]at ht;cases ht
 ·exact h t ht
def At(l:List (Nat × AV))(e:Env): Prop:= ∀ p ∈ l,e p.1=p.2
@[go_sem] def dm (e:Env):At [] e=True:=by simp[At]
@[go_sem] def cK (d:Nat) (v:AV) (l:List (Nat × AV)) (e:Env):At ((d,v)::l) e=(e d=v/\At l e):=by simp[At]
def YN{ms:List Nat}{e e':Env}(ho:Kj ms e e'): ∀(l:List (Nat × AV)),At l e'->w_ l (Ta ms e' e)=e'
 | [], _ => by
   funext t
   simp only[w_,Ta];split
   ·rfl
   ·rename_i h;exact(ho t (by simpa using h)).symm
 | (d, v) :: l, h => by
   simp only[w_];rw[YN ho l (fun p hp=>h p (cZ _ hp))];exact yQ (h (d,v) (by simp))
def rK{Q Q':AQ}(h:∀ ex e σ,Q ex e σ->Q' ex e σ): ∀(l:List c_) (e:Env) (σ : aj),fc P Q l e σ->fc P Q' l e σ
 | [],e,σ,hh=>h _ _ _ hh
 |⟨o,d,none⟩::r,e,σ,hh=>Cy (fun v s=>rK h r _ _) (fun v s=>h _ _ _) hh
 | ⟨o, d, some (k, b)⟩ :: r, e, σ, hh => by
   simp only[fc]at hh ⊢;split at hh
   ·exact⟨fun ht=>Cy (fun v s=>rK h r _ _) (fun v s=>h _ _ _) (hh.1 ht),fun ht=>rK h r _ _ (hh.2 ht)⟩
   ·exact rK h r _ _ hh
   ·exact hh
def PJ{K K':Env->aj->Prop}{Q Q':AQ}(hk:∀ e σ,K e σ->K' e σ)(h:∀ ex e σ,Q ex e σ->Q' ex e σ): ∀ ex e σ,w8 K Q ex e σ->w8 K' Q' ex e σ
 | .normal,_,_=>hk _ _
 | .exit _,_,_=>h _ _ _
 | .goto _,_,_=>h _ _ _
 | .ret,_,_=>h _ _ _
 | .panic _,_,_=>h _ _ _
def abx{nt:Nat}{ps:List Nat}{f:AV}{a b:AQ->Env->aj->Prop}{Q Q':AQ}(h:∀ ex e σ,Q ex e σ->Q' ex e σ)(e:Env)(σ : aj): RF P nt ps f a b Q e σ->RF P nt ps f a b Q' e σ:=by
 unfold RF;split
 ·refine fun hh o ho hy=>(hh o ho hy).mono fun out s hq=>?_;cases out with
  | ret r =>
    obtain⟨st,pe,h1,h2,h3⟩:=hq;refine⟨st,pe,h1,h2,?_⟩;split at h3<;>first|exact h _ _ _ h3|exact h3
  | panic v=>exact h _ _ _ hq
 ·exact id
def Hu{c:aI}: ∀ {Q Q':AQ},(∀ ex e σ,Q ex e σ->Q' ex e σ)-> ∀(e:Env) (σ : aj),iH P c Q e σ->iH P c Q' e σ:=by
 induction c with
 | skip=>exact fun h e σ=>h _ _ _
 | region ops=>exact fun h e σ=>rK h ops e σ
 | draw ops lY=>exact fun h e σ=>rK (fun ex e σ hq=>by cases ex<;>first|exact⟨hq.1,h _ _ _ hq.2⟩|exact h _ _ _ hq) ops e σ
 | seq a b Vv Vw=>exact fun h e σ=>Vv (PJ (fun e σ=>Vw h e σ) h) e σ
 | cond c a b Vv Vw =>
   intro Q Q' h e σ hh;simp only[iH]at hh ⊢;split at hh
   ·exact⟨fun ht=>Vv h _ _ (hh.1 ht),fun ht=>Vw h _ _ (hh.2 ht)⟩
   ·exact hh
 | block id c ih =>
   intro Q Q' h e σ;refine ih (fun ex e σ hq=>?_) e σ;cases ex<;>try exact h _ _ _ hq
   simp only[uV]at hq ⊢;split at hq
   ·rename_i e1;rw[if_pos e1];exact h _ _ _ hq
   ·rename_i e1;rw[if_neg e1];exact h _ _ _ hq
 | loop c ih =>
   rintro Q Q' h e σ ⟨I,hI,hr⟩;exact⟨I,hI,fun n e σ hi=>ih (PJ (fun _ _ h=>h) h) _ _ (hr n e σ hi)⟩
 | exit id=>exact fun h e σ=>h _ _ _
 | ret=>exact fun h e σ=>h _ _ _
 | scope l c r CM ihr =>
   rintro Q Q' h e σ ⟨J,h1,h2⟩
   have hj:∀ (J:Env->aj->Prop) ex e σ,tU l J Q ex e σ->tU l J Q' ex e σ:=fun J ex e σ hq=>by
    cases ex<;>first|exact h _ _ _ hq|exact hq
   exact⟨J,CM (hj _) _ _ h1,fun n e σ hi=>ihr (hj _) _ _ (h2 n e σ hi)⟩
 | stop=>exact fun h e σ hh=>hh
 | jG f nt ps a b _ _=>exact fun h e σ=>abx h e σ
 | label l=>exact fun h e σ=>h _ _ _
 | goto l=>exact fun h e σ=>h _ _ _
def afC{α : Type}(ms:List Nat)(cs : α->List (Nat × AV))(S : α->aj)(A : α->Prop)(μ : α->Nat)(e:Env)(x : α)(e':Env)(σ':aj): Prop :=
 ∃ x',A x'/\ μ x' < μ x/\σ'=S x'/\Kj ms e e'/\At (cs x') e'
def bn {c : aI} {Q : AQ} {e : Env} {σ : aj} {α : Type} (ms : List Nat) (cs : α -> List (Nat × AV)) (S : α -> aj) (A : α -> Prop) (μ : α -> Nat) (x0 : α) (h0 : A x0) (qT : σ = S x0) (o_ : At (cs x0) e)
    (hr:∀ x r,A x->iH P c (w8 (afC ms cs S A μ e x) Q) (w_ (cs x) (Ta ms r e)) (S x)):ad5 P (.mk:Tg (c,Q,e,σ)):=by
 refine⟨fun n e' σ'=> ∃ x,A x/\Kj ms e e'/\At (cs x) e'/\σ'=S x/\ μ x=n,⟨_,x0,h0,fun _ _=>rfl,o_,qT,rfl⟩,?_⟩;rintro n e' σ' ⟨x1,a1,o1,t1,rfl,rfl⟩;have h:=hr x1 e' a1;rw[YN o1 _ t1]at h;refine Hu (fun ex e2 σ2 hq=>?_) _ _ h;cases ex<;>try exact hq
 obtain⟨x',a',hm,hs,ho,ht⟩:=hq;exact⟨_,hm,x',a',ho,ht,hs,rfl⟩
end Go.AM
namespace Go.AM
variable {P:Program}
mutual
def AV.dn: AV->Bool
 | .own .. | .ref .. | .fg .. | .mp _ | .ux _=>false
 | .agg cs=>AV.cy cs
 | .bX cs=>AV.cy cs
 | .aK _ _ xs=>AV.cy xs
 | .fR _ x _=>AV.dn x
 | .fn _ a b=>AV.cy a && AV.cy b
 | .qc _ v=>AV.dn v
 | .undef | .bool _ | .int .. | .str _ | .ae | .iN | .wU | .nS | .wV=>true
def AV.cy: List AV->Bool
 | []=>true
 | a::az=>AV.dn a && AV.cy az
end
def sL{l:List AV}: AV.cy l=true↔ ∀ a ∈ l,a.dn=true:=by
 induction l with
 | nil=>simp[AV.cy]
 | cons a l ih=>simp[AV.cy,ih]
def jW{l:List AV}(h:AV.cy l=true)(i:Nat): (l.getD i .undef).dn=true:=by
 rw[aE];by_cases hi:i<l.length
 ·rw[aQ hi];exact sL.1 h _ (fY hi)
 ·rw[List.getElem?_eq_none (Nat.le_of_not_lt hi)];rfl
def gZ{α : Type}(f : α->AV)(l:List α)(h:∀ a,(f a).dn=true): AV.cy (l.map f)=true:=by
 rw[sL];intro a ha;obtain⟨x,_,rfl⟩:=ek.1 ha;exact h x
def N7{a:AV}(h:a.dn=true)(c:Nat): (a.cell c).dn=true:=by
 cases a<;>first|exact h|exact jW h c
def VR.dn{g g':aO}{w w':World}(hi:∀ b,g.gi b->g'.gi b/\w'.heap[b]? = w.heap[b]?){a:AV}{v:Value}(h:VR g w a v): a.dn=true->VR g' w' a v:=by
 induction h with
 | undef v=>exact fun _=> .undef v
 | bool b=>exact fun _=> .bool b
 | int k n=>exact fun _=> .int k n
 | str s=>exact fun _=> .str s
 | agg cs vs hl hs _ ih=>exact fun hp=> .agg cs vs hl hs (fun i h=>ih i h (jW hp i))
 | bX cs vs hl _ ih=>exact fun hp=> .bX cs vs hl (fun i h=>ih i h (jW hp i))
 | ae=>exact fun _=> .ae
 | mq f el b cap hf=>exact fun _=> .mq f el b cap hf
 | aK f el xs b off cap hb hf hx ft hc _ ih =>
   intro hp;obtain⟨hi',he⟩:=hi b hb;refine .aK f el xs b off cap hi' hf hx ft (fun i c h1 h2=>?_) (fun i c h1 h2=>?_)
   ·rw[n8 he];exact hc i c h1 h2
   ·rw[vD he];exact ih i c h1 h2 (N7 (jW hp i) c)
 | own el l m lo n v h=>exact fun hp=>by cases hp
 | ref l off v h=>exact fun hp=>by cases hp
 | fR el x off b o hb ft hc _ ih =>
   intro hp;obtain⟨hi',he⟩:=hi b hb;refine .fR el x off b o hi' ft (fun c h2=>?_) (fun c h2=>?_)
   ·rw[n8 he];exact hc c h2
   ·rw[vD he];exact ih c h2 (N7 (a:=x) hp c)
 | fg el l m i off v h=>exact fun hp=>by cases hp
 | iN=>exact fun _=> .iN
 | wU=>exact fun _=> .wU
 | nS=>exact fun _=> .nS
 | fn f first cap first' cap' hl hl' _ _ ih JV =>
   intro hp;simp only[AV.dn,aF]at hp;exact .fn f first cap first' cap' hl hl' (fun i h=>ih i h (jW hp.1 i)) (fun i h=>JV i h (jW hp.2 i))
 | qc t a v _ ih=>exact fun hp=> .qc t a v (ih hp)
 | wV=>exact fun _=> .wV
 | mp l v h=>exact fun hp=>by cases hp
 | ux l v h=>exact fun hp=>by cases hp
mutual
def AV.flat: AV->Bool
 | .agg cs=>AV.Mm cs
 | .bX cs=>AV.Mm cs
 | .undef | .bool _ | .int .. | .str _ | .ae | .iN | .wU | .nS | .wV=>true
 | .aK _ _ []=>true
 | _=>false
def AV.Mm: List AV->Bool
 | []=>true
 | a::az=>AV.flat a && AV.Mm az
end
def PK{l:List AV}(h:AV.Mm l=true)(i:Nat): (l.getD i .undef).flat=true:=by
 induction l generalizing i with
 | nil=>simp[AV.flat]
 | cons a l ih =>
   simp only[AV.Mm,aF]at h;cases i with
   | zero=>simpa using h.1
   | succ i=>simpa using ih h.2 i
def VR.flat{g g':aO}{w w':World}{a:AV}{v:Value}(h:VR g w a v): a.flat=true->VR g' w' a v:=by
 induction h with
 | undef v=>exact fun _=> .undef v
 | bool b=>exact fun _=> .bool b
 | int k n=>exact fun _=> .int k n
 | str s=>exact fun _=> .str s
 | agg cs vs hl hs _ ih=>exact fun hp=> .agg cs vs hl hs (fun i h=>ih i h (PK hp i))
 | bX cs vs hl _ ih=>exact fun hp=> .bX cs vs hl (fun i h=>ih i h (PK hp i))
 | ae=>exact fun _=> .ae
 | mq f el b cap hf=>exact fun _=> .mq f el b cap hf
 | aK f el xs b off cap hb hf hx ft hc _ ih =>
   intro hp;cases xs with
   | nil=>exact .mq f el _ cap hf
   | cons x xs=>simp[AV.flat]at hp
 | iN=>exact fun _=> .iN
 | wU=>exact fun _=> .wU
 | nS=>exact fun _=> .nS
 | wV=>exact fun _=> .wV
 | own|ref|fR|fg|fn|qc|mp|ux=>exact fun hp=>by simp[AV.flat]at hp
inductive View (σ : aj):AV->AV->Prop where
 | refl (a:AV) (h:a.dn=true):View σ a a
 | ae (el:El):View σ .ae (.aK false el [])
 | weak (f:Bool) (el:El) (xs:List AV) (h:AV.cy xs=true):View σ (.aK f el xs) (.aK false el xs)
 | aK (f:Bool) (el:El) (xs ys:List AV) (hl:xs.length=ys.length) (h:∀ i,i<xs.length->View σ (xs.getD i .undef) (ys.getD i .undef)):View σ (.aK f el xs) (.aK false el ys)
 | own (T : Option TypeId) (el : El) (l lo n : Nat) (xs ys : List AV) (hl : σ[l]? = some (.cn T el xs)) (hy : ys.length = n) (hn : lo + n <= xs.length)
    (h:∀ i,i<n->View σ (xs.getD (lo+i) .undef) (ys.getD i .undef)):View σ (.own el l xs.length lo n) (.aK false el ys)
 | agg (cs ds:List AV) (hl:cs.length=ds.length) (h:∀ i,i<cs.length->View σ (cs.getD i .undef) (ds.getD i .undef)):View σ (.agg cs) (.agg ds)
 | bX (cs ds:List AV) (hl:cs.length=ds.length) (h:∀ i,i<cs.length->View σ (cs.getD i .undef) (ds.getD i .undef)):View σ (.bX cs) (.bX ds)
 | cell (l:Nat) (v:AV) (hl : σ[l]? = some (.cells [v])) (hs:v.fits ⟨false,1⟩=true) (hp:v.dn=true):View σ (.ref l 0) (.fR ⟨false,1⟩ v 0)
 | cells (l n:Nat) (cs:List AV) (hl : σ[l]? = some (.cells cs)) (hn:cs.length=n) (hp:AV.cy cs=true):View σ (.ref l 0) (.fR ⟨true,n⟩ (.agg cs) 0)
 | fn (f : Fn) (az bs cs ds : List AV) (hl : az.length = bs.length) (h : ∀ i, i < az.length -> View σ (az.getD i .undef) (bs.getD i .undef))
    (hl':cs.length=ds.length) (h':∀ i,i<cs.length->View σ (cs.getD i .undef) (ds.getD i .undef)):View σ (.fn f az cs) (.fn f bs ds)
def aW(σ : aj)(cs ds:List AV): Prop:=cs.length=ds.length/\ ∀ i,i<cs.length->View σ (cs.getD i .undef) (ds.getD i .undef)
def aW.nil(σ : aj): aW σ [] []:=⟨rfl,fun _ h=>absurd h (eF _)⟩
def aW.cons{σ : aj}{a b:AV}{cs ds:List AV}(h:View σ a b)(hs:aW σ cs ds): aW σ (a::cs) (b::ds) :=
 ⟨by simp [hs.1], fun i hi => by
   cases i with
   | zero=>simpa using h
   | succ i=>simpa using hs.2 i (by simpa using hi)⟩
def aW.refl{σ : aj}{cs:List AV}(h:AV.cy cs=true): aW σ cs cs:=⟨rfl,fun i _=> .refl _ (jW h i)⟩
def View.nU{σ : aj}{cs ds:List AV}(h:aW σ cs ds): View σ (.agg cs) (.agg ds):= .agg cs ds h.1 h.2
def View.ajH{σ : aj}{cs ds:List AV}(h:aW σ cs ds): View σ (.bX cs) (.bX ds):= .bX cs ds h.1 h.2
def View.afD{σ : aj}{f:Bool}{el:El}{xs ys:List AV}(h:aW σ xs ys): View σ (.aK f el xs) (.aK false el ys):= .aK f el xs ys h.1 h.2
def View.fnL{σ : aj}{f:Fn}{az bs cs ds:List AV}(h:aW σ az bs)(h':aW σ cs ds): View σ (.fn f az cs) (.fn f bs ds):= .fn f az bs cs ds h.1 h.2 h'.1 h'.2
def View.vec{σ : aj}{T:Option TypeId}{el:El}{l m n:Nat}{xs:List AV}(hl : σ[l]? = some (.cn T el xs))(hm:m=xs.length)(hn:n=xs.length)(h:AV.cy xs=true): View σ (.own el l m 0 n) (.aK false el xs):=by
 subst hm;subst hn;exact .own T el l 0 xs.length xs xs hl rfl (by omega) (fun i _=>by rw[dX];exact .refl _ (jW h i))
def View.afE{σ : aj}{T:Option TypeId}{el:El}{l m n:Nat}{xs ys:List AV}(hl : σ[l]? = some (.cn T el xs))(hm:m=xs.length)(hn:n=xs.length)(h:aW σ xs ys): View σ (.own el l m 0 n) (.aK false el ys):=by
 subst hm;subst hn;exact .own T el l 0 xs.length xs ys hl h.1.symm (by omega) (fun i hi=>by rw[dX];exact h.2 i hi)
def View.scalar{σ : aj}{a b:AV}(h:View σ a b): b.scalar=a.scalar:=by cases h<;>rfl
def View.fits{σ : aj}{a b:AV}(h:View σ a b)(el:El)(hf:a.fits el=true): b.fits el=true:=by
 cases h with
 | agg cs ds hl h =>
   simp only[AV.fits,aF,bx,beq_iff_eq]at hf ⊢;refine⟨⟨hf.1.1,by rw[<-hl];exact hf.1.2⟩,fun x hx=>?_⟩;obtain⟨i,hi,rfl⟩:=bW hx;have h1:=(h i (by omega)).scalar;rw[aE,aE,aQ hi,aQ (by omega:i<cs.length)]at h1;rw[bT,bT]at h1;rw[h1];exact hf.2 _ (fY _)
 | refl=>exact hf
 | ae=>exact hf
 | weak=>exact hf
 | aK=>exact hf
 | own=>exact hf
 | bX=>exact hf
 | cell=>exact hf
 | cells=>exact hf
 | fn=>exact hf
def View.mono{σ σ':aj}(hs:∀ (l:Nat) o,σ[l]? = some o->σ'[l]? = some o){a b:AV}(h:View σ a b): View σ' a b:=by
 induction h with
 | refl a h=>exact .refl a h
 | ae el=>exact .ae el
 | weak f el xs h=>exact .weak f el xs h
 | aK f el xs ys hl _ ih=>exact .aK f el xs ys hl ih
 | own T el l lo n xs ys hl hy hn _ ih=>exact .own T el l lo n xs ys (hs _ _ hl) hy hn ih
 | agg cs ds hl _ ih=>exact .agg cs ds hl ih
 | bX cs ds hl _ ih=>exact .bX cs ds hl ih
 | cell l v hl h hp=>exact .cell l v (hs _ _ hl) h hp
 | cells l n cs hl hn hp=>exact .cells l n cs (hs _ _ hl) hn hp
 | fn f az bs cs ds hl _ hl' _ ih JV=>exact .fn f az bs cs ds hl ih hl' JV
def VD {g g' : aO} {w : World} {σ : aj} {x y : AV} {el : El} (ih : ∀ u, VR g w x u -> VR g' w y u) (h : View σ x y) (hf : x.fits el = true) (u : Nat -> Value)
    (hu:∀ k,k<el.sz->VR g w (x.cell k) (u k)) (c:Nat) (hc:c<el.sz):VR g' w (y.cell c) (u c):=by
 by_cases hx:∃ cs,x = .agg cs
 ·obtain⟨cs,rfl⟩:=hx;simp only[AV.fits,aF,beq_iff_eq]at hf
  have h1:VR g w (.agg cs) (.agg (Array.ofFn fun i:Fin cs.length=>u i)):=by
   refine .agg cs _ (by simp) hf.2 (fun i hi=>?_);have:=hu i (by omega);simpa[hi,AV.cell]using this
  have h2:=ih _ h1;generalize hq:y=q at h2
  have:∃ ds,q = .agg ds:=by
   subst hq;cases h with
   | refl=>exact⟨_,rfl⟩
   | agg _ ds=>exact⟨ds,rfl⟩
  obtain⟨ds,rfl⟩:=this;cases h2 with
  | agg _ vs hl hs hh =>
    simp only[Array.size_ofFn]at hl;have:=hh c (by omega);have ff:c<cs.length:=by omega
    simpa[ff,AV.cell]using this
 ·have e1:x.cell c=x:=by cases x<;>first|rfl|exact absurd ⟨_,rfl⟩ hx
  have e2:y.cell c=y:=by
   cases h<;>first|rfl|(exact absurd ⟨_,rfl⟩ hx)|exact e1
  rw[e2];have:=hu c hc;rw[e1]at this;exact ih _ this
def View.vr {g g' : aO} {w : World} {σ : aj} (hR : Rel g w σ) (hi : ∀ b, g.gi b -> g'.gi b) (ht : ∀ b, n9 σ g b -> g'.gi b) {a b : AV} (hv : View σ a b) :
    ∀ {v:Value},VR g w a v->VR g' w b v:=by
 have U8:∀ b,g.gi b->g'.gi b/\w.heap[b]? = w.heap[b]?:=fun b hb=>⟨hi b hb,rfl⟩
 induction hv with
 | refl a h=>exact fun hr=>hr.dn U8 h
 | ae el=>intro v hr;cases hr;exact .mq false el none 0 (fun h=>by cases h)
 | weak f el xs h =>
   intro v hr;cases hr with
   | mq f el b cap hf=>exact .mq false el b cap (fun h=>by cases h)
   | aK f el xs b off cap hb hf hx ft hc hh =>
     exact .aK false el xs b off cap (hi b hb) (fun h=>by cases h) hx ft hc (fun i c h1 h2=>(hh i c h1 h2).dn U8 (N7 (jW h i) c))
 | aK f el xs ys hl h ih =>
   intro v hr;cases hr with
   | mq f el b cap hf =>
     have:ys=[]:=dS.1 hl.symm;subst this;exact .mq false el b cap (fun h=>by cases h)
   | aK f el xs b off cap hb hf hx ft hc hh =>
     rw[hl];refine .aK false el ys b off cap (hi b hb) (fun h=>by cases h) (hl ▸ hx) (fun i h1=>(h i (hl ▸ h1)).fits el (ft i (hl ▸ h1))) (fun i c h1 h2=>hc i c (hl ▸ h1) h2) (fun i c h1 h2=>?_);exact VD (fun u=>ih i (hl ▸ h1)) (h i (hl ▸ h1)) (ft i (hl ▸ h1)) (fun k=>gR w ⟨b,off+(i*el.sz+k),none⟩) (fun k hk=>hh i k (hl ▸ h1) hk) c h2
 | own T el l lo n xs ys hl hy hn h ih =>
   intro v hr;cases hr with
   | own _ _ _ _ _ _ hO =>
     obtain⟨_,_,A,cap,rfl,h4⟩:=hO;obtain⟨pF,hf0,hrow⟩:=hR.ok l _ hl;by_cases hn0:n=0
     ·subst hn0;have:ys=[]:=dS.1 hy;subst this;exact .mq false el A cap (fun h=>by cases h)
     rcases hrow with⟨hx,_,_⟩|⟨b,vs,hb,hrow,hsz,hle,hc,_⟩
     ·subst hx;simp at hn;omega
     obtain⟨_,h6,h7⟩:=h4 pF.symm;have hlt:lo<g.cap l:=by omega
     have hA:=h7 hlt;rw[hb]at hA;simp only[gC]at hA;subst hA
     have hidx:∀ i c,i<n->c<el.sz->(lo+i)*el.sz+c<vs.size:=fun i c h1 h2=>by
      rw[hsz]
      calc (lo+i)*el.sz+c<(lo+i)*el.sz+el.sz:=by omega
       _=(lo+i+1)*el.sz:=by rw[dK (lo+i) 1];omega
       _<=g.cap l*el.sz:=bG _ (by omega)
     have hoff:∀ i c,lo*el.sz+(i*el.sz+c)=(lo+i)*el.sz+c:=fun i c=>by rw[dK];omega
     subst hy;refine .aK false el ys b (lo*el.sz) cap (ht b ⟨l,⟨_,hl,rfl⟩,hb⟩) (fun h=>by cases h) (by omega) (fun i h1=>?_) (fun i c h1 h2=>?_) (fun i c h1 h2=>?_)
     ·exact(h i h1).fits el (hf0 (lo+i) (by omega))
     ·rw[hoff,hrow.cell (hidx i c h1 h2)];rfl
     ·rw[hoff]
      have e1:gR w ⟨b,(lo+i)*el.sz+c,none⟩=vs.getD ((lo+i)*el.sz+c) Go.undef:=by
       simp only[gR,hrow.cell (hidx i c h1 h2),bT]
      rw[e1];exact VD (fun u=>ih i h1) (h i h1) (hf0 (lo+i) (by omega)) (fun k=>vs.getD ((lo+i)*el.sz+k) Go.undef) (fun k hk=>hc (lo+i) k (by omega) hk) c h2
 | agg cs ds hl h ih =>
   intro v hr;cases hr with
   | agg _ vs hl' hs hh =>
     refine .agg ds vs (by omega) ?_ (fun i h1=>ih i (by omega) (hh i (by omega)));rw[bx]at hs ⊢;intro x hx;obtain⟨i,hi',rfl⟩:=bW hx;have h1:=(h i (by omega)).scalar;rw[aE,aE,aQ hi',aQ (by omega:i<cs.length)]at h1;rw[bT,bT]at h1;rw[h1];exact hs _ (fY _)
 | bX cs ds hl h ih =>
   intro v hr;cases hr with
   | bX _ vs hl' hh=>exact .bX ds vs (by omega) (fun i h1=>ih i (by omega) (hh i (by omega)))
 | cell l x hl hs hp =>
   intro v hr;cases hr with
   | ref _ _ _ hO =>
     obtain⟨_,A,rfl,h2⟩:=hO;obtain⟨pF,_,b,vs,hb,hrow,hsz,hc,_⟩:=hR.ok l _ hl;obtain⟨h3,h4⟩:=h2 pF;rw[hb]at h3;cases h3;rw[h4];have h5:(0:Nat)<vs.size:=by simpa using Nat.lt_of_lt_of_eq Nat.zero_lt_one hsz.symm
     have hcell:=hrow.cell h5;have hx:=hc 0 (by simp);simp only[cQ]at hx;refine .fR ⟨false,1⟩ x 0 A.block 0 (ht _ ⟨l,⟨_,hl,rfl⟩,hb⟩) hs (fun c h1=>?_) (fun c h1=>?_)
     ·have:c=0:=by have:c<1:=h1;omega
      subst this;rw[dX,hcell];rfl
     ·have:c=0:=by have:c<1:=h1;omega
      subst this;have e1:x.cell 0=x:=by cases x<;>first|rfl|simp[AV.fits]at hs
      simp only[dX,gR,hcell,bT,e1];exact hx.dn U8 hp
 | cells l n cs hl hn hp =>
   intro v hr;cases hr with
   | ref _ _ _ hO =>
     obtain⟨_,A,rfl,h2⟩:=hO;obtain⟨pF,hsc,b,vs,hb,hrow,hsz,hc,_⟩:=hR.ok l _ hl;obtain⟨h3,h4⟩:=h2 pF;rw[hb]at h3;cases h3;rw[h4];refine .fR ⟨true,n⟩ (.agg cs) 0 A.block 0 (ht _ ⟨l,⟨_,hl,rfl⟩,hb⟩) (by simp[AV.fits,hn];simpa using hsc) (fun c h1=>?_) (fun c h1=>?_)
     ·have h1:c<n:=h1;rw[dX,hrow.cell (by omega)];rfl
     ·have h1:c<n:=h1;simp only[dX,gR,hrow.cell (show c<vs.size by omega),bT];exact(hc c (by omega)).dn U8 (jW hp c)
 | fn f az bs cs ds hl h hl' h' ih JV =>
   intro v hr;cases hr with
   | fn _ _ _ first' cap' k1 k2 k3 k4=>exact .fn f bs ds first' cap' (by omega) (by omega) (fun i h1=>ih i (by omega) (k3 i (by omega))) (fun i h1=>JV i (by omega) (k4 i (by omega)))
def ai(P:Program)(f:FuncId)(args:List AV)(r:AV): Prop:= ∀ σ,Eg P f args σ r
def js{g:aO}{b:Nat}: ¬ n9 [] g b:=fun⟨_,⟨_,h,_⟩,_⟩=>by simp at h
def aO.CN(g:aO)(lo hi:Nat): aO:= { g with gi:=fun b=>g.gi b\/(lo<=b/\b<hi) }
def Rel.CN {g : aO} {w w' : World} {σ : aj} (h : Rel g w σ) (hsz : w.heap.size <= w'.heap.size) (hos : w'.os = w.os) (G6 : w'.tape = w.tape) (hout : w'.output = w.output)
    (hf:∀ b,b<w.heap.size->w'.heap[b]? = w.heap[b]?):Rel (g.CN w.heap.size w'.heap.size) w' σ/\gN σ g w σ (g.CN w.heap.size w'.heap.size) w':=by
 have hm:lK g w (g.CN w.heap.size w'.heap.size) w':=⟨fun b hb=>⟨.inl hb,hf b (h.lt b hb)⟩,Nat.le_refl _,fun _ _=>⟨Nat.le_refl _,fun _=>⟨rfl,rfl⟩⟩⟩;refine⟨⟨h.len,fun b hb=>?_,fun l o ho=>?_,h.inj,fun l b hl hb hi=>?_,h.mu.mono hm.gi⟩,⟨hm,hsz,hos,G6,hout,fun b hb _=>hf b hb,fun b hb hi=>?_,fun b _ ht=>ht⟩⟩
 ·rcases hb with hb|hb
  ·exact da (h.lt b hb) hsz
  ·exact hb.2
 ·have hl:l<g.n:=by rw[<-h.len];exact(aN.1 ho).1
  by_cases hv:o.live=true
  ·exact(h.ok l o ho).step hm hl rfl (fun b hb=>hf b (h.jA ⟨o,ho,hv⟩ hb))
  ·cases o<;>simp[aX.live]at hv;trivial
 ·rcases hi with hi|hi
  ·exact h.yp l b hl hb hi
  ·have:=h.jA hl hb;omega
 ·rcases hi with hi|hi
  ·exact .inl hi
  ·omega
def aO.bare(I:Nat->Prop): aO:=⟨I,0,fun _=>0,fun _=>none,fun _=>0⟩
def Rel.bare{I:Nat->Prop}{w:World}(h:∀ b,I b->b<w.heap.size)(hg:Ee (aO.bare I) w): Rel (aO.bare I) w [] :=
 ⟨rfl,h,fun _ _ h=>by simp at h,fun _ _ _ ⟨_,h,_⟩=>by simp at h,fun _ _ ⟨_,h,_⟩=>by simp at h,hg⟩
def ai.aG{f:FuncId}{args:List AV}{r:AV}(h:f_ P f args [] fun o σ'=> ∃ r0,o = .ret r0/\View σ' r0 r)(hp:AV.cy args=true): ai P f args r:=by
 intro σ;refine⟨h.1,fun g w vs hR hlen hv=>?_⟩;refine(h.2 (aO.bare g.gi) w vs (Rel.bare hR.lt ⟨hR.mu.1,hR.mu.2⟩) hlen (fun i hi=>VR.dn (g:=g) (g':=aO.bare g.gi) (fun b hb=>⟨hb,rfl⟩) (hv i hi) (jW hp i))).mono ?_;rintro e w' ⟨out,g',σ',hR',hE,hO,r0,rfl,PL⟩;have hfr:∀ b,b<w.heap.size->w'.heap[b]? = w.heap[b]?:=fun b hb=>hE.frame b hb js;obtain⟨h1,h2⟩:=hR.CN hE.size hE.os hE.tape hE.output hfr;refine⟨.ret r,_,σ,h1,h2,?_,rfl,rfl⟩;cases e with
 | returned v =>
   refine PL.vr hR' (fun b hb=>?_) (fun b hb=>?_) hO
   ·by_cases hlt:b<w.heap.size
    ·rcases hE.Cr b hlt hb with h3|h3
     ·exact .inl h3
     ·exact absurd h3 js
    ·exact .inr ⟨by omega,hR'.lt b hb⟩
   ·by_cases hlt:b<w.heap.size
    ·exact absurd (hE.SK b hlt hb) js
    ·exact .inr ⟨by omega,hR'.G5 hb⟩
 | panicked c=>exact hO.elim
 | outgrown=>exact hO.elim
def ai.view{f:FuncId}{args args':List AV}{r:AV}{σ : aj}(h:ai P f args' r)(hv:aW σ args args')(hr:r.flat=true): Eg P f args σ r:=by
 refine⟨(h []).1,fun g w vs hR hlen hvs=>?_⟩
 let I:Nat->Prop:=fun b=>g.gi b\/n9 σ g b
 have hlt:∀ b,I b->b<w.heap.size:=fun b hb=>by
  rcases hb with hb|hb
  ·exact hR.lt b hb
  ·exact hR.G5 hb
 refine((h []).2 (aO.bare I) w vs (Rel.bare hlt ⟨fun b hb=> .inl (hR.mu.1 b hb),hR.mu.2⟩) (hv.1 ▸ hlen) (fun i hi=>?_)).mono ?_
 ·exact(hv.2 i (hv.1 ▸ hi)).vr (g':=aO.bare I) hR (fun b hb=> .inl hb) (fun b hb=> .inr hb) (hvs i (hv.1 ▸ hi))
 rintro e w' ⟨out,g',σ',hR',hE,hO,rfl,rfl⟩;have hfr:∀ b,b<w.heap.size->w'.heap[b]? = w.heap[b]?:=fun b hb=>hE.frame b hb js;obtain⟨h1,h2⟩:=hR.CN hE.size hE.os hE.tape hE.output hfr;refine⟨.ret r,_,σ,h1,h2,?_,rfl,rfl⟩;cases e with
 | returned v=>exact VR.flat (a:=r) hO hr
 | panicked c=>exact hO.elim
 | outgrown=>exact hO.elim
def View.ajI{a b:AV}(h:View [] a b): a.dn=true:=by
 induction h with
 | refl a h=>exact h
 | ae=>rfl
 | weak f el xs h=>exact h
 | aK f el xs ys hl h ih =>
   refine sL.2 fun x hx=>?_;obtain⟨i,hi,rfl⟩:=bW hx;have:=ih i hi;rwa[aE,aQ hi,bT]at this
 | own T el l lo n xs ys hl=>simp at hl
 | agg cs ds hl h ih =>
   refine sL.2 fun x hx=>?_;obtain⟨i,hi,rfl⟩:=bW hx;have:=ih i hi;rwa[aE,aQ hi,bT]at this
 | bX cs ds hl h ih =>
   refine sL.2 fun x hx=>?_;obtain⟨i,hi,rfl⟩:=bW hx;have:=ih i hi;rwa[aE,aQ hi,bT]at this
 | cell l v hl=>simp at hl
 | cells l n cs hl=>simp at hl
 | fn f az bs cs ds hl h hl' h' ih JV =>
   simp only[AV.dn,aF];refine⟨sL.2 fun x hx=>?_,sL.2 fun x hx=>?_⟩
   ·obtain⟨i,hi,rfl⟩:=bW hx;have:=ih i hi;rwa[aE,aQ hi,bT]at this
   ·obtain⟨i,hi,rfl⟩:=bW hx;have:=JV i hi;rwa[aE,aQ hi,bT]at this
def View.afF{g:aO}{w:World}{a b:AV}(h:View [] a b){v:Value}(hv:VR g w a v): VR (aO.bare g.gi) w a v:=VR.dn (g:=g) (g':=aO.bare g.gi) (fun _ hb=>⟨hb,rfl⟩) hv h.ajI
def ai.weak{f:FuncId}{args args':List AV}{r:AV}(h:ai P f args' r)(hv:aW [] args args'): ai P f args r:=by
 intro σ;refine⟨(h []).1,fun g w vs hR hlen hvs=>?_⟩;refine((h σ).2 g w vs hR (hv.1 ▸ hlen) (fun i hi=>?_));refine View.vr (σ:=[]) (g:=aO.bare g.gi) (g':=g) (Rel.bare hR.lt ⟨hR.mu.1,hR.mu.2⟩) (fun b hb=>hb) (fun b hb=>absurd hb js) (hv.2 i (hv.1 ▸ hi)) ?_;exact View.afF (hv.2 i (hv.1 ▸ hi)) (hvs i (hv.1 ▸ hi))
end Go.AM
namespace Go.AM
variable {P:Program}
def bj(P:Program)(f:FuncId)(off:Nat)(args:List AV)(cs ds:List AV)(r:AV): Prop :=
 ∀(σ : aj) (k:Nat),σ[k]? = some (.cells cs)->f_ P f (.ref k off::args) σ fun o σ'=>o = .ret r/\σ' = σ.set k (.cells ds)
def Ep{σ : aj}{k:Nat}{o o':aX}(h : σ[k]? = some o): (σ.set k o')[k]? = some o':=by
 have:=(aN.1 h).1;simp[this]
def bj.aby {f : FuncId} {off : Nat} {A : Nat -> List AV} {cs ds : List AV} {r : AV} (hl : ∀ k, (A k).length = (A 0).length)
    (h:f_ P f (.ref 0 off::A 0) [.cells cs] fun o σ'=> ∃ r0 oC τ,o = .ret r0/\σ' = .cells oC:: τ/\View (.dead:: τ) r0 r/\aW (.dead:: τ) oC ds)
    (hA:∀ (g g0:aO) (w:World) (k:Nat),(∀ c,g.gi c->g0.gi c/\w.heap[c]? = w.heap[c]?)->(∀ o v,VR g w (.ref k o) v->VR g0 w (.ref 0 o) v)-> ∀ i v,VR g w ((A k).getD i .undef) v->VR g0 w ((A 0).getD i .undef) v) (hc:AV.cy cs=true) :
    ∀(σ : aj) (k:Nat),σ[k]? = some (.cells cs)->f_ P f (.ref k off::A k) σ fun o σ'=>o = .ret r/\σ' = σ.set k (.cells ds):=by
 intro σ k hk;refine⟨h.1,fun g w vs hR hlen hv=>?_⟩;have hkn:k<g.n:=by rw[<-hR.len];exact(aN.1 hk).1
 have nH:Live σ k:=⟨_,hk,rfl⟩;obtain⟨afG,hsc,b,us,hb,hrow,hus,hcell,_⟩:=hR.ok k _ hk
 let g0:aO:=⟨g.gi,1,fun _=>1,fun _=>some b,fun _=>g.cap k⟩
 have aly:b<w.heap.size:=hrow.lt;have ZW:¬ g.gi b:=hR.yp k b nH hb;have hpi:∀ c,g.gi c->g0.gi c/\w.heap[c]? = w.heap[c]?:=fun c hc=>⟨hc,rfl⟩
 have hR0:Rel g0 w [.cells cs]:=by
  refine⟨rfl,hR.lt,fun l o ho=>?_,fun l l' c hl hl' _ _=>?_,fun l c hl hc=>?_,⟨hR.mu.1,hR.mu.2⟩⟩
  ·cases l with
   | zero =>
     simp at ho;subst ho;exact⟨rfl,hsc,b,us,rfl,hrow,hus,fun i hi=>(hcell i hi).dn hpi (jW hc i),trivial⟩
   | succ l=>simp at ho
  ·have h1:=hl.lt;have h2:=hl'.lt;simp at h1 h2;omega
  ·have:c=b:=by simpa[g0]using hc.symm
   subst this;exact ZW
 have acT:∀ c,n9 [.cells cs] g0 c↔c=b:=fun c=>by
  constructor
  ·rintro⟨l,_,hc⟩;simpa[g0]using hc.symm
  ·rintro rfl;exact⟨0,⟨_,rfl,rfl⟩,rfl⟩
 have ZX:∀ o v,VR g w (.ref k o) v->VR g0 w (.ref 0 o) v:=fun o v this=>by
  cases this with
  | ref _ _ _ hh =>
    obtain⟨_,A,e,h2⟩:=hh;refine .ref _ _ _ ⟨⟨Nat.zero_lt_one,Nat.le_refl _⟩,A,e,fun _=>?_⟩;have:=h2 afG;rw[hb]at this;exact this
 have pF:∀ i,i<(AV.ref 0 off::A 0).length->VR g0 w ((AV.ref 0 off::A 0).getD i .undef) (vs.getD i Go.undef):=fun i hi=>by
  have:=hv i (by simpa[hl k]using hi);cases i with
  | zero =>
    simp only[cQ]at this ⊢;exact ZX _ _ this
  | succ i =>
    simp only[List.getD_cons_succ]at this ⊢;exact hA g g0 w k hpi ZX i _ this
 refine(h.2 g0 w vs hR0 (by simpa[hl k]using hlen) pF).mono ?_;rintro e w' ⟨out,g',σ',hR',hE,hO,r0,oC,τ,rfl,rfl,PL,VE⟩;have hfr:∀ c,c<w.heap.size->c≠b->w'.heap[c]? = w.heap[c]?:=fun c hc hne=>hE.frame c hc (fun t=>hne ((acT c).1 t));obtain⟨ahx,acF,b',us',hb',ahy,alz,afH,_⟩:=hR'.ok 0 _ rfl
 have Vx:b'=b:=by
  have:=(hE.mono.di 0 (by show 0<1;omega)).2 ahx;rw[hb']at this;simpa[g0]using this.1
 subst Vx
 let g2:aO:= { g with gi:=fun c=>g.gi c\/(w.heap.size<=c/\c<w'.heap.size) }
 have ahz:∀ c,g'.gi c->g2.gi c:=fun c hc=>by
  by_cases hlt:c<w.heap.size
  ·rcases hE.Cr c hlt hc with h3|h3
   ·exact .inl h3
   ·exfalso;have:=(acT c).1 h3;subst this;exact hR'.yp 0 c ⟨_,rfl,rfl⟩ hb' hc
  ·exact .inr ⟨by omega,hR'.lt c hc⟩
 have hm:lK g w g2 w':=⟨fun c hc=>⟨.inl hc,hfr c (hR.lt c hc) (fun e=>ZW (e ▸ hc))⟩,Nat.le_refl _,fun _ _=>⟨Nat.le_refl _,fun _=>⟨rfl,rfl⟩⟩⟩
 have ak5:¬ g2.gi b':=fun hh=>by
  rcases hh with hh|hh
  ·exact ZW hh
  ·omega
 have abz:∀ {x y:AV},View (.dead:: τ) x y-> ∀ {v:Value},VR g' w' x v->VR g2 w' y v:=fun {x y} ajJ {v} Kk=>by
  have hRd:Rel g' w' (.dead:: τ):=by
   have hlen:=hR'.len;refine⟨by simpa using hlen,hR'.lt,fun l o ho=>?_,fun l l' c hl hl'=>?_,fun l c hl=>?_,hR'.mu⟩
   ·cases l with
    | zero=>simp at ho;subst ho;trivial
    | succ l=>exact hR'.ok (l+1) o (by simpa using ho)
   ·have lift : ∀ l, Live (.dead :: τ) l -> Live (.cells oC :: τ) l := fun l hl => by
     obtain⟨o,ho,hv⟩:=hl;cases l with
     | zero=>simp at ho;subst ho;cases hv
     | succ l=>exact⟨o,by simpa using ho,hv⟩
    exact hR'.inj l l' c (lift l hl) (lift l' hl')
   ·obtain⟨o,ho,hv⟩:=hl;cases l with
    | zero=>simp at ho;subst ho;cases hv
    | succ l=>exact hR'.yp (l+1) c ⟨o,by simpa using ho,hv⟩
  refine ajJ.vr hRd ahz (fun c hc=>?_) Kk;obtain⟨l,⟨o,ho,hv⟩,hc⟩:=hc;cases l with
  | zero=>simp at ho;subst ho;cases hv
  | succ l =>
    have hl1:Live (.cells oC:: τ) (l+1):=⟨o,by simpa using ho,hv⟩;refine .inr ⟨?_,hR'.jA hl1 hc⟩;apply Nat.le_of_not_lt;intro hlt;have:=(acT c).1 (hE.SK c hlt ⟨_,hl1,hc⟩);subst this;have:=hR'.inj (l+1) 0 c hl1 ⟨_,rfl,rfl⟩ hc hb';omega
 have hds:oC.length=ds.length:=VE.1
 have PM:Rel g2 w' (σ.set k (.cells ds)):=by
  refine⟨by simp[g2,hR.len],fun c hc=>?_,fun l o ho=>?_,fun l l' c hl hl'=>?_,fun l c hl hc hi=>?_,hR.mu.mono hm.gi⟩
  ·rcases hc with hc|hc
   ·exact da (hR.lt c hc) hE.size
   ·exact hc.2
  ·by_cases hlk:l=k
   ·subst hlk;rw[Ep hk]at ho;cases ho;refine⟨afG,?_,b',us',hb,ahy,by omega,fun i hi=>abz (VE.2 i (by omega)) (afH i (by omega)),trivial⟩;rw[bx]at acF ⊢;intro x hx;obtain⟨i,hi,rfl⟩:=bW hx;have h1:=(VE.2 i (by omega)).scalar;rw[aE,aE,aQ hi,aQ (by omega:i<oC.length)]at h1;rw[bT,bT]at h1;rw[h1];exact acF _ (fY _)
   ·rw[aH (Ne.symm hlk)]at ho;have hl:l<g.n:=by rw[<-hR.len];exact(aN.1 ho).1
    by_cases hvv:o.live=true
    ·exact(hR.ok l o ho).step hm hl rfl (fun c hc=>hfr c (hR.jA ⟨o,ho,hvv⟩ hc) (fun e=>hlk (hR.inj l k c ⟨o,ho,hvv⟩ nH hc (e ▸ hb))))
    ·cases o<;>simp[aX.live]at hvv;trivial
  ·have lift : ∀ l, Live (σ.set k (.cells ds)) l -> Live σ l := fun l hl => by
    rcases nr hl with⟨rfl,_,_⟩|⟨_,hl⟩
    ·exact nH
    ·exact hl
   exact hR.inj l l' c (lift l hl) (lift l' hl')
  ·have hl' : Live σ l := by
    rcases nr hl with⟨rfl,_,_⟩|⟨_,hl⟩
    ·exact nH
    ·exact hl
   rcases hi with hi|hi
   ·exact hR.yp l c hl' hc hi
   ·have:=hR.jA hl' hc;omega
 refine⟨.ret r,g2,_,PM,⟨hm,hE.size,hE.os,hE.tape,hE.output,fun c hc ht=>?_,fun c hc hi=>?_,fun c hc ht=>?_⟩,?_,rfl,rfl⟩
 ·exact hfr c hc (fun e=>ht ⟨k,nH,e ▸ hb⟩)
 ·rcases hi with hi|hi
  ·exact .inl hi
  ·omega
 ·obtain⟨l,hl,zQ⟩:=ht;rcases nr hl with⟨rfl,_,_⟩|⟨_,hl⟩
  ·exact⟨_,nH,zQ⟩
  ·exact⟨l,hl,zQ⟩
 ·cases e with
  | returned v=>exact abz PL hO
  | panicked c=>exact hO.elim
  | outgrown=>exact hO.elim
def bj.bV {f : FuncId} {off : Nat} {args cs ds : List AV} {r : AV}
    (h:f_ P f (.ref 0 off::args) [.cells cs] fun o σ'=> ∃ r0 oC τ,o = .ret r0/\σ' = .cells oC:: τ/\View (.dead:: τ) r0 r/\aW (.dead:: τ) oC ds) (hp:AV.cy args=true) (hc:AV.cy cs=true) :
    bj P f off args cs ds r:=bj.aby (A:=fun _=>args) (fun _=>rfl) h (fun _ _ _ _ hpi _ i _ hv=>hv.dn hpi (jW hp i)) hc
def Kl(P:Program)(f:FuncId)(cs ds:List AV)(r:AV)(F:FuncId): Prop :=
 ∀(σ : aj) (k:Nat),σ[k]? = some (.cells cs)->f_ P f [.ref k 0,.fn (.func F) [.ref k 0] []] σ fun o σ'=>o = .ret r/\σ' = σ.set k (.cells ds)
def Kl.bV {f F : FuncId} {cs ds : List AV} {r : AV}
    (h:f_ P f [.ref 0 0,.fn (.func F) [.ref 0 0] []] [.cells cs] fun o σ'=> ∃ r0 oC τ,o = .ret r0/\σ' = .cells oC:: τ/\View (.dead:: τ) r0 r/\aW (.dead:: τ) oC ds) (hc:AV.cy cs=true):Kl P f cs ds r F:=by
 refine bj.aby (A:=fun k=>[.fn (.func F) [.ref k 0] []]) (fun _=>rfl) h (fun g g0 w k hpi ZX i v hv=>?_) hc;cases i with
 | succ i=>exact hv.dn hpi rfl
 | zero =>
   cases hv with
   | fn f' first cap first' cap' hl hl' h1 h2 =>
     refine .fn _ _ _ _ _ hl hl' (fun i hi=>?_) (fun i hi=>absurd hi (eF _));cases i with
     | zero=>exact ZX _ _ (h1 0 (Nat.zero_lt_one))
     | succ i=>simp at hi
section
variable {n:FuncId} {args:List AV} {σ : aj} {K Kp:AV->aj->Prop} {r:AV}
def F2(h:ai P n args r)(hk:jk r (.mk:Tg fun r=>K r σ)): oF P n args σ (.mk:Tg (K,Kp)):=YL h hk
def F3(h:ai P n args r)(hk:jk r (.mk:Tg fun r=>K r σ)): Hr P n args σ (.mk:Tg (K,Kp)):=YM h hk
def aeo{args':List AV}(h:ai P n args' r)(hv:aW [] args args')(hk:jk r (.mk:Tg fun r=>K r σ)): oF P n args σ (.mk:Tg (K,Kp)):=YL (ai.weak h hv) hk
def aep{args':List AV}(h:ai P n args' r)(hv:aW [] args args')(hk:jk r (.mk:Tg fun r=>K r σ)): Hr P n args σ (.mk:Tg (K,Kp)):=YM (ai.weak h hv) hk
def wC{args':List AV}(h:ai P n args' r)(hv:aW σ args args')(hr:r.flat=true)(hk:jk r (.mk:Tg fun r=>K r σ)): oF P n args σ (.mk:Tg (K,Kp)) :=
 (ai.view h hv hr).mono fun o s ⟨h1,h2⟩=>by subst h1;subst h2;exact hk
def aeq{args':List AV}(h:ai P n args' r)(hv:aW σ args args')(hr:r.flat=true)(hk:jk r (.mk:Tg fun r=>K r σ)): Hr P n args σ (.mk:Tg (K,Kp)) :=
 ⟨r, fun τ => ai.view h ⟨hv.1, fun i hi => (hv.2 i hi).mono (fun l o hl => by
   rw[List.getElem?_append_left (aN.1 hl).1];exact hl)⟩ hr,hk⟩
def VF {k : Nat} {F : FuncId} {cs ds : List AV} (h : Kl P n cs ds r F) (qT : σ[k]? = some (.cells cs)) (hk : jk r (.mk : Tg fun r => vH (σ.set k (.cells ds)) (.mk : Tg fun σ => K r σ))) :
    oF P n [.ref k 0,.fn (.func F) [.ref k 0] []] σ (.mk:Tg (K,Kp)) :=
 (h σ k qT).mono fun o s ⟨h1,h2⟩=>by subst h1;subst h2;exact hk
def yR {k off : Nat} {cs ds : List AV} (h : bj P n off args cs ds r) (qT : σ[k]? = some (.cells cs)) (hk : jk r (.mk : Tg fun r => vH (σ.set k (.cells ds)) (.mk : Tg fun σ => K r σ))) :
    oF P n (.ref k off::args) σ (.mk:Tg (K,Kp)) :=
 (h σ k qT).mono fun o s ⟨h1,h2⟩=>by subst h1;subst h2;exact hk
end
end Go.AM
