/- Part of a proof: see Root. -/
import Derived.Test.YtmbgnaoilncbnaaGreatDoorZ10
set_option linter.unnecessarySimpa false
set_option linter.unusedSimpArgs false
set_option linter.unusedVariables false
namespace Go.AM
variable {P:Program}
def OV(ms:List Nat)(r e:Env): Env:=fun t=>if ms.contains t then r t else e t
def tN: List (Nat × AV)→Env→Env
 | [],e=>e
 |(d,v)::l,e=>dJ (tN l e) (some d) v
@[go_sem ↓] theorem YR (e:Env):tN [] e=e:=_root_.id rfl
@[go_sem ↓] theorem Xn (d:Nat) (v:AV) (l:List (Nat × AV)) (e:Env):tN ((d,v)::l) e=dJ (tN l e) (some d) v:=_root_.id rfl
@[go_sem ↓] theorem ag8 (ms:List Nat) (r e:Env) (t:Nat):OV ms r e t=Lo (ms.contains t) (.mk:Tg (r t,e t)):=_root_.id rfl
def Gv(ms:List Nat)(e e':Env): Prop:= ∀ t,ms.contains t=false→e' t=e t
theorem aaw(ms:List Nat)(r e:Env): Gv ms e (OV ms r e):=fun t h=>by simp only[OV,h];rfl
theorem aax{ms:List Nat}{e e':Env}{d:Nat}{v:AV}(hd:ms.contains d=true)(h:Gv ms e e'): Gv ms e (dJ e' (some d) v):=fun t ht=>by
 simp only[dJ]
 split
 ·rename_i e1;subst e1;rw[hd]at ht;cases ht
 ·exact h t ht
def At(l:List (Nat × AV))(e:Env): Prop:= ∀ p ∈ l,e p.1=p.2
@[go_sem] theorem cU (e:Env):At [] e=True:=by simp[At]
@[go_sem] theorem cE (d:Nat) (v:AV) (l:List (Nat × AV)) (e:Env):At ((d,v)::l) e=(e d=v∧At l e):=by simp[At]
theorem Uw{ms:List Nat}{e e':Env}(ho:Gv ms e e'): ∀(l:List (Nat × AV)),At l e'→tN l (OV ms e' e)=e'
 | [], _ => by
   funext t
   simp only[tN,OV]
   split
   ·rfl
   ·rename_i h;exact(ho t (by simpa using h)).symm
 | (d, v) :: l, h => by
   simp only[tN]
   rw[Uw ho l (fun p hp=>h p (List.mem_cons_of_mem _ hp))]
   exact vB (h (d,v) (by simp))
theorem ou{Q Q':AQ}(h:∀ ex e σ,Q ex e σ→Q' ex e σ): ∀(l:List cq) (e:Env) (σ : ai),dA P Q l e σ→dA P Q' l e σ
 | [],e,σ,hh=>h _ _ _ hh
 |⟨o,d,none⟩::r,e,σ,hh=>zj (fun v s=>ou h r _ _) (fun v s=>h _ _ _) hh
 | ⟨o, d, some (k, b)⟩ :: r, e, σ, hh => by
   simp only[dA]at hh ⊢
   split at hh
   ·exact⟨fun ht=>zj (fun v s=>ou h r _ _) (fun v s=>h _ _ _) (hh.1 ht),fun ht=>ou h r _ _ (hh.2 ht)⟩
   ·exact ou h r _ _ hh
   ·exact hh
theorem Lr{K K':Env→ai→Prop}{Q Q':AQ}(hk:∀ e σ,K e σ→K' e σ)(h:∀ ex e σ,Q ex e σ→Q' ex e σ): ∀ ex e σ,tL K Q ex e σ→tL K' Q' ex e σ
 | .normal,_,_=>hk _ _
 | .exit _,_,_=>h _ _ _
 | .goto _,_,_=>h _ _ _
 | .ret,_,_=>h _ _ _
 | .panic _,_,_=>h _ _ _
theorem Xo{nt:Nat}{ps:List Nat}{f:AV}{a b:AQ→Env→ai→Prop}{Q Q':AQ}(h:∀ ex e σ,Q ex e σ→Q' ex e σ)(e:Env)(σ : ai): Nr P nt ps f a b Q e σ→Nr P nt ps f a b Q' e σ:=by
 unfold Nr
 split
 ·refine fun hh o ho hy=>(hh o ho hy).mono fun out s hq=>?_
  cases out with
  | ret r =>
    obtain⟨st,pe,h1,h2,h3⟩:=hq
    refine⟨st,pe,h1,h2,?_⟩
    split at h3<;>first|exact h _ _ _ h3|exact h3
  | panic v=>exact h _ _ _ hq
 ·exact id
theorem DR{c:aI}: ∀ {Q Q':AQ},(∀ ex e σ,Q ex e σ→Q' ex e σ)→ ∀(e:Env) (σ : ai),fH P c Q e σ→fH P c Q' e σ:=by
 induction c with
 | skip=>exact fun h e σ=>h _ _ _
 | region ops=>exact fun h e σ=>ou h ops e σ
 | draw ops jK=>exact fun h e σ=>ou (fun ex e σ hq=>by cases ex<;>first|exact⟨hq.1,h _ _ _ hq.2⟩|exact h _ _ _ hq) ops e σ
 | seq a b Rf Rg=>exact fun h e σ=>Rf (Lr (fun e σ=>Rg h e σ) h) e σ
 | cond c a b Rf Rg =>
   intro Q Q' h e σ hh
   simp only[fH]at hh ⊢
   split at hh
   ·exact⟨fun ht=>Rf h _ _ (hh.1 ht),fun ht=>Rg h _ _ (hh.2 ht)⟩
   ·exact hh
 | block id c ih =>
   intro Q Q' h e σ
   refine ih (fun ex e σ hq=>?_) e σ
   cases ex<;>try exact h _ _ _ hq
   simp only[rF]at hq ⊢
   split at hq
   ·rename_i e1;rw[if_pos e1];exact h _ _ _ hq
   ·rename_i e1;rw[if_neg e1];exact h _ _ _ hq
 | loop c ih =>
   rintro Q Q' h e σ ⟨I,hI,hr⟩
   exact⟨I,hI,fun n e σ hi=>ih (Lr (fun _ _ h=>h) h) _ _ (hr n e σ hi)⟩
 | exit id=>exact fun h e σ=>h _ _ _
 | ret=>exact fun h e σ=>h _ _ _
 | scope l c r zz ihr =>
   rintro Q Q' h e σ ⟨J,h1,h2⟩
   have hj:∀ (J:Env→ai→Prop) ex e σ,qx l J Q ex e σ→qx l J Q' ex e σ:=fun J ex e σ hq=>by
    cases ex<;>first|exact h _ _ _ hq|exact hq
   exact⟨J,zz (hj _) _ _ h1,fun n e σ hi=>ihr (hj _) _ _ (h2 n e σ hi)⟩
 | stop=>exact fun h e σ hh=>hh
 | mC f nt ps a b _ _=>exact fun h e σ=>Xo h e σ
 | label l=>exact fun h e σ=>h _ _ _
 | goto l=>exact fun h e σ=>h _ _ _
def abP{α : Type}(ms:List Nat)(cs : α→List (Nat × AV))(S : α→ai)(A : α→Prop)(μ : α→Nat)(e:Env)(x : α)(e':Env)(σ':ai): Prop :=
 ∃ x',A x'∧ μ x' < μ x∧σ'=S x'∧Gv ms e e'∧At (cs x') e'
theorem a_{c:aI}{Q:AQ}{e:Env}{σ : ai}{α : Type}(ms:List Nat)(cs : α→List (Nat × AV))(S : α→ai)(A : α→Prop)(μ : α→Nat)(x0 : α)(h0:A x0)(Cz : σ = S x0)(bB:At (cs x0) e)
 (hr:∀ x r,A x→fH P c (tL (abP ms cs S A μ e x) Q) (tN (cs x) (OV ms r e)) (S x)):aad P (.mk:Tg (c,Q,e,σ)):=by
 refine⟨fun n e' σ'=> ∃ x,A x∧Gv ms e e'∧At (cs x) e'∧σ'=S x∧ μ x=n,⟨_,x0,h0,fun _ _=>rfl,bB,Cz,rfl⟩,?_⟩
 rintro n e' σ' ⟨x1,a1,o1,t1,rfl,rfl⟩
 have h:=hr x1 e' a1
 rw[Uw o1 _ t1]at h
 refine DR (fun ex e2 σ2 hq=>?_) _ _ h
 cases ex<;>try exact hq
 obtain⟨x',a',hm,hs,ho,ht⟩:=hq
 exact⟨_,hm,x',a',ho,ht,hs,rfl⟩
end Go.AM
namespace Go.AM
variable {P:Program}
mutual
def AV.cF: AV→Bool
 | .own .. | .ref .. | .dD .. | .mp _ | .qS _=>false
 | .agg cs=>AV.bW cs
 | .bJ cs=>AV.bW cs
 | .aG _ _ xs=>AV.bW xs
 | .dW _ x _=>AV.cF x
 | .fn _ a b=>AV.bW a && AV.bW b
 | .nh _ v=>AV.cF v
 | .undef | .bool _ | .int .. | .str _ | .ae | .fM | .tE | .lA | .tF=>true
def AV.bW: List AV→Bool
 | []=>true
 | a::az=>AV.cF a && AV.bW az
end
theorem pE{l:List AV}: AV.bW l=true↔ ∀ a ∈ l,a.cF=true:=by
 induction l with
 | nil=>simp[AV.bW]
 | cons a l ih=>simp[AV.bW,ih]
theorem ic{l:List AV}(h:AV.bW l=true)(i:Nat): (l.getD i .undef).cF=true:=by
 rw[List.getD_eq_getElem?_getD]
 by_cases hi:i<l.length
 ·rw[List.getElem?_eq_getElem hi];exact pE.1 h _ (List.getElem_mem hi)
 ·rw[List.getElem?_eq_none (Nat.le_of_not_lt hi)];rfl
theorem fA{α : Type}(f : α→AV)(l:List α)(h:∀ a,(f a).cF=true): AV.bW (l.map f)=true:=by
 rw[pE];intro a ha;obtain⟨x,_,rfl⟩:=List.mem_map.1 ha;exact h x
theorem J5{a:AV}(h:a.cF=true)(c:Nat): (a.cell c).cF=true:=by
 cases a<;>first|exact h|exact ic h c
theorem VR.cF{g g':aK}{w w':World}(hi:∀ b,g.ei b→g'.ei b∧w'.heap[b]? = w.heap[b]?){a:AV}{v:Value}(h:VR g w a v): a.cF=true→VR g' w' a v:=by
 induction h with
 | undef v=>exact fun _=> .undef v
 | bool b=>exact fun _=> .bool b
 | int k n=>exact fun _=> .int k n
 | str s=>exact fun _=> .str s
 | agg cs vs hl hs _ ih=>exact fun hp=> .agg cs vs hl hs (fun i h=>ih i h (ic hp i))
 | bJ cs vs hl _ ih=>exact fun hp=> .bJ cs vs hl (fun i h=>ih i h (ic hp i))
 | ae=>exact fun _=> .ae
 | jR f el b cap hf=>exact fun _=> .jR f el b cap hf
 | aG f el xs b off cap hb hf hx ft hc _ ih =>
   intro hp
   obtain⟨hi',he⟩:=hi b hb
   refine .aG f el xs b off cap hi' hf hx ft (fun i c h1 h2=>?_) (fun i c h1 h2=>?_)
   ·rw[lM he];exact hc i c h1 h2
   ·rw[rZ he];exact ih i c h1 h2 (J5 (ic hp i) c)
 | own el l m lo n v h=>exact fun hp=>by cases hp
 | ref l off v h=>exact fun hp=>by cases hp
 | dW el x off b o hb ft hc _ ih =>
   intro hp
   obtain⟨hi',he⟩:=hi b hb
   refine .dW el x off b o hi' ft (fun c h2=>?_) (fun c h2=>?_)
   ·rw[lM he];exact hc c h2
   ·rw[rZ he];exact ih c h2 (J5 (a:=x) hp c)
 | dD el l m i off v h=>exact fun hp=>by cases hp
 | fM=>exact fun _=> .fM
 | tE=>exact fun _=> .tE
 | lA=>exact fun _=> .lA
 | fn f first cap first' cap' hl hl' _ _ ih F6 =>
   intro hp
   simp only[AV.cF,Bool.and_eq_true]at hp
   exact .fn f first cap first' cap' hl hl' (fun i h=>ih i h (ic hp.1 i)) (fun i h=>F6 i h (ic hp.2 i))
 | nh t a v _ ih=>exact fun hp=> .nh t a v (ih hp)
 | tF=>exact fun _=> .tF
 | mp l v h=>exact fun hp=>by cases hp
 | qS l v h=>exact fun hp=>by cases hp
mutual
def AV.flat: AV→Bool
 | .agg cs=>AV.Iy cs
 | .bJ cs=>AV.Iy cs
 | .undef | .bool _ | .int .. | .str _ | .ae | .fM | .tE | .lA | .tF=>true
 | .aG _ _ []=>true
 | _=>false
def AV.Iy: List AV→Bool
 | []=>true
 | a::az=>AV.flat a && AV.Iy az
end
theorem Ls{l:List AV}(h:AV.Iy l=true)(i:Nat): (l.getD i .undef).flat=true:=by
 induction l generalizing i with
 | nil=>simp[AV.flat]
 | cons a l ih =>
   simp only[AV.Iy,Bool.and_eq_true]at h
   cases i with
   | zero=>simpa using h.1
   | succ i=>simpa using ih h.2 i
theorem VR.flat{g g':aK}{w w':World}{a:AV}{v:Value}(h:VR g w a v): a.flat=true→VR g' w' a v:=by
 induction h with
 | undef v=>exact fun _=> .undef v
 | bool b=>exact fun _=> .bool b
 | int k n=>exact fun _=> .int k n
 | str s=>exact fun _=> .str s
 | agg cs vs hl hs _ ih=>exact fun hp=> .agg cs vs hl hs (fun i h=>ih i h (Ls hp i))
 | bJ cs vs hl _ ih=>exact fun hp=> .bJ cs vs hl (fun i h=>ih i h (Ls hp i))
 | ae=>exact fun _=> .ae
 | jR f el b cap hf=>exact fun _=> .jR f el b cap hf
 | aG f el xs b off cap hb hf hx ft hc _ ih =>
   intro hp
   cases xs with
   | nil=>exact .jR f el _ cap hf
   | cons x xs=>simp[AV.flat]at hp
 | fM=>exact fun _=> .fM
 | tE=>exact fun _=> .tE
 | lA=>exact fun _=> .lA
 | tF=>exact fun _=> .tF
 | own|ref|dW|dD|fn|nh|mp|qS=>exact fun hp=>by simp[AV.flat]at hp
inductive View (σ : ai):AV→AV→Prop where
 | refl (a:AV) (h:a.cF=true):View σ a a
 | ae (el:El):View σ .ae (.aG false el [])
 | weak (f:Bool) (el:El) (xs:List AV) (h:AV.bW xs=true):View σ (.aG f el xs) (.aG false el xs)
 | aG (f:Bool) (el:El) (xs ys:List AV) (hl:xs.length=ys.length) (h:∀ i,i<xs.length→View σ (xs.getD i .undef) (ys.getD i .undef)):View σ (.aG f el xs) (.aG false el ys)
 | own (T : Option TypeId) (el : El) (l lo n : Nat) (xs ys : List AV) (hl : σ[l]? = some (.bM T el xs)) (hy : ys.length = n) (hn : lo + n ≤ xs.length)
    (h:∀ i,i<n→View σ (xs.getD (lo+i) .undef) (ys.getD i .undef)):View σ (.own el l xs.length lo n) (.aG false el ys)
 | agg (cs ds:List AV) (hl:cs.length=ds.length) (h:∀ i,i<cs.length→View σ (cs.getD i .undef) (ds.getD i .undef)):View σ (.agg cs) (.agg ds)
 | bJ (cs ds:List AV) (hl:cs.length=ds.length) (h:∀ i,i<cs.length→View σ (cs.getD i .undef) (ds.getD i .undef)):View σ (.bJ cs) (.bJ ds)
 | cell (l:Nat) (v:AV) (hl : σ[l]? = some (.cells [v])) (hs:v.fits ⟨false,1⟩=true) (hp:v.cF=true):View σ (.ref l 0) (.dW ⟨false,1⟩ v 0)
 | cells (l n:Nat) (cs:List AV) (hl : σ[l]? = some (.cells cs)) (hn:cs.length=n) (hp:AV.bW cs=true):View σ (.ref l 0) (.dW ⟨true,n⟩ (.agg cs) 0)
 | fn (f : Fn) (az bs cs ds : List AV) (hl : az.length = bs.length) (h : ∀ i, i < az.length → View σ (az.getD i .undef) (bs.getD i .undef))
    (hl':cs.length=ds.length) (h':∀ i,i<cs.length→View σ (cs.getD i .undef) (ds.getD i .undef)):View σ (.fn f az cs) (.fn f bs ds)
def aQ(σ : ai)(cs ds:List AV): Prop:=cs.length=ds.length∧ ∀ i,i<cs.length→View σ (cs.getD i .undef) (ds.getD i .undef)
theorem aQ.nil(σ : ai): aQ σ [] []:=⟨rfl,fun _ h=>absurd h (Nat.not_lt_zero _)⟩
theorem aQ.cons{σ : ai}{a b:AV}{cs ds:List AV}(h:View σ a b)(hs:aQ σ cs ds): aQ σ (a::cs) (b::ds) :=
 ⟨by simp [hs.1], fun i hi => by
   cases i with
   | zero=>simpa using h
   | succ i=>simpa using hs.2 i (by simpa using hi)⟩
theorem aQ.refl{σ : ai}{cs:List AV}(h:AV.bW cs=true): aQ σ cs cs:=⟨rfl,fun i _=> .refl _ (ic h i)⟩
theorem View.mq{σ : ai}{cs ds:List AV}(h:aQ σ cs ds): View σ (.agg cs) (.agg ds):= .agg cs ds h.1 h.2
theorem View.af1{σ : ai}{cs ds:List AV}(h:aQ σ cs ds): View σ (.bJ cs) (.bJ ds):= .bJ cs ds h.1 h.2
theorem View.abQ{σ : ai}{f:Bool}{el:El}{xs ys:List AV}(h:aQ σ xs ys): View σ (.aG f el xs) (.aG false el ys):= .aG f el xs ys h.1 h.2
theorem View.fnL{σ : ai}{f:Fn}{az bs cs ds:List AV}(h:aQ σ az bs)(h':aQ σ cs ds): View σ (.fn f az cs) (.fn f bs ds):= .fn f az bs cs ds h.1 h.2 h'.1 h'.2
theorem View.vec{σ : ai}{T:Option TypeId}{el:El}{l m n:Nat}{xs:List AV}(hl : σ[l]? = some (.bM T el xs))(hm:m=xs.length)(hn:n=xs.length)(h:AV.bW xs=true): View σ (.own el l m 0 n) (.aG false el xs):=by
 subst hm;subst hn
 exact .own T el l 0 xs.length xs xs hl rfl (by omega) (fun i _=>by rw[Nat.zero_add];exact .refl _ (ic h i))
theorem View.abR{σ : ai}{T:Option TypeId}{el:El}{l m n:Nat}{xs ys:List AV}(hl : σ[l]? = some (.bM T el xs))(hm:m=xs.length)(hn:n=xs.length)(h:aQ σ xs ys): View σ (.own el l m 0 n) (.aG false el ys):=by
 subst hm;subst hn
 exact .own T el l 0 xs.length xs ys hl h.1.symm (by omega) (fun i hi=>by rw[Nat.zero_add];exact h.2 i hi)
theorem View.scalar{σ : ai}{a b:AV}(h:View σ a b): b.scalar=a.scalar:=by cases h<;>rfl
theorem View.fits{σ : ai}{a b:AV}(h:View σ a b)(el:El)(hf:a.fits el=true): b.fits el=true:=by
 cases h with
 | agg cs ds hl h =>
   simp only[AV.fits,Bool.and_eq_true,List.all_eq_true,beq_iff_eq]at hf ⊢
   refine⟨⟨hf.1.1,by rw[← hl];exact hf.1.2⟩,fun x hx=>?_⟩
   obtain⟨i,hi,rfl⟩:=List.getElem_of_mem hx
   have h1:=(h i (by omega)).scalar
   rw[List.getD_eq_getElem?_getD,List.getD_eq_getElem?_getD,List.getElem?_eq_getElem hi,List.getElem?_eq_getElem (by omega:i<cs.length)]at h1
   rw[Option.getD_some,Option.getD_some]at h1
   rw[h1];exact hf.2 _ (List.getElem_mem _)
 | refl=>exact hf
 | ae=>exact hf
 | weak=>exact hf
 | aG=>exact hf
 | own=>exact hf
 | bJ=>exact hf
 | cell=>exact hf
 | cells=>exact hf
 | fn=>exact hf
theorem View.mono{σ σ':ai}(hs:∀ (l:Nat) o,σ[l]? = some o→σ'[l]? = some o){a b:AV}(h:View σ a b): View σ' a b:=by
 induction h with
 | refl a h=>exact .refl a h
 | ae el=>exact .ae el
 | weak f el xs h=>exact .weak f el xs h
 | aG f el xs ys hl _ ih=>exact .aG f el xs ys hl ih
 | own T el l lo n xs ys hl hy hn _ ih=>exact .own T el l lo n xs ys (hs _ _ hl) hy hn ih
 | agg cs ds hl _ ih=>exact .agg cs ds hl ih
 | bJ cs ds hl _ ih=>exact .bJ cs ds hl ih
 | cell l v hl h hp=>exact .cell l v (hs _ _ hl) h hp
 | cells l n cs hl hn hp=>exact .cells l n cs (hs _ _ hl) hn hp
 | fn f az bs cs ds hl _ hl' _ ih F6=>exact .fn f az bs cs ds hl ih hl' F6
theorem Rm{g g':aK}{w:World}{σ : ai}{x y:AV}{el:El}(ih:∀ u,VR g w x u→VR g' w y u)(h:View σ x y)(hf:x.fits el=true)(u:Nat→Value)
 (hu:∀ k,k<el.sz→VR g w (x.cell k) (u k)) (c:Nat) (hc:c<el.sz):VR g' w (y.cell c) (u c):=by
 by_cases hx:∃ cs,x = .agg cs
 ·obtain⟨cs,rfl⟩:=hx
  simp only[AV.fits,Bool.and_eq_true,beq_iff_eq]at hf
  have h1:VR g w (.agg cs) (.agg (Array.ofFn fun i:Fin cs.length=>u i)):=by
   refine .agg cs _ (by simp) hf.2 (fun i hi=>?_)
   have:=hu i (by omega)
   simpa[hi,AV.cell]using this
  have h2:=ih _ h1
  generalize hq:y=q at h2
  have:∃ ds,q = .agg ds:=by
   subst hq
   cases h with
   | refl=>exact⟨_,rfl⟩
   | agg _ ds=>exact⟨ds,rfl⟩
  obtain⟨ds,rfl⟩:=this
  cases h2 with
  | agg _ vs hl hs hh =>
    simp only[Array.size_ofFn]at hl
    have:=hh c (by omega)
    have c_:c<cs.length:=by omega
    simpa[c_,AV.cell]using this
 ·have e1:x.cell c=x:=by cases x<;>first|rfl|exact absurd ⟨_,rfl⟩ hx
  have e2:y.cell c=y:=by
   cases h<;>first|rfl|(exact absurd ⟨_,rfl⟩ hx)|exact e1
  rw[e2]
  have:=hu c hc
  rw[e1]at this
  exact ih _ this
theorem View.vr{g g':aK}{w:World}{σ : ai}(hR:Rel g w σ)(hi:∀ b,g.ei b→g'.ei b)(ht:∀ b,lN σ g b→g'.ei b){a b:AV}(hv:View σ a b):
 ∀ {v:Value},VR g w a v→VR g' w b v:=by
 have QM:∀ b,g.ei b→g'.ei b∧w.heap[b]? = w.heap[b]?:=fun b hb=>⟨hi b hb,rfl⟩
 induction hv with
 | refl a h=>exact fun hr=>hr.cF QM h
 | ae el=>intro v hr;cases hr;exact .jR false el none 0 (fun h=>by cases h)
 | weak f el xs h =>
   intro v hr
   cases hr with
   | jR f el b cap hf=>exact .jR false el b cap (fun h=>by cases h)
   | aG f el xs b off cap hb hf hx ft hc hh =>
     exact .aG false el xs b off cap (hi b hb) (fun h=>by cases h) hx ft hc (fun i c h1 h2=>(hh i c h1 h2).cF QM (J5 (ic h i) c))
 | aG f el xs ys hl h ih =>
   intro v hr
   cases hr with
   | jR f el b cap hf =>
     have:ys=[]:=List.length_eq_zero_iff.1 hl.symm
     subst this
     exact .jR false el b cap (fun h=>by cases h)
   | aG f el xs b off cap hb hf hx ft hc hh =>
     rw[hl]
     refine .aG false el ys b off cap (hi b hb) (fun h=>by cases h) (hl ▸ hx) (fun i h1=>(h i (hl ▸ h1)).fits el (ft i (hl ▸ h1))) (fun i c h1 h2=>hc i c (hl ▸ h1) h2) (fun i c h1 h2=>?_)
     exact Rm (fun u=>ih i (hl ▸ h1)) (h i (hl ▸ h1)) (ft i (hl ▸ h1)) (fun k=>eU w ⟨b,off+(i*el.sz+k),none⟩) (fun k hk=>hh i k (hl ▸ h1) hk) c h2
 | own T el l lo n xs ys hl hy hn h ih =>
   intro v hr
   cases hr with
   | own _ _ _ _ _ _ hO =>
     obtain⟨_,_,A,cap,rfl,h4⟩:=hO
     obtain⟨nR,hf0,hrow⟩:=hR.ok l _ hl
     by_cases hn0:n=0
     ·subst hn0
      have:ys=[]:=List.length_eq_zero_iff.1 hy
      subst this
      exact .jR false el A cap (fun h=>by cases h)
     rcases hrow with⟨hx,_,_⟩|⟨b,vs,hb,hrow,hsz,hle,hc,_⟩
     ·subst hx;simp at hn;omega
     obtain⟨_,h6,h7⟩:=h4 nR.symm
     have hlt:lo<g.cap l:=by omega
     have hA:=h7 hlt
     rw[hb]at hA
     simp only[Option.map_some]at hA
     subst hA
     have hidx:∀ i c,i<n→c<el.sz→(lo+i)*el.sz+c<vs.size:=fun i c h1 h2=>by
      rw[hsz]
      calc (lo+i)*el.sz+c<(lo+i)*el.sz+el.sz:=by omega
       _=(lo+i+1)*el.sz:=by rw[Nat.add_mul (lo+i) 1];omega
       _≤g.cap l*el.sz:=Nat.mul_le_mul_right _ (by omega)
     have hoff:∀ i c,lo*el.sz+(i*el.sz+c)=(lo+i)*el.sz+c:=fun i c=>by rw[Nat.add_mul];omega
     subst hy
     refine .aG false el ys b (lo*el.sz) cap (ht b ⟨l,⟨_,hl,rfl⟩,hb⟩) (fun h=>by cases h) (by omega) (fun i h1=>?_) (fun i c h1 h2=>?_) (fun i c h1 h2=>?_)
     ·exact(h i h1).fits el (hf0 (lo+i) (by omega))
     ·rw[hoff,hrow.cell (hidx i c h1 h2)];rfl
     ·rw[hoff]
      have e1:eU w ⟨b,(lo+i)*el.sz+c,none⟩=vs.getD ((lo+i)*el.sz+c) Go.undef:=by
       simp only[eU,hrow.cell (hidx i c h1 h2),Option.getD_some]
      rw[e1]
      exact Rm (fun u=>ih i h1) (h i h1) (hf0 (lo+i) (by omega)) (fun k=>vs.getD ((lo+i)*el.sz+k) Go.undef) (fun k hk=>hc (lo+i) k (by omega) hk) c h2
 | agg cs ds hl h ih =>
   intro v hr
   cases hr with
   | agg _ vs hl' hs hh =>
     refine .agg ds vs (by omega) ?_ (fun i h1=>ih i (by omega) (hh i (by omega)))
     rw[List.all_eq_true]at hs ⊢
     intro x hx
     obtain⟨i,hi',rfl⟩:=List.getElem_of_mem hx
     have h1:=(h i (by omega)).scalar
     rw[List.getD_eq_getElem?_getD,List.getD_eq_getElem?_getD,List.getElem?_eq_getElem hi',List.getElem?_eq_getElem (by omega:i<cs.length)]at h1
     rw[Option.getD_some,Option.getD_some]at h1
     rw[h1];exact hs _ (List.getElem_mem _)
 | bJ cs ds hl h ih =>
   intro v hr
   cases hr with
   | bJ _ vs hl' hh=>exact .bJ ds vs (by omega) (fun i h1=>ih i (by omega) (hh i (by omega)))
 | cell l x hl hs hp =>
   intro v hr
   cases hr with
   | ref _ _ _ hO =>
     obtain⟨_,A,rfl,h2⟩:=hO
     obtain⟨nR,_,b,vs,hb,hrow,hsz,hc,_⟩:=hR.ok l _ hl
     obtain⟨h3,h4⟩:=h2 nR
     rw[hb]at h3;cases h3
     rw[h4]
     have h5:(0:Nat)<vs.size:=by simpa using Nat.lt_of_lt_of_eq Nat.zero_lt_one hsz.symm
     have hcell:=hrow.cell h5
     have hx:=hc 0 (by simp)
     simp only[List.getD_cons_zero]at hx
     refine .dW ⟨false,1⟩ x 0 A.block 0 (ht _ ⟨l,⟨_,hl,rfl⟩,hb⟩) hs (fun c h1=>?_) (fun c h1=>?_)
     ·have:c=0:=by have:c<1:=h1;omega
      subst this;rw[Nat.zero_add,hcell];rfl
     ·have:c=0:=by have:c<1:=h1;omega
      subst this
      have e1:x.cell 0=x:=by cases x<;>first|rfl|simp[AV.fits]at hs
      simp only[Nat.zero_add,eU,hcell,Option.getD_some,e1]
      exact hx.cF QM hp
 | cells l n cs hl hn hp =>
   intro v hr
   cases hr with
   | ref _ _ _ hO =>
     obtain⟨_,A,rfl,h2⟩:=hO
     obtain⟨nR,hsc,b,vs,hb,hrow,hsz,hc,_⟩:=hR.ok l _ hl
     obtain⟨h3,h4⟩:=h2 nR
     rw[hb]at h3;cases h3
     rw[h4]
     refine .dW ⟨true,n⟩ (.agg cs) 0 A.block 0 (ht _ ⟨l,⟨_,hl,rfl⟩,hb⟩) (by simp[AV.fits,hn];simpa using hsc) (fun c h1=>?_) (fun c h1=>?_)
     ·have h1:c<n:=h1
      rw[Nat.zero_add,hrow.cell (by omega)];rfl
     ·have h1:c<n:=h1
      simp only[Nat.zero_add,eU,hrow.cell (show c<vs.size by omega),Option.getD_some]
      exact(hc c (by omega)).cF QM (ic hp c)
 | fn f az bs cs ds hl h hl' h' ih F6 =>
   intro v hr
   cases hr with
   | fn _ _ _ first' cap' k1 k2 k3 k4=>exact .fn f bs ds first' cap' (by omega) (by omega) (fun i h1=>ih i (by omega) (k3 i (by omega))) (fun i h1=>F6 i (by omega) (k4 i (by omega)))
def aq(P:Program)(f:FuncId)(args:List AV)(r:AV): Prop:= ∀ σ,A6 P f args σ r
theorem gw{g:aK}{b:Nat}: ¬ lN [] g b:=fun⟨_,⟨_,h,_⟩,_⟩=>by simp at h
def aK.zA(g:aK)(lo hi:Nat): aK:= { g with ei:=fun b=>g.ei b∨(lo≤b∧b<hi) }
theorem Rel.zA{g:aK}{w w':World}{σ : ai}(h:Rel g w σ)(hsz:w.heap.size≤w'.heap.size)(hos:w'.os=w.os)(Dy:w'.tape=w.tape)(hout:w'.output=w.output)
 (hf:∀ b,b<w.heap.size→w'.heap[b]? = w.heap[b]?):Rel (g.zA w.heap.size w'.heap.size) w' σ∧eM σ g w σ (g.zA w.heap.size w'.heap.size) w':=by
 have hm:jy g w (g.zA w.heap.size w'.heap.size) w':=⟨fun b hb=>⟨.inl hb,hf b (h.lt b hb)⟩,Nat.le_refl _,fun _ _=>⟨Nat.le_refl _,fun _=>⟨rfl,rfl⟩⟩⟩
 refine⟨⟨h.len,fun b hb=>?_,fun l o ho=>?_,h.inj,fun l b hl hb hi=>?_,h.jS.mono hm.ei⟩,⟨hm,hsz,hos,Dy,hout,fun b hb _=>hf b hb,fun b hb hi=>?_,fun b _ ht=>ht⟩⟩
 ·rcases hb with hb|hb
  ·exact Nat.lt_of_lt_of_le (h.lt b hb) hsz
  ·exact hb.2
 ·have hl:l<g.n:=by rw[← h.len];exact(List.getElem?_eq_some_iff.1 ho).1
  by_cases hv:o.live=true
  ·exact(h.ok l o ho).step hm hl rfl (fun b hb=>hf b (h.gD ⟨o,ho,hv⟩ hb))
  ·cases o<;>simp[aR.live]at hv
   trivial
 ·rcases hi with hi|hi
  ·exact h.uU l b hl hb hi
  ·have:=h.gD hl hb;omega
 ·rcases hi with hi|hi
  ·exact .inl hi
  ·omega
def aK.bare(I:Nat→Prop): aK:=⟨I,0,fun _=>0,fun _=>none,fun _=>0⟩
theorem Rel.bare{I:Nat→Prop}{w:World}(h:∀ b,I b→b<w.heap.size)(hg:A4 (aK.bare I) w): Rel (aK.bare I) w [] :=
 ⟨rfl,h,fun _ _ h=>by simp at h,fun _ _ _ ⟨_,h,_⟩=>by simp at h,fun _ _ ⟨_,h,_⟩=>by simp at h,hg⟩
theorem aq.of_nil{f:FuncId}{args:List AV}{r:AV}(h:ef P f args [] fun o σ'=> ∃ r0,o = .ret r0∧View σ' r0 r)(hp:AV.bW args=true): aq P f args r:=by
 intro σ
 refine⟨h.1,fun g w vs hR hlen hv=>?_⟩
 refine(h.2 (aK.bare g.ei) w vs (Rel.bare hR.lt ⟨hR.jS.1,hR.jS.2⟩) hlen (fun i hi=>VR.cF (g:=g) (g':=aK.bare g.ei) (fun b hb=>⟨hb,rfl⟩) (hv i hi) (ic hp i))).mono ?_
 rintro e w' ⟨out,g',σ',hR',hE,hO,r0,rfl,Lt⟩
 have hfr:∀ b,b<w.heap.size→w'.heap[b]? = w.heap[b]?:=fun b hb=>hE.frame b hb gw
 obtain⟨h1,h2⟩:=hR.zA hE.size hE.os hE.tape hE.output hfr
 refine⟨.ret r,_,σ,h1,h2,?_,rfl,rfl⟩
 cases e with
 | returned v =>
   refine Lt.vr hR' (fun b hb=>?_) (fun b hb=>?_) hO
   ·by_cases hlt:b<w.heap.size
    ·rcases hE.zc b hlt hb with h3|h3
     ·exact .inl h3
     ·exact absurd h3 gw
    ·exact .inr ⟨by omega,hR'.lt b hb⟩
   ·by_cases hlt:b<w.heap.size
    ·exact absurd (hE.Oq b hlt hb) gw
    ·exact .inr ⟨by omega,hR'.Dx hb⟩
 | panicked c=>exact hO.elim
 | outgrown=>exact hO.elim
theorem aq.view{f:FuncId}{args args':List AV}{r:AV}{σ : ai}(h:aq P f args' r)(hv:aQ σ args args')(hr:r.flat=true): A6 P f args σ r:=by
 refine⟨(h []).1,fun g w vs hR hlen hvs=>?_⟩
 let I:Nat→Prop:=fun b=>g.ei b∨lN σ g b
 have hlt:∀ b,I b→b<w.heap.size:=fun b hb=>by
  rcases hb with hb|hb
  ·exact hR.lt b hb
  ·exact hR.Dx hb
 refine((h []).2 (aK.bare I) w vs (Rel.bare hlt ⟨fun b hb=> .inl (hR.jS.1 b hb),hR.jS.2⟩) (hv.1 ▸ hlen) (fun i hi=>?_)).mono ?_
 ·exact(hv.2 i (hv.1 ▸ hi)).vr (g':=aK.bare I) hR (fun b hb=> .inl hb) (fun b hb=> .inr hb) (hvs i (hv.1 ▸ hi))
 rintro e w' ⟨out,g',σ',hR',hE,hO,rfl,rfl⟩
 have hfr:∀ b,b<w.heap.size→w'.heap[b]? = w.heap[b]?:=fun b hb=>hE.frame b hb gw
 obtain⟨h1,h2⟩:=hR.zA hE.size hE.os hE.tape hE.output hfr
 refine⟨.ret r,_,σ,h1,h2,?_,rfl,rfl⟩
 cases e with
 | returned v=>exact VR.flat (a:=r) hO hr
 | panicked c=>exact hO.elim
 | outgrown=>exact hO.elim
theorem View.af2{a b:AV}(h:View [] a b): a.cF=true:=by
 induction h with
 | refl a h=>exact h
 | ae=>rfl
 | weak f el xs h=>exact h
 | aG f el xs ys hl h ih =>
   refine pE.2 fun x hx=>?_
   obtain⟨i,hi,rfl⟩:=List.getElem_of_mem hx
   have:=ih i hi
   rwa[List.getD_eq_getElem?_getD,List.getElem?_eq_getElem hi,Option.getD_some]at this
 | own T el l lo n xs ys hl=>simp at hl
 | agg cs ds hl h ih =>
   refine pE.2 fun x hx=>?_
   obtain⟨i,hi,rfl⟩:=List.getElem_of_mem hx
   have:=ih i hi
   rwa[List.getD_eq_getElem?_getD,List.getElem?_eq_getElem hi,Option.getD_some]at this
 | bJ cs ds hl h ih =>
   refine pE.2 fun x hx=>?_
   obtain⟨i,hi,rfl⟩:=List.getElem_of_mem hx
   have:=ih i hi
   rwa[List.getD_eq_getElem?_getD,List.getElem?_eq_getElem hi,Option.getD_some]at this
 | cell l v hl=>simp at hl
 | cells l n cs hl=>simp at hl
 | fn f az bs cs ds hl h hl' h' ih F6 =>
   simp only[AV.cF,Bool.and_eq_true]
   refine⟨pE.2 fun x hx=>?_,pE.2 fun x hx=>?_⟩
   ·obtain⟨i,hi,rfl⟩:=List.getElem_of_mem hx
    have:=ih i hi
    rwa[List.getD_eq_getElem?_getD,List.getElem?_eq_getElem hi,Option.getD_some]at this
   ·obtain⟨i,hi,rfl⟩:=List.getElem_of_mem hx
    have:=F6 i hi
    rwa[List.getD_eq_getElem?_getD,List.getElem?_eq_getElem hi,Option.getD_some]at this
theorem View.abS{g:aK}{w:World}{a b:AV}(h:View [] a b){v:Value}(hv:VR g w a v): VR (aK.bare g.ei) w a v:=VR.cF (g:=g) (g':=aK.bare g.ei) (fun _ hb=>⟨hb,rfl⟩) hv h.af2
theorem aq.weak{f:FuncId}{args args':List AV}{r:AV}(h:aq P f args' r)(hv:aQ [] args args'): aq P f args r:=by
 intro σ
 refine⟨(h []).1,fun g w vs hR hlen hvs=>?_⟩
 refine((h σ).2 g w vs hR (hv.1 ▸ hlen) (fun i hi=>?_))
 refine View.vr (σ:=[]) (g:=aK.bare g.ei) (g':=g) (Rel.bare hR.lt ⟨hR.jS.1,hR.jS.2⟩) (fun b hb=>hb) (fun b hb=>absurd hb gw) (hv.2 i (hv.1 ▸ hi)) ?_
 exact View.abS (hv.2 i (hv.1 ▸ hi)) (hvs i (hv.1 ▸ hi))
end Go.AM
namespace Go.AM
variable {P:Program}
def aV(P:Program)(f:FuncId)(off:Nat)(args:List AV)(cs ds:List AV)(r:AV): Prop :=
 ∀(σ : ai) (k:Nat),σ[k]? = some (.cells cs)→ef P f (.ref k off::args) σ fun o σ'=>o = .ret r∧σ' = σ.set k (.cells ds)
theorem Bc{σ : ai}{k:Nat}{o o':aR}(h : σ[k]? = some o): (σ.set k o')[k]? = some o':=by
 have:=(List.getElem?_eq_some_iff.1 h).1
 simp[this]
theorem aV.Xp{f:FuncId}{off:Nat}{A:Nat→List AV}{cs ds:List AV}{r:AV}(hl:∀ k,(A k).length=(A 0).length)
 (h:ef P f (.ref 0 off::A 0) [.cells cs] fun o σ'=> ∃ r0 lT τ,o = .ret r0∧σ' = .cells lT:: τ∧View (.dead:: τ) r0 r∧aQ (.dead:: τ) lT ds)
 (hA:∀ (g g0:aK) (w:World) (k:Nat),(∀ c,g.ei c→g0.ei c∧w.heap[c]? = w.heap[c]?)→(∀ o v,VR g w (.ref k o) v→VR g0 w (.ref 0 o) v)→ ∀ i v,VR g w ((A k).getD i .undef) v→VR g0 w ((A 0).getD i .undef) v) (hc:AV.bW cs=true) :
 ∀(σ : ai) (k:Nat),σ[k]? = some (.cells cs)→ef P f (.ref k off::A k) σ fun o σ'=>o = .ret r∧σ' = σ.set k (.cells ds):=by
 intro σ k hk
 refine⟨h.1,fun g w vs hR hlen hv=>?_⟩
 have hkn:k<g.n:=by rw[← hR.len];exact(List.getElem?_eq_some_iff.1 hk).1
 have ld:Live σ k:=⟨_,hk,rfl⟩
 obtain⟨abT,hsc,b,us,hb,hrow,hus,hcell,_⟩:=hR.ok k _ hk
 let g0:aK:=⟨g.ei,1,fun _=>1,fun _=>some b,fun _=>g.cap k⟩
 have ahN:b<w.heap.size:=hrow.lt
 have Vx:¬ g.ei b:=hR.uU k b ld hb
 have hpi:∀ c,g.ei c→g0.ei c∧w.heap[c]? = w.heap[c]?:=fun c hc=>⟨hc,rfl⟩
 have hR0:Rel g0 w [.cells cs]:=by
  refine⟨rfl,hR.lt,fun l o ho=>?_,fun l l' c hl hl' _ _=>?_,fun l c hl hc=>?_,⟨hR.jS.1,hR.jS.2⟩⟩
  ·cases l with
   | zero =>
     simp at ho;subst ho
     exact⟨rfl,hsc,b,us,rfl,hrow,hus,fun i hi=>(hcell i hi).cF hpi (ic hc i),trivial⟩
   | succ l=>simp at ho
  ·have h1:=hl.lt;have h2:=hl'.lt
   simp at h1 h2;omega
  ·have:c=b:=by simpa[g0]using hc.symm
   subst this;exact Vx
 have YS:∀ c,lN [.cells cs] g0 c↔c=b:=fun c=>by
  constructor
  ·rintro⟨l,_,hc⟩;simpa[g0]using hc.symm
  ·rintro rfl;exact⟨0,⟨_,rfl,rfl⟩,rfl⟩
 have Vy:∀ o v,VR g w (.ref k o) v→VR g0 w (.ref 0 o) v:=fun o v this=>by
  cases this with
  | ref _ _ _ hh =>
    obtain⟨_,A,e,h2⟩:=hh
    refine .ref _ _ _ ⟨⟨Nat.zero_lt_one,Nat.le_refl _⟩,A,e,fun _=>?_⟩
    have:=h2 abT
    rw[hb]at this
    exact this
 have nR:∀ i,i<(AV.ref 0 off::A 0).length→VR g0 w ((AV.ref 0 off::A 0).getD i .undef) (vs.getD i Go.undef):=fun i hi=>by
  have:=hv i (by simpa[hl k]using hi)
  cases i with
  | zero =>
    simp only[List.getD_cons_zero]at this ⊢
    exact Vy _ _ this
  | succ i =>
    simp only[List.getD_cons_succ]at this ⊢
    exact hA g g0 w k hpi Vy i _ this
 refine(h.2 g0 w vs hR0 (by simpa[hl k]using hlen) nR).mono ?_
 rintro e w' ⟨out,g',σ',hR',hE,hO,r0,lT,τ,rfl,rfl,Lt,Rn⟩
 have hfr:∀ c,c<w.heap.size→c≠b→w'.heap[c]? = w.heap[c]?:=fun c hc hne=>hE.frame c hc (fun t=>hne ((YS c).1 t))
 obtain⟨adQ,YD,b',us',hb',adR,ahO,abU,_⟩:=hR'.ok 0 _ rfl
 have Rh:b'=b:=by
  have:=(hE.mono.eu 0 (by show 0<1;omega)).2 adQ
  rw[hb']at this
  simpa[g0]using this.1
 subst Rh
 let g2:aK:= { g with ei:=fun c=>g.ei c∨(w.heap.size≤c∧c<w'.heap.size) }
 have adS:∀ c,g'.ei c→g2.ei c:=fun c hc=>by
  by_cases hlt:c<w.heap.size
  ·rcases hE.zc c hlt hc with h3|h3
   ·exact .inl h3
   ·exfalso
    have:=(YS c).1 h3
    subst this
    exact hR'.uU 0 c ⟨_,rfl,rfl⟩ hb' hc
  ·exact .inr ⟨by omega,hR'.lt c hc⟩
 have hm:jy g w g2 w':=⟨fun c hc=>⟨.inl hc,hfr c (hR.lt c hc) (fun e=>Vx (e ▸ hc))⟩,Nat.le_refl _,fun _ _=>⟨Nat.le_refl _,fun _=>⟨rfl,rfl⟩⟩⟩
 have ahn:¬ g2.ei b':=fun hh=>by
  rcases hh with hh|hh
  ·exact Vx hh
  ·omega
 have Xq:∀ {x y:AV},View (.dead:: τ) x y→ ∀ {v:Value},VR g' w' x v→VR g2 w' y v:=fun {x y} af3 {v} Gw=>by
  have hRd:Rel g' w' (.dead:: τ):=by
   have hlen:=hR'.len
   refine⟨by simpa using hlen,hR'.lt,fun l o ho=>?_,fun l l' c hl hl'=>?_,fun l c hl=>?_,hR'.jS⟩
   ·cases l with
    | zero=>simp at ho;subst ho;trivial
    | succ l=>exact hR'.ok (l+1) o (by simpa using ho)
   ·have lift : ∀ l, Live (.dead :: τ) l → Live (.cells lT :: τ) l := fun l hl => by
     obtain⟨o,ho,hv⟩:=hl
     cases l with
     | zero=>simp at ho;subst ho;cases hv
     | succ l=>exact⟨o,by simpa using ho,hv⟩
    exact hR'.inj l l' c (lift l hl) (lift l' hl')
   ·obtain⟨o,ho,hv⟩:=hl
    cases l with
    | zero=>simp at ho;subst ho;cases hv
    | succ l=>exact hR'.uU (l+1) c ⟨o,by simpa using ho,hv⟩
  refine af3.vr hRd adS (fun c hc=>?_) Gw
  obtain⟨l,⟨o,ho,hv⟩,hc⟩:=hc
  cases l with
  | zero=>simp at ho;subst ho;cases hv
  | succ l =>
    have hl1:Live (.cells lT:: τ) (l+1):=⟨o,by simpa using ho,hv⟩
    refine .inr ⟨?_,hR'.gD hl1 hc⟩
    apply Nat.le_of_not_lt
    intro hlt
    have:=(YS c).1 (hE.Oq c hlt ⟨_,hl1,hc⟩)
    subst this
    have:=hR'.inj (l+1) 0 c hl1 ⟨_,rfl,rfl⟩ hc hb'
    omega
 have hds:lT.length=ds.length:=Rn.1
 have Lu:Rel g2 w' (σ.set k (.cells ds)):=by
  refine⟨by simp[g2,hR.len],fun c hc=>?_,fun l o ho=>?_,fun l l' c hl hl'=>?_,fun l c hl hc hi=>?_,hR.jS.mono hm.ei⟩
  ·rcases hc with hc|hc
   ·exact Nat.lt_of_lt_of_le (hR.lt c hc) hE.size
   ·exact hc.2
  ·by_cases hlk:l=k
   ·subst hlk
    rw[Bc hk]at ho
    cases ho
    refine⟨abT,?_,b',us',hb,adR,by omega,fun i hi=>Xq (Rn.2 i (by omega)) (abU i (by omega)),trivial⟩
    rw[List.all_eq_true]at YD ⊢
    intro x hx
    obtain⟨i,hi,rfl⟩:=List.getElem_of_mem hx
    have h1:=(Rn.2 i (by omega)).scalar
    rw[List.getD_eq_getElem?_getD,List.getD_eq_getElem?_getD,List.getElem?_eq_getElem hi,List.getElem?_eq_getElem (by omega:i<lT.length)]at h1
    rw[Option.getD_some,Option.getD_some]at h1
    rw[h1];exact YD _ (List.getElem_mem _)
   ·rw[List.getElem?_set_ne (Ne.symm hlk)]at ho
    have hl:l<g.n:=by rw[← hR.len];exact(List.getElem?_eq_some_iff.1 ho).1
    by_cases hvv:o.live=true
    ·exact(hR.ok l o ho).step hm hl rfl (fun c hc=>hfr c (hR.gD ⟨o,ho,hvv⟩ hc) (fun e=>hlk (hR.inj l k c ⟨o,ho,hvv⟩ ld hc (e ▸ hb))))
    ·cases o<;>simp[aR.live]at hvv
     trivial
  ·have lift : ∀ l, Live (σ.set k (.cells ds)) l → Live σ l := fun l hl => by
    rcases kO hl with⟨rfl,_,_⟩|⟨_,hl⟩
    ·exact ld
    ·exact hl
   exact hR.inj l l' c (lift l hl) (lift l' hl')
  ·have hl' : Live σ l := by
    rcases kO hl with⟨rfl,_,_⟩|⟨_,hl⟩
    ·exact ld
    ·exact hl
   rcases hi with hi|hi
   ·exact hR.uU l c hl' hc hi
   ·have:=hR.gD hl' hc;omega
 refine⟨.ret r,g2,_,Lu,⟨hm,hE.size,hE.os,hE.tape,hE.output,fun c hc ht=>?_,fun c hc hi=>?_,fun c hc ht=>?_⟩,?_,rfl,rfl⟩
 ·exact hfr c hc (fun e=>ht ⟨k,ld,e ▸ hb⟩)
 ·rcases hi with hi|hi
  ·exact .inl hi
  ·omega
 ·obtain⟨l,hl,Jb⟩:=ht
  rcases kO hl with⟨rfl,_,_⟩|⟨_,hl⟩
  ·exact⟨_,ld,Jb⟩
  ·exact⟨l,hl,Jb⟩
 ·cases e with
  | returned v=>exact Xq Lt hO
  | panicked c=>exact hO.elim
  | outgrown=>exact hO.elim
theorem aV.bH{f:FuncId}{off:Nat}{args cs ds:List AV}{r:AV}
 (h:ef P f (.ref 0 off::args) [.cells cs] fun o σ'=> ∃ r0 lT τ,o = .ret r0∧σ' = .cells lT:: τ∧View (.dead:: τ) r0 r∧aQ (.dead:: τ) lT ds) (hp:AV.bW args=true) (hc:AV.bW cs=true) :
 aV P f off args cs ds r:=aV.Xp (A:=fun _=>args) (fun _=>rfl) h (fun _ _ _ _ hpi _ i _ hv=>hv.cF hpi (ic hp i)) hc
def Gx(P:Program)(f:FuncId)(cs ds:List AV)(r:AV)(F:FuncId): Prop :=
 ∀(σ : ai) (k:Nat),σ[k]? = some (.cells cs)→ef P f [.ref k 0,.fn (.func F) [.ref k 0] []] σ fun o σ'=>o = .ret r∧σ' = σ.set k (.cells ds)
theorem Gx.bH{f F:FuncId}{cs ds:List AV}{r:AV}
 (h:ef P f [.ref 0 0,.fn (.func F) [.ref 0 0] []] [.cells cs] fun o σ'=> ∃ r0 lT τ,o = .ret r0∧σ' = .cells lT:: τ∧View (.dead:: τ) r0 r∧aQ (.dead:: τ) lT ds) (hc:AV.bW cs=true):Gx P f cs ds r F:=by
 refine aV.Xp (A:=fun k=>[.fn (.func F) [.ref k 0] []]) (fun _=>rfl) h (fun g g0 w k hpi Vy i v hv=>?_) hc
 cases i with
 | succ i=>exact hv.cF hpi rfl
 | zero =>
   cases hv with
   | fn f' first cap first' cap' hl hl' h1 h2 =>
     refine .fn _ _ _ _ _ hl hl' (fun i hi=>?_) (fun i hi=>absurd hi (Nat.not_lt_zero _))
     cases i with
     | zero=>exact Vy _ _ (h1 0 (Nat.zero_lt_one))
     | succ i=>simp at hi
section
variable {n:FuncId} {args:List AV} {σ : ai} {K Kp:AV→ai→Prop} {r:AV}
theorem CA(h:aq P n args r)(hk:kg r (.mk:Tg fun r=>K r σ)): yI P n args σ (.mk:Tg (K,Kp)):=Uu h hk
theorem CB(h:aq P n args r)(hk:kg r (.mk:Tg fun r=>K r σ)): DP P n args σ (.mk:Tg (K,Kp)):=Uv h hk
theorem aay{args':List AV}(h:aq P n args' r)(hv:aQ [] args args')(hk:kg r (.mk:Tg fun r=>K r σ)): yI P n args σ (.mk:Tg (K,Kp)):=Uu (aq.weak h hv) hk
theorem aaz{args':List AV}(h:aq P n args' r)(hv:aQ [] args args')(hk:kg r (.mk:Tg fun r=>K r σ)): DP P n args σ (.mk:Tg (K,Kp)):=Uv (aq.weak h hv) hk
theorem sX{args':List AV}(h:aq P n args' r)(hv:aQ σ args args')(hr:r.flat=true)(hk:kg r (.mk:Tg fun r=>K r σ)): yI P n args σ (.mk:Tg (K,Kp)) :=
 (aq.view h hv hr).mono fun o s ⟨h1,h2⟩=>by subst h1;subst h2;exact hk
theorem aaA{args':List AV}(h:aq P n args' r)(hv:aQ σ args args')(hr:r.flat=true)(hk:kg r (.mk:Tg fun r=>K r σ)): DP P n args σ (.mk:Tg (K,Kp)) :=
 ⟨r, fun τ => aq.view h ⟨hv.1, fun i hi => (hv.2 i hi).mono (fun l o hl => by
   rw[List.getElem?_append_left (List.getElem?_eq_some_iff.1 hl).1];exact hl)⟩ hr,hk⟩
theorem Ro{k:Nat}{F:FuncId}{cs ds:List AV}(h:Gx P n cs ds r F)(Cz : σ[k]? = some (.cells cs))(hk:kg r (.mk:Tg fun r=>DM (σ.set k (.cells ds)) (.mk:Tg fun σ=>K r σ))):
 yI P n [.ref k 0,.fn (.func F) [.ref k 0] []] σ (.mk:Tg (K,Kp)) :=
 (h σ k Cz).mono fun o s ⟨h1,h2⟩=>by subst h1;subst h2;exact hk
theorem Nu{k off:Nat}{cs ds:List AV}(h:aV P n off args cs ds r)(Cz : σ[k]? = some (.cells cs))(hk:kg r (.mk:Tg fun r=>DM (σ.set k (.cells ds)) (.mk:Tg fun σ=>K r σ))):
 yI P n (.ref k off::args) σ (.mk:Tg (K,Kp)) :=
 (h σ k Cz).mono fun o s ⟨h1,h2⟩=>by subst h1;subst h2;exact hk
end
end Go.AM
