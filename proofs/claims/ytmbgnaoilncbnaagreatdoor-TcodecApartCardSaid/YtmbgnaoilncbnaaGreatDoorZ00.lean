/- Part of a proof: see Root. -/
import Derived.Test.YtmbgnaoilncbnaaGreatDoorProg
import Derived.Lib.ItoaMem
import Derived.KernelRfl
import Derived.Calls
import Derived.Orders
import Derived.Below
set_option linter.unnecessarySimpa false
set_option linter.unusedSimpArgs false
set_option linter.unusedVariables false
namespace Go.AM
def Qz: List Nat:=[1]
def Cr (w : World) : Prop := Lib.TabIs Go.Proofs.Tryz.prog w "internal/strconv.uint64pow10" .u64 Lib.pow10Tab
theorem Oo : Go.Proofs.Tryz.prog.globalNamed "internal/strconv.uint64pow10" = some 1 := by kernel_rfl
theorem Cr.of_heap{w w':World}(h:Cr w)(hb:∀ b ∈ Qz,w'.heap[b]? = w.heap[b]?): Cr w':=by
 unfold Cr Lib.TabIs World.var? at *
 simp only[Oo,Option.bind_some]at h ⊢
 rw[hb 1 (by simp[Qz])]
 exact h
end Go.AM
namespace Go.AM
structure El where
 ag:Bool
 sz:Nat
deriving DecidableEq,Inhabited,Repr
inductive AV where
 | undef
 | bool (b:Bool)
 | int (k:IntKind) (n:Int)
 | str (s:List UInt8)
 | agg (cs:List AV)
 | bJ (vs:List AV)
 | ae
 | aG (full:Bool) (el:El) (xs:List AV)
 | own (el:El) (l m lo n:Nat)
 | ref (l off:Nat)
 | dW (el:El) (x:AV) (off:Nat)
 | dD (el:El) (l m i off:Nat)
 | fM
 | tE
 | lA
 | fn (f:Fn) (first cap:List AV)
 | nh (t:TypeId) (v:AV)
 | tF
 | mp (l:Nat)
 | qS (l:Nat)
deriving Inhabited
def AV.scalar: AV→Bool
 | .agg _ | .bJ _ | .undef=>false
 | _=>true
def AV.cell: AV→Nat→AV
 | .agg cs,i=>cs.getD i .undef
 | v,_=>v
def AV.cells: AV→List AV
 | .agg cs=>cs
 | v=>[v]
def AV.fits(el:El): AV→Bool
 | .agg cs=>el.ag && cs.length==el.sz && cs.all AV.scalar
 | .bJ _ | .undef=>false
 | _=> !el.ag && el.sz==1
structure aK where
 ei:Nat→Prop
 n:Nat
 eu:Nat→Nat
 base:Nat→Option Nat
 cap:Nat→Nat
def eU(w:World)(a:Addr): Value:=(w.cell? a).getD undef
def ae1(g:aK)(el:El)(l m lo n:Nat)(v:Value): Prop :=
 l < g.n ∧ m ≤ g.eu l ∧ ∃ A cap, v = .slice A n cap ∧ (m = g.eu l → lo + n ≤ m ∧ cap + lo = g.cap l ∧
   (lo<g.cap l→A=(g.base l).map fun b=>⟨b,lo*el.sz,none⟩))
def ae2(g:aK)(l off:Nat)(v:Value): Prop :=
 (l<g.n∧1≤g.eu l)∧ ∃ A,v = .pointer (some A)∧(g.eu l=1→g.base l=some A.block∧A=⟨A.block,off,none⟩)
def adi(g:aK)(el:El)(l m i off:Nat)(v:Value): Prop :=
 l<g.n∧m≤g.eu l∧ ∃ A,v = .pointer (some A)∧(m=g.eu l→g.base l=some A.block∧A=⟨A.block,i*el.sz+off,none⟩)
def MpP(g:aK)(l:Nat)(v:Value): Prop :=
 l<g.n∧ ∃ b,v = .map (some b)∧(g.eu l=0→g.base l=some b)
def ae3(g:aK)(l:Nat)(v:Value): Prop :=
 l<g.n∧ ∃ b,v = .func (.yield b) #[] #[]∧(g.eu l=0→g.base l=some b)
inductive VR (g:aK) (w:World):AV→Value→Prop where
 | undef (v:Value):VR g w .undef v
 | bool (b:Bool):VR g w (.bool b) (.bool b)
 | int (k:IntKind) (n:Int):VR g w (.int k n) (.int k n)
 | str (s:List UInt8):VR g w (.str s) (.string ⟨s.toArray⟩)
 | agg (cs : List AV) (vs : Array Value) (hl : cs.length = vs.size) (hs : cs.all AV.scalar = true)
    (h:∀ i,i<cs.length→VR g w (cs.getD i .undef) (vs.getD i Go.undef)):VR g w (.agg cs) (.agg vs)
 | bJ (cs : List AV) (vs : Array Value) (hl : cs.length = vs.size)
    (h:∀ i,i<cs.length→VR g w (cs.getD i .undef) (vs.getD i Go.undef)):VR g w (.bJ cs) (.tuple vs)
 | ae:VR g w .ae (.slice none 0 0)
 | jR (f:Bool) (el:El) (b:Option Addr) (cap:Nat) (hf:f=true→cap=0):VR g w (.aG f el []) (.slice b 0 cap)
 | aG (f : Bool) (el : El) (xs : List AV) (b off cap : Nat) (hi : g.ei b) (hf : f = true → cap = xs.length) (hx : xs.length ≤ cap)
    (ft:∀ i,i<xs.length→(xs.getD i .undef).fits el=true)
    (hc:∀ i c,i<xs.length→c<el.sz→(w.cell? ⟨b,off+(i*el.sz+c),none⟩).isSome=true)
    (h:∀ i c,i<xs.length→c<el.sz→VR g w ((xs.getD i .undef).cell c) (eU w ⟨b,off+(i*el.sz+c),none⟩)) :
    VR g w (.aG f el xs) (.slice (some ⟨b,off,none⟩) xs.length cap)
 | own (el:El) (l m lo n:Nat) (v:Value) (h:ae1 g el l m lo n v):VR g w (.own el l m lo n) v
 | ref (l off:Nat) (v:Value) (h:ae2 g l off v):VR g w (.ref l off) v
 | dW (el : El) (x : AV) (off b o : Nat) (hi : g.ei b) (ft : x.fits el = true)
    (hc:∀ c,c<el.sz→(w.cell? ⟨b,o+c,none⟩).isSome=true)
    (h:∀ c,c<el.sz→VR g w (x.cell c) (eU w ⟨b,o+c,none⟩)) :
    VR g w (.dW el x off) (.pointer (some ⟨b,o+off,none⟩))
 | dD (el:El) (l m i off:Nat) (v:Value) (h:adi g el l m i off v):VR g w (.dD el l m i off) v
 | fM:VR g w .fM (.pointer none)
 | tE:VR g w .tE .nilFunc
 | lA:VR g w .lA .nilIface
 | fn (f : Fn) (first cap : List AV) (first' cap' : Array Value) (hl : first.length = first'.size) (hl' : cap.length = cap'.size)
    (h:∀ i,i<first.length→VR g w (first.getD i .undef) (first'.getD i Go.undef))
    (h':∀ i,i<cap.length→VR g w (cap.getD i .undef) (cap'.getD i Go.undef)):VR g w (.fn f first cap) (.func f first' cap')
 | nh (t:TypeId) (a:AV) (v:Value) (h:VR g w a v):VR g w (.nh t a) (.iface t v)
 | tF:VR g w .tF (.map none)
 | mp (l:Nat) (v:Value) (h:MpP g l v):VR g w (.mp l) v
 | qS (l:Nat) (v:Value) (h:ae3 g l v):VR g w (.qS l) v
structure jy (g:aK) (w:World) (g':aK) (w':World):Prop where
 ei:∀ b,g.ei b→g'.ei b∧w'.heap[b]? = w.heap[b]?
 n:g.n≤g'.n
 eu:∀ l,l<g.n→g.eu l≤g'.eu l∧(g'.eu l=g.eu l→g'.base l=g.base l∧g'.cap l=g.cap l)
theorem jy.refl(g:aK)(w:World): jy g w g w:=⟨fun _ h=>⟨h,rfl⟩,Nat.le_refl _,fun _ _=>⟨Nat.le_refl _,fun _=>⟨rfl,rfl⟩⟩⟩
theorem jy.trans{g1 g2 g3:aK}{w1 w2 w3:World}(h:jy g1 w1 g2 w2)(k:jy g2 w2 g3 w3): jy g1 w1 g3 w3:=by
 refine⟨fun b hb=>?_,Nat.le_trans h.n k.n,fun l hl=>?_⟩
 ·obtain⟨h1,h2⟩:=h.ei b hb
  obtain⟨h3,h4⟩:=k.ei b h1
  exact⟨h3,h4.trans h2⟩
 ·obtain⟨a1,a2⟩:=h.eu l hl
  obtain⟨b1,b2⟩:=k.eu l (Nat.lt_of_lt_of_le hl h.n)
  refine⟨Nat.le_trans a1 b1,fun e=>?_⟩
  have e1:g2.eu l=g1.eu l:=by omega
  have e2:g3.eu l=g2.eu l:=by omega
  exact⟨(b2 e2).1.trans (a2 e1).1,(b2 e2).2.trans (a2 e1).2⟩
theorem lM{w w':World}{b:Nat}(h:w'.heap[b]? = w.heap[b]?)(o:Nat)(s:Option Nat): w'.cell? ⟨b,o,s⟩=w.cell? ⟨b,o,s⟩:=by
 simp only[World.cell?,h]
theorem K3{w w':World}{b:Nat}(h:w'.heap[b]? = w.heap[b]?)(o:Nat)(s:Option Nat): w'.frozen? ⟨b,o,s⟩=w.frozen? ⟨b,o,s⟩:=by
 simp only[World.frozen?,h]
theorem rZ{w w':World}{b:Nat}(h:w'.heap[b]? = w.heap[b]?)(o:Nat)(s:Option Nat): eU w' ⟨b,o,s⟩=eU w ⟨b,o,s⟩:=by
 simp only[eU,lM h]
theorem VR.mono{g g':aK}{w w':World}(hm:jy g w g' w'){a:AV}{v:Value}(h:VR g w a v): VR g' w' a v:=by
 induction h with
 | undef v=>exact .undef v
 | bool b=>exact .bool b
 | int k n=>exact .int k n
 | str s=>exact .str s
 | agg cs vs hl hs _ ih=>exact .agg cs vs hl hs ih
 | bJ cs vs hl _ ih=>exact .bJ cs vs hl ih
 | ae=>exact .ae
 | jR f el b cap hf=>exact .jR f el b cap hf
 | aG f el xs b off cap hi hf hx ft hc _ ih =>
   obtain⟨hi',he⟩:=hm.ei b hi
   refine .aG f el xs b off cap hi' hf hx ft (fun i c h1 h2=>?_) (fun i c h1 h2=>?_)
   ·rw[lM he];exact hc i c h1 h2
   ·rw[rZ he];exact ih i c h1 h2
 | own el l m lo n v h =>
   obtain⟨h1,h2,A,cap,h3,h4⟩:=h
   obtain⟨v1,v2⟩:=hm.eu l h1
   refine .own el l m lo n v ⟨Nat.lt_of_lt_of_le h1 hm.n,Nat.le_trans h2 v1,A,cap,h3,fun e=>?_⟩
   have e1:g'.eu l=g.eu l:=by omega
   obtain⟨b1,b2⟩:=v2 e1
   rw[b1,b2]
   exact h4 (by omega)
 | ref l off v h =>
   obtain⟨⟨h1,h0⟩,A,h2,h3⟩:=h
   obtain⟨v1,v2⟩:=hm.eu l h1
   refine .ref l off v ⟨⟨Nat.lt_of_lt_of_le h1 hm.n,Nat.le_trans h0 v1⟩,A,h2,fun e=>?_⟩
   have e1:g'.eu l=g.eu l:=by omega
   rw[(v2 e1).1]
   exact h3 (by omega)
 | dW el x off b o hi ft hc _ ih =>
   obtain⟨hi',he⟩:=hm.ei b hi
   refine .dW el x off b o hi' ft (fun c h2=>?_) (fun c h2=>?_)
   ·rw[lM he];exact hc c h2
   ·rw[rZ he];exact ih c h2
 | dD el l m i off v h =>
   obtain⟨h1,h2,A,h3,h4⟩:=h
   obtain⟨v1,v2⟩:=hm.eu l h1
   refine .dD el l m i off v ⟨Nat.lt_of_lt_of_le h1 hm.n,Nat.le_trans h2 v1,A,h3,fun e=>?_⟩
   have e1:g'.eu l=g.eu l:=by omega
   rw[(v2 e1).1]
   exact h4 (by omega)
 | fM=>exact .fM
 | tE=>exact .tE
 | lA=>exact .lA
 | fn f first cap first' cap' hl hl' _ _ ih F6=>exact .fn f first cap first' cap' hl hl' ih F6
 | nh t a v _ ih=>exact .nh t a v ih
 | tF=>exact .tF
 | mp l v h =>
   obtain⟨h1,b,h2,h3⟩:=h
   obtain⟨v1,v2⟩:=hm.eu l h1
   refine .mp l v ⟨Nat.lt_of_lt_of_le h1 hm.n,b,h2,fun e=>?_⟩
   have e1:g'.eu l=g.eu l:=by omega
   rw[(v2 e1).1]
   exact h3 (by omega)
 | qS l v h =>
   obtain⟨h1,b,h2,h3⟩:=h
   obtain⟨v1,v2⟩:=hm.eu l h1
   refine .qS l v ⟨Nat.lt_of_lt_of_le h1 hm.n,b,h2,fun e=>?_⟩
   have e1:g'.eu l=g.eu l:=by omega
   rw[(v2 e1).1]
   exact h3 (by omega)
theorem VR.Nh{g:aK}{w:World}{a:AV}{v:Value}(h:VR g w a v)(hs:a.scalar=true): v.oneCell'=true:=by
 cases h<;>first
  | rfl
  |(simp[AV.scalar]at hs;done)
  | skip
 case own h=>obtain⟨_,_,A,cap,rfl,_⟩:=h;rfl
 case ref h=>obtain⟨_,A,rfl,_⟩:=h;rfl
 case dD h=>obtain⟨_,_,A,rfl,_⟩:=h;rfl
 case mp h=>obtain⟨_,A,rfl,_⟩:=h;rfl
 case qS h=>obtain⟨_,A,rfl,_⟩:=h;rfl
inductive aR where
 | bj (T:Option TypeId) (cs:List AV)
 | bM (T:Option TypeId) (el:El) (xs:List AV)
 | fV (s:List UInt8) (pos:Nat)
 | map (es:List (AV × AV))
 | loop (nt:Nat) (e:Nat→AV) (ps:Array Tmp) (assign body:Code) (st:LoopState) (ahI:Option Code)
 | dead
 | jz
deriving Inhabited
abbrev aR.cells(cs:List AV): aR:= .bj none cs
abbrev aR.vec(el:El)(xs:List AV): aR:= .bM none el xs
def xw(w:World)(b n:Nat): Option TypeId→Prop
 | none=>True
 | some T=>w.shape? b=some (T,n)
theorem xw.of_heap{w w':World}{b n:Nat}{T:Option TypeId}(h:xw w b n T)(he:w'.heap[b]? = w.heap[b]?): xw w' b n T:=by
 cases T with
 | none=>trivial
 | some T=>simp only[xw,World.shape?]at *;rw[he];exact h
abbrev ai:=List aR
def aR.live: aR→Bool
 | .dead=>false
 | _=>true
def Live(σ : ai)(l:Nat): Prop:= ∃ o,σ[l]? = some o∧o.live=true
def lN(σ : ai)(g:aK)(b:Nat): Prop:= ∃ l,Live σ l∧g.base l=some b
def Row(w:World)(b:Nat)(vs:Array Value): Prop :=
 ∃ T fz,w.heap[b]? = some (.cells vs T fz)∧ ∀ i,i<vs.size→w.frozen? ⟨b,i,none⟩=false
def aR.Ok(g:aK)(w:World)(l:Nat): aR→Prop
 | .bj T cs => g.eu l = 1 ∧ cs.all AV.scalar = true ∧ ∃ b vs, g.base l = some b ∧ Row w b vs ∧ vs.size = cs.length ∧
    (∀ i,i<cs.length→VR g w (cs.getD i .undef) (vs.getD i Go.undef))∧xw w b cs.length T
 | .bM T el xs => g.eu l = xs.length ∧ (∀ i, i < xs.length → (xs.getD i .undef).fits el = true) ∧
    ((xs = [] ∧ g.base l = none ∧ g.cap l = 0) ∨
      ∃ b vs, g.base l = some b ∧ Row w b vs ∧ vs.size = g.cap l * el.sz ∧ xs.length ≤ g.cap l ∧
        (∀ i c,i<xs.length→c<el.sz→VR g w ((xs.getD i .undef).cell c) (vs.getD (i*el.sz+c) Go.undef))∧xw w b vs.size T)
 | .fV s pos=>g.eu l=1∧ ∃ b,g.base l=some b∧w.heap[b]? = some (.stringIter ⟨s.toArray⟩ pos)
 | .map es => g.eu l = 0 ∧ ∃ b ms clock, g.base l = some b ∧ w.heap[b]? = some (.map ms clock) ∧ ms.size = es.length ∧
    ∀ i,i<es.length→VR g w (es.getD i default).1 (ms.getD i default).key∧VR g w (es.getD i default).2 (ms.getD i default).val
 | .loop nt e ps ca cb st pe => g.eu l = 0 ∧ ∃ b rec, g.base l = some b ∧ w.heap[b]? = some (.loop rec) ∧ rec.params = ps ∧ rec.assign = ca ∧ rec.body = cb ∧ rec.state = st ∧ rec.pending = pe ∧
    rec.tmps.size=nt∧ ∀ t,t<nt→VR g w (e t) (rec.tmps.getD t Go.undef)
 | .dead=>True
 | .jz=>g.eu l=0∧g.base l=none∧g.cap l=0
def A4(g:aK)(w:World): Prop:=(∀ b ∈ Qz,g.ei b)∧Cr w
theorem A4.mono{g g':aK}{w w':World}(h:A4 g w)(hm:∀ b,g.ei b→g'.ei b∧w'.heap[b]? = w.heap[b]?): A4 g' w' :=
 ⟨fun b hb=>(hm b (h.1 b hb)).1,h.2.of_heap fun b hb=>(hm b (h.1 b hb)).2⟩
structure Rel (g:aK) (w:World) (σ : ai):Prop where
 len : σ.length=g.n
 lt:∀ b,g.ei b→b<w.heap.size
 ok:∀ (l:Nat) (o:aR),σ[l]? = some o→o.Ok g w l
 inj:∀ l l' b,Live σ l→Live σ l'→g.base l=some b→g.base l'=some b→l=l'
 uU:∀ l b,Live σ l→g.base l=some b→¬ g.ei b
 jS:A4 g w
structure eM (σ : ai) (g:aK) (w:World) (σ':ai) (g':aK) (w':World):Prop where
 mono:jy g w g' w'
 size:w.heap.size≤w'.heap.size
 os:w'.os=w.os
 tape:w'.tape=w.tape
 output:w'.output=w.output
 frame:∀ b,b<w.heap.size→¬ lN σ g b→w'.heap[b]? = w.heap[b]?
 zc:∀ b,b<w.heap.size→g'.ei b→g.ei b∨lN σ g b
 Oq:∀ b,b<w.heap.size→lN σ' g' b→lN σ g b
theorem eM.refl(σ : ai)(g:aK)(w:World): eM σ g w σ g w :=
 ⟨.refl _ _,Nat.le_refl _,rfl,rfl,rfl,fun _ _ _=>rfl,fun _ _ h=> .inl h,fun _ _ h=>h⟩
theorem eM.trans{σ1 σ2 σ3:ai}{g1 g2 g3:aK}{w1 w2 w3:World}(h:eM σ1 g1 w1 σ2 g2 w2)(k:eM σ2 g2 w2 σ3 g3 w3): eM σ1 g1 w1 σ3 g3 w3:=by
 refine⟨h.mono.trans k.mono,Nat.le_trans h.size k.size,k.os.trans h.os,k.tape.trans h.tape,k.output.trans h.output,fun b hb ht=>?_,fun b hb hi=>?_,fun b hb ht=>?_⟩
 ·rw[k.frame b (Nat.lt_of_lt_of_le hb h.size) (fun t=>ht (h.Oq b hb t)),h.frame b hb ht]
 ·rcases k.zc b (Nat.lt_of_lt_of_le hb h.size) hi with h1|h1
  ·exact h.zc b hb h1
  ·exact .inr (h.Oq b hb h1)
 ·exact h.Oq b hb (k.Oq b (Nat.lt_of_lt_of_le hb h.size) ht)
theorem eM.drew(σ : ai)(g:aK)(w:World)(d:Nat): eM σ g w σ g { w with drawn:=d } :=
 ⟨⟨fun _ h=>⟨h,rfl⟩,Nat.le_refl _,fun _ _=>⟨Nat.le_refl _,fun _=>⟨rfl,rfl⟩⟩⟩,Nat.le_refl _,rfl,rfl,rfl,fun _ _ _=>rfl,fun _ _ h=> .inl h,fun _ _ h=>h⟩
theorem Row.lt{w:World}{b:Nat}{vs:Array Value}(h:Row w b vs): b<w.heap.size:=by
 obtain⟨T,fz,h,_⟩:=h
 exact(Array.getElem?_eq_some_iff.1 h).1
theorem Row.of_heap{w w':World}{b:Nat}{vs:Array Value}(h:Row w b vs)(he:w'.heap[b]? = w.heap[b]?): Row w' b vs:=by
 obtain⟨T,fz,h,hf⟩:=h
 exact⟨T,fz,he.trans h,fun i hi=>(K3 he i none).trans (hf i hi)⟩
theorem Row.cell{w:World}{b:Nat}{vs:Array Value}(h:Row w b vs){i:Nat}(hi:i<vs.size): w.cell? ⟨b,i,none⟩=some (vs.getD i Go.undef):=by
 obtain⟨T,fz,h,_⟩:=h
 simp[World.cell?,h,hi]
theorem aR.Ok.step{g g':aK}{w w':World}{l:Nat}{o:aR}(h:o.Ok g w l)(hm:jy g w g' w')(hl:l<g.n)
 (hv:g'.eu l=g.eu l) (hb:∀ b,g.base l=some b→w'.heap[b]? = w.heap[b]?):o.Ok g' w' l:=by
 obtain⟨e1,e2⟩:=(hm.eu l hl).2 hv
 cases o with
 | bj T cs =>
   obtain⟨h1,hs,b,vs,h2,h3,h4,h5,h6⟩:=h
   exact⟨hv.trans h1,hs,b,vs,e1.trans h2,h3.of_heap (hb b h2),h4,fun i hi=>(h5 i hi).mono hm,h6.of_heap (hb b h2)⟩
 | bM T el xs =>
   obtain⟨h1,hf,h2⟩:=h
   refine⟨hv.trans h1,hf,?_⟩
   rcases h2 with⟨h2,h3,h4⟩|⟨b,vs,h2,h3,h4,h5,h6,h7⟩
   ·exact .inl ⟨h2,e1.trans h3,e2.trans h4⟩
   ·exact .inr ⟨b,vs,e1.trans h2,h3.of_heap (hb b h2),by rw[e2];exact h4,by rw[e2];exact h5,fun i c hi hc=>(h6 i c hi hc).mono hm,h7.of_heap (hb b h2)⟩
 | fV s pos =>
   obtain⟨h1,b,h2,h3⟩:=h
   exact⟨hv.trans h1,b,e1.trans h2,(hb b h2).trans h3⟩
 | map es =>
   obtain⟨h1,b,ms,clock,h2,h3,h4,h5⟩:=h
   exact⟨hv.trans h1,b,ms,clock,e1.trans h2,(hb b h2).trans h3,h4,fun i hi=>⟨(h5 i hi).1.mono hm,(h5 i hi).2.mono hm⟩⟩
 | loop nt e ps ca cb st pe =>
   obtain⟨h1,b,rec,h2,h3,h4,h5,h6,h7,h8,h9,h10⟩:=h
   exact⟨hv.trans h1,b,rec,e1.trans h2,(hb b h2).trans h3,h4,h5,h6,h7,h8,h9,fun t ht=>(h10 t ht).mono hm⟩
 | dead=>trivial
 | jz=>exact⟨hv.trans h.1,e1.trans h.2.1,e2.trans h.2.2⟩
theorem Rel.gD{g:aK}{w:World}{σ : ai}(h:Rel g w σ){l b:Nat}(hl:Live σ l)(hb:g.base l=some b): b<w.heap.size:=by
 obtain⟨o,ho,hv⟩:=hl
 have:=h.ok l o ho
 cases o with
 | bj T cs=>obtain⟨_,_,b',vs,h2,h3,_⟩:=this;rw[hb]at h2;cases h2;exact h3.lt
 | bM T el xs =>
   obtain⟨_,_,h2⟩:=this
   rcases h2 with⟨_,h3,_⟩|⟨b',vs,h2,h3,_⟩
   ·rw[hb]at h3;cases h3
   ·rw[hb]at h2;cases h2;exact h3.lt
 | fV s pos=>obtain⟨_,b',h2,h3⟩:=this;rw[hb]at h2;cases h2;exact(Array.getElem?_eq_some_iff.1 h3).1
 | map es=>obtain⟨_,b',_,_,h2,h3,_⟩:=this;rw[hb]at h2;cases h2;exact(Array.getElem?_eq_some_iff.1 h3).1
 | loop nt e ps ca cb st pe=>obtain⟨_,b',_,h2,h3,_⟩:=this;rw[hb]at h2;cases h2;exact(Array.getElem?_eq_some_iff.1 h3).1
 | dead=>simp[aR.live]at hv
 | jz=>rw[this.2.1]at hb;cases hb
theorem Rel.Dx{g:aK}{w:World}{σ : ai}(h:Rel g w σ){b:Nat}(ht:lN σ g b): b<w.heap.size :=
 let ⟨_,hl,hb⟩:=ht;h.gD hl hb
theorem Live.lt{σ : ai}{l:Nat}(h:Live σ l): l < σ.length:=by
 obtain⟨o,ho,_⟩:=h
 exact(List.getElem?_eq_some_iff.1 ho).1
theorem heap_alloc_old(w:World)(o:Obj){b:Nat}(h:b<w.heap.size): (w.alloc o).heap[b]? = w.heap[b]?:=by
 exact Go.RowKit.Below.heap_alloc w o b h
theorem heap_alloc_new(w:World)(o:Obj): (w.alloc o).heap[w.heap.size]? = some o:=by
 show(w.heap.push o)[w.heap.size]? = _
 simp
theorem Rel.drew{g:aK}{w:World}{σ : ai}(h:Rel g w σ)(d:Nat): Rel g { w with drawn:=d } σ :=
 ⟨h.len,h.lt,fun l o ho=>(h.ok l o ho).step (eM.drew σ g w d).mono (by rw[← h.len];exact(List.getElem?_eq_some_iff.1 ho).1) rfl (fun _ _=>rfl),h.inj,h.uU,h.jS.mono fun _ hb=>⟨hb,rfl⟩⟩
def aK.zd(g:aK)(b:Nat): aK:= { g with ei:=fun c=>g.ei c∨c=b }
def aK.push(g:aK)(v:Nat)(b:Option Nat)(c:Nat): aK :=
 { g with n:=g.n+1,eu:=fun l=>if l=g.n then v else g.eu l,base:=fun l=>if l=g.n then b else g.base l,cap:=fun l=>if l=g.n then c else g.cap l }
theorem Cs(g:aK)(w:World)(o:Obj)(hlt:∀ b,g.ei b→b<w.heap.size): jy g w (g.zd w.heap.size) (w.alloc o) :=
 ⟨fun b h=>⟨.inl h,heap_alloc_old w o (hlt b h)⟩,Nat.le_refl _,fun _ _=>⟨Nat.le_refl _,fun _=>⟨rfl,rfl⟩⟩⟩
theorem jI(g:aK)(w:World)(o:Obj)(v:Nat)(b:Option Nat)(c:Nat)(hlt:∀ b,g.ei b→b<w.heap.size): jy g w (g.push v b c) (w.alloc o) :=
 ⟨fun b h => ⟨h, heap_alloc_old w o (hlt b h)⟩, Nat.le_succ _, fun l hl => by
   have:l≠g.n:=Nat.ne_of_lt hl
   simp[aK.push,this]⟩
theorem Rel.Yt{g:aK}{w:World}{σ : ai}(h:Rel g w σ)(o:Obj): Rel (g.zd w.heap.size) (w.alloc o) σ∧eM σ g w σ (g.zd w.heap.size) (w.alloc o):=by
 have hm:=Cs g w o h.lt
 refine⟨⟨h.len,fun b hb=>?_,fun l o' ho=>?_,h.inj,fun l b hl hb hi=>?_,h.jS.mono hm.ei⟩,⟨hm,by simp,rfl,rfl,rfl,fun b hb _=>heap_alloc_old w o hb,fun b hb hi=>?_,fun b _ ht=>ht⟩⟩
 ·rcases hb with hb|rfl
  ·have:=h.lt b hb;simp;omega
  ·simp
 ·have hl:l<g.n:=by rw[← h.len];exact(List.getElem?_eq_some_iff.1 ho).1
  by_cases hv:o'.live=true
  ·exact(h.ok l o' ho).step hm hl rfl (fun b hb=>heap_alloc_old w o (h.gD ⟨o',ho,hv⟩ hb))
  ·cases o'<;>simp[aR.live]at hv
   trivial
 ·rcases hi with hi|rfl
  ·exact h.uU l b hl hb hi
  ·exact absurd (h.gD hl hb) (Nat.lt_irrefl _)
 ·rcases hi with hi|rfl
  ·exact .inl hi
  ·exact absurd hb (Nat.lt_irrefl _)
theorem og{σ : ai}{o:aR}{l:Nat}(h:Live (σ++[o]) l): Live σ l∨l = σ.length:=by
 obtain⟨o',ho,hv⟩:=h
 by_cases hl:l < σ.length
 ·exact .inl ⟨o',by rwa[List.getElem?_append_left hl]at ho,hv⟩
 ·have:=(List.getElem?_eq_some_iff.1 ho).1
  simp at this
  exact .inr (by omega)
theorem Rel.Yu{g:aK}{w:World}{σ : ai}(h:Rel g w σ)(o:Obj): Rel g (w.alloc o) σ∧eM σ g w σ g (w.alloc o):=by
 have hm:jy g w g (w.alloc o):=⟨fun b hb=>⟨hb,heap_alloc_old w o (h.lt b hb)⟩,Nat.le_refl _,fun _ _=>⟨Nat.le_refl _,fun _=>⟨rfl,rfl⟩⟩⟩
 refine⟨⟨h.len,fun b hb=>by have:=h.lt b hb;simp;omega,fun l o' ho=>?_,h.inj,h.uU,h.jS.mono hm.ei⟩,
  ⟨hm,by simp,rfl,rfl,rfl,fun b hb _=>heap_alloc_old w o hb,fun b hb hi=> .inl hi,fun b hb ht=>ht⟩⟩
 have hl:l<g.n:=by rw[← h.len];exact(List.getElem?_eq_some_iff.1 ho).1
 by_cases hv:o'.live=true
 ·exact(h.ok l o' ho).step hm hl rfl (fun b hb=>heap_alloc_old w o (h.gD ⟨o',ho,hv⟩ hb))
 ·cases o'<;>simp[aR.live]at hv
  trivial
theorem Rel.abk{g0 g:aK}{w0 w w':World}{sS σ : ai}{D:Nat}(h:Rel g w σ)(hev:eM sS g0 w0 σ g w)(hD:w0.heap.size≤D)(ht:¬ lN σ g D)(hi:¬ g.ei D)
 (hsz:w'.heap.size=w.heap.size) (hos:w'.os=w.os) (Dy:w'.tape=w.tape) (hout:w'.output=w.output) (yA:∀ c,c≠D→w'.heap[c]? = w.heap[c]?) :
 Rel g w' σ∧eM sS g0 w0 σ g w'∧jy g w g w':=by
 have hm:jy g w g w':=⟨fun b hb=>⟨hb,yA b (fun e=>hi (e ▸ hb))⟩,Nat.le_refl _,fun _ _=>⟨Nat.le_refl _,fun _=>⟨rfl,rfl⟩⟩⟩
 refine⟨⟨h.len,fun b hb=>by rw[hsz];exact h.lt b hb,fun l o' ho=>?_,h.inj,h.uU,h.jS.mono hm.ei⟩,
  ⟨hev.mono.trans hm,by rw[hsz];exact hev.size,hos.trans hev.os,Dy.trans hev.tape,hout.trans hev.output,fun b hb hnt=>(yA b (by omega)).trans (hev.frame b hb hnt),hev.zc,hev.Oq⟩,hm⟩
 have hl:l<g.n:=by rw[← h.len];exact(List.getElem?_eq_some_iff.1 ho).1
 by_cases hv:o'.live=true
 ·exact(h.ok l o' ho).step hm hl rfl (fun b hb=>yA b (fun e=>ht ⟨l,⟨o',ho,hv⟩,e ▸ hb⟩))
 ·cases o'<;>simp[aR.live]at hv
  trivial
theorem Rel.vx{g:aK}{w:World}{σ : ai}(h:Rel g w σ)(o:Obj)(ao:aR)(v c:Nat)
 (hok:ao.Ok (g.push v (some w.heap.size) c) (w.alloc o) g.n) :
 Rel (g.push v (some w.heap.size) c) (w.alloc o) (σ++[ao])∧eM σ g w (σ++[ao]) (g.push v (some w.heap.size) c) (w.alloc o):=by
 have hm:=jI g w o v (some w.heap.size) c h.lt
 have hbase:∀ l,l<g.n→(g.push v (some w.heap.size) c).base l=g.base l:=fun l hl=>by simp[aK.push,Nat.ne_of_lt hl]
 have hnew:(g.push v (some w.heap.size) c).base g.n=some w.heap.size:=by simp[aK.push]
 have hold:∀ l b,Live σ l→(g.push v (some w.heap.size) c).base l=some b→g.base l=some b∧b<w.heap.size:=fun l b hl hb=>by
  rw[hbase l (by rw[← h.len];exact hl.lt)]at hb
  exact⟨hb,h.gD hl hb⟩
 refine⟨⟨by simp[aK.push,h.len],fun b hb=>by have:=h.lt b hb;simp;omega,fun l o' ho=>?_,fun l l' b hl hl' hb hb'=>?_,fun l b hl hb hi=>?_,h.jS.mono hm.ei⟩,
  ⟨hm,by simp,rfl,rfl,rfl,fun b hb _=>heap_alloc_old w o hb,fun b hb hi=> .inl hi,fun b hb ht=>?_⟩⟩
 ·by_cases hl:l < σ.length
  ·rw[List.getElem?_append_left hl]at ho
   have hl':l<g.n:=by rw[← h.len];exact hl
   by_cases hv:o'.live=true
   ·refine(h.ok l o' ho).step hm hl' (by simp[aK.push,Nat.ne_of_lt hl']) (fun b hb=>heap_alloc_old w o (h.gD ⟨o',ho,hv⟩ hb))
   ·cases o'<;>simp[aR.live]at hv
    trivial
  ·have h1:=(List.getElem?_eq_some_iff.1 ho).1
   simp at h1
   have h2:l = σ.length:=by omega
   subst h2
   simp at ho
   subst ho
   rw[h.len];exact hok
 ·rcases og hl with hl|rfl<;>rcases og hl' with hl'|rfl
  ·exact h.inj l l' b hl hl' (hold l b hl hb).1 (hold l' b hl' hb').1
  ·have:=(hold l b hl hb).2
   rw[h.len,hnew]at hb'
   cases hb'
   exact absurd this (Nat.lt_irrefl _)
  ·have:=(hold l' b hl' hb').2
   rw[h.len,hnew]at hb
   cases hb
   exact absurd this (Nat.lt_irrefl _)
  ·rfl
 ·rcases og hl with hl|rfl
  ·exact h.uU l b hl (hold l b hl hb).1 hi
  ·rw[h.len,hnew]at hb
   cases hb
   exact absurd (h.lt _ hi) (Nat.lt_irrefl _)
 ·obtain⟨l,hl,hb'⟩:=ht
  rcases og hl with hl|rfl
  ·exact⟨l,hl,(hold l b hl hb').1⟩
  ·rw[h.len,hnew]at hb'
   cases hb'
   exact absurd hb (Nat.lt_irrefl _)
end Go.AM
namespace Go.AM
def aK.reset(g:aK)(l v:Nat)(b:Option Nat)(c:Nat): aK :=
 { g with eu:=fun k=>if k=l then v else g.eu k,base:=fun k=>if k=l then b else g.base k,cap:=fun k=>if k=l then c else g.cap k }
theorem kO{σ : ai}{l k:Nat}{o:aR}(h:Live (σ.set l o) k): (k=l∧l < σ.length∧o.live=true)∨(k≠l∧Live σ k):=by
 obtain⟨o',ho,hv⟩:=h
 by_cases hk:k=l
 ·subst hk
  have hlt:=(List.getElem?_eq_some_iff.1 ho).1
  simp at hlt
  simp[hlt]at ho
  exact .inl ⟨rfl,hlt,ho ▸ hv⟩
 ·rw[List.getElem?_set_ne (Ne.symm hk)]at ho
  exact .inr ⟨hk,o',ho,hv⟩
theorem Rel.change{g:aK}{w w':World}{σ : ai}{l:Nat}{o o':aR}(h:Rel g w σ)(hl : σ[l]? = some o)(ho:o.live=true)
 (v:Nat) (nb:Option Nat) (c:Nat) (hv:g.eu l≤v) (hvb:v=g.eu l→nb=g.base l∧c=g.cap l)
 (hsz:w.heap.size≤w'.heap.size) (hos:w'.os=w.os) (Dy:w'.tape=w.tape) (hout:w'.output=w.output)
 (yA:∀ b,b<w.heap.size→g.base l≠some b→w'.heap[b]? = w.heap[b]?)
 (hnb:∀ b,nb=some b→g.base l=some b∨w.heap.size≤b)
 (hok:jy g w (g.reset l v nb c) w'→o'.Ok (g.reset l v nb c) w' l) :
 Rel (g.reset l v nb c) w' (σ.set l o')∧eM σ g w (σ.set l o') (g.reset l v nb c) w':=by
 have ld:Live σ l:=⟨o,hl,ho⟩
 have hbase:∀ k,k≠l→(g.reset l v nb c).base k=g.base k:=fun k hk=>by simp[aK.reset,hk]
 have QA:(g.reset l v nb c).base l=nb:=by simp[aK.reset]
 have hm:jy g w (g.reset l v nb c) w':=by
  refine⟨fun b hb=>⟨hb,yA b (h.lt b hb) (fun e=>h.uU l b ld e hb)⟩,Nat.le_refl _,fun k _=>?_⟩
  by_cases hk:k=l
  ·subst hk
   simp only[aK.reset,if_true]
   exact⟨hv,hvb⟩
  ·simp[aK.reset,hk]
 refine⟨⟨by simp[aK.reset,h.len],fun b hb=>Nat.lt_of_lt_of_le (h.lt b hb) hsz,fun k ok hk=>?_,fun k k' b hk hk' hb hb'=>?_,fun k b hk hb hi=>?_,h.jS.mono hm.ei⟩,
  ⟨hm,hsz,hos,Dy,hout,fun b hb ht=>yA b hb (fun e=>ht ⟨l,ld,e⟩),fun b _ hi=> .inl hi,fun b hb ht=>?_⟩⟩
 ·by_cases e:k=l
  ·subst e
   have hlt:=(List.getElem?_eq_some_iff.1 hk).1
   simp at hlt
   simp[hlt]at hk
   subst hk
   exact hok hm
  ·rw[List.getElem?_set_ne (Ne.symm e)]at hk
   have hkn:k<g.n:=by rw[← h.len];exact(List.getElem?_eq_some_iff.1 hk).1
   by_cases F7:ok.live=true
   ·refine(h.ok k ok hk).step hm hkn (by simp[aK.reset,e]) (fun b hb=>yA b (h.gD ⟨ok,hk,F7⟩ hb) (fun e'=>e (h.inj k l b ⟨ok,hk,F7⟩ ld hb e')))
   ·cases ok<;>simp[aR.live]at F7
    trivial
 ·rcases kO hk with⟨e,_,_⟩|⟨e,hk2⟩<;>rcases kO hk' with⟨e',_,_⟩|⟨e',Yv⟩
  ·exact e.trans e'.symm
  ·subst e
   rw[QA]at hb;rw[hbase k' e']at hb'
   rcases hnb b hb with h1|h1
   ·exact h.inj _ _ b ld Yv h1 hb'
   ·have:=h.gD Yv hb';omega
  ·subst e'
   rw[QA]at hb';rw[hbase k e]at hb
   rcases hnb b hb' with h1|h1
   ·exact h.inj _ _ b hk2 ld hb h1
   ·have:=h.gD hk2 hb;omega
  ·rw[hbase k e]at hb;rw[hbase k' e']at hb'
   exact h.inj k k' b hk2 Yv hb hb'
 ·rcases kO hk with⟨rfl,_,_⟩|⟨e,hk⟩
  ·rw[QA]at hb
   rcases hnb b hb with h1|h1
   ·exact h.uU _ b ld h1 hi
   ·have:=h.lt b hi;omega
  ·rw[hbase k e]at hb;exact h.uU k b hk hb hi
 ·obtain⟨k,hk,hb'⟩:=ht
  rcases kO hk with⟨rfl,_,_⟩|⟨e,hk⟩
  ·rw[QA]at hb'
   rcases hnb b hb' with h1|h1
   ·exact⟨_,ld,h1⟩
   ·omega
  ·exact⟨k,hk,by rw[hbase k e]at hb';exact hb'⟩
theorem aK.Dz(g:aK)(l:Nat): g.reset l (g.eu l) (g.base l) (g.cap l)=g:=by
 simp only[aK.reset]
 congr 1<;>(funext k;split<;>simp_all)
theorem Rel.update{g:aK}{w w':World}{σ : ai}{l b:Nat}{o o':aR}(h:Rel g w σ)(hl : σ[l]? = some o)(ho:o.live=true)(hb:g.base l=some b)
 (hsz:w'.heap.size=w.heap.size) (hos:w'.os=w.os) (Dy:w'.tape=w.tape) (hout:w'.output=w.output)
 (yA:∀ c,c≠b→w'.heap[c]? = w.heap[c]?) (hok:jy g w g w'→o'.Ok g w' l) :
 Rel g w' (σ.set l o')∧eM σ g w (σ.set l o') g w':=by
 have:=Rel.change (o':=o') (w':=w') h hl ho (g.eu l) (g.base l) (g.cap l) (Nat.le_refl _) (fun _=>⟨rfl,rfl⟩) (Nat.le_of_eq hsz.symm) hos Dy hout
  (fun c _ hc=>yA c (fun e=>hc (e ▸ hb))) (fun c hc=> .inl hc)
 rw[g.Dz l]at this
 exact this hok
theorem Rel.freeze{g:aK}{w:World}{σ : ai}{l b:Nat}{o:aR}(h:Rel g w σ)(hl : σ[l]? = some o)(ho:o.live=true)(hb:g.base l=some b):
 Rel (g.zd b) w (σ.set l .dead)∧eM σ g w (σ.set l .dead) (g.zd b) w:=by
 have ld:Live σ l:=⟨o,hl,ho⟩
 have hm:jy g w (g.zd b) w:=⟨fun c hc=>⟨.inl hc,rfl⟩,Nat.le_refl _,fun _ _=>⟨Nat.le_refl _,fun _=>⟨rfl,rfl⟩⟩⟩
 refine⟨⟨by simp[aK.zd,h.len],fun c hc=>?_,fun k ok hk=>?_,fun k k' c hk hk' hc hc'=>?_,fun k c hk hc hi=>?_,h.jS.mono hm.ei⟩,
  ⟨hm,Nat.le_refl _,rfl,rfl,rfl,fun _ _ _=>rfl,fun c _ hi=>?_,fun c _ ht=>?_⟩⟩
 ·rcases hc with hc|rfl
  ·exact h.lt c hc
  ·exact h.gD ld hb
 ·by_cases e:k=l
  ·subst e
   have hlt:=(List.getElem?_eq_some_iff.1 hk).1
   simp at hlt
   simp[hlt]at hk
   subst hk
   trivial
  ·rw[List.getElem?_set_ne (Ne.symm e)]at hk
   have hkn:k<g.n:=by rw[← h.len];exact(List.getElem?_eq_some_iff.1 hk).1
   exact(h.ok k ok hk).step hm hkn rfl (fun _ _=>rfl)
 ·rcases kO hk with⟨_,_,e⟩|⟨_,hk⟩
  ·simp[aR.live]at e
  ·rcases kO hk' with⟨_,_,e⟩|⟨_,hk'⟩
   ·simp[aR.live]at e
   ·exact h.inj k k' c hk hk' hc hc'
 ·rcases kO hk with⟨_,_,e⟩|⟨e,hk⟩
  ·simp[aR.live]at e
  ·rcases hi with hi|rfl
   ·exact h.uU k c hk hc hi
   ·exact e (h.inj k l c hk ld hc hb)
 ·rcases hi with hi|rfl
  ·exact .inl hi
  ·exact .inr ⟨l,ld,hb⟩
 ·obtain⟨k,hk,hc⟩:=ht
  rcases kO hk with⟨_,_,e⟩|⟨_,hk⟩
  ·simp[aR.live]at e
  ·exact⟨k,hk,hc⟩
theorem Rel.iB{g:aK}{w:World}{σ : ai}(h:Rel g w σ)(el:El):
 Rel (g.push 0 none 0) w (σ++[.vec el []])∧eM σ g w (σ++[.vec el []]) (g.push 0 none 0) w:=by
 have hm:jy g w (g.push 0 none 0) w:=⟨fun b hb=>⟨hb,rfl⟩,Nat.le_succ _,fun l hl=>by simp[aK.push,Nat.ne_of_lt hl]⟩
 have hbase:∀ l,l<g.n→(g.push 0 none 0).base l=g.base l:=fun l hl=>by simp[aK.push,Nat.ne_of_lt hl]
 have hnew:(g.push 0 none 0).base g.n=none:=by simp[aK.push]
 have hold:∀ l b,Live (σ++[.vec el []]) l→(g.push 0 none 0).base l=some b→Live σ l∧g.base l=some b:=fun l b hl hb=>by
  rcases og hl with hl|rfl
  ·rw[hbase l (by rw[← h.len];exact hl.lt)]at hb
   exact⟨hl,hb⟩
  ·rw[h.len,hnew]at hb;cases hb
 refine⟨⟨by simp[aK.push,h.len],h.lt,fun l o' ho=>?_,fun l l' b hl hl' hb hb'=>h.inj l l' b (hold l b hl hb).1 (hold l' b hl' hb').1 (hold l b hl hb).2 (hold l' b hl' hb').2,
  fun l b hl hb hi=>h.uU l b (hold l b hl hb).1 (hold l b hl hb).2 hi,h.jS.mono hm.ei⟩,
  ⟨hm,Nat.le_refl _,rfl,rfl,rfl,fun _ _ _=>rfl,fun b hb hi=> .inl hi,fun b hb ht=>?_⟩⟩
 ·by_cases hl:l < σ.length
  ·rw[List.getElem?_append_left hl]at ho
   have hl':l<g.n:=by rw[← h.len];exact hl
   exact(h.ok l o' ho).step hm hl' (by simp[aK.push,Nat.ne_of_lt hl']) (fun _ _=>rfl)
  ·have h1:=(List.getElem?_eq_some_iff.1 ho).1
   simp at h1
   have h2:l = σ.length:=by omega
   subst h2
   simp at ho
   subst ho
   rw[h.len]
   exact⟨by simp[aK.push],by simp,.inl ⟨rfl,hnew,by simp[aK.push]⟩⟩
 ·obtain⟨l,hl,hb'⟩:=ht
  exact⟨l,(hold l b hl hb').1,(hold l b hl hb').2⟩
theorem Rel.hold{g:aK}{w:World}{σ : ai}(h:Rel g w σ):
 Rel (g.push 0 none 0) w (σ++[.jz])∧eM σ g w (σ++[.jz]) (g.push 0 none 0) w:=by
 have hm:jy g w (g.push 0 none 0) w:=⟨fun b hb=>⟨hb,rfl⟩,Nat.le_succ _,fun l hl=>by simp[aK.push,Nat.ne_of_lt hl]⟩
 have hbase:∀ l,l<g.n→(g.push 0 none 0).base l=g.base l:=fun l hl=>by simp[aK.push,Nat.ne_of_lt hl]
 have hnew:(g.push 0 none 0).base g.n=none:=by simp[aK.push]
 have hold:∀ l b,Live (σ++[.jz]) l→(g.push 0 none 0).base l=some b→Live σ l∧g.base l=some b:=fun l b hl hb=>by
  rcases og hl with hl|rfl
  ·rw[hbase l (by rw[← h.len];exact hl.lt)]at hb
   exact⟨hl,hb⟩
  ·rw[h.len,hnew]at hb;cases hb
 refine⟨⟨by simp[aK.push,h.len],h.lt,fun l o' ho=>?_,fun l l' b hl hl' hb hb'=>h.inj l l' b (hold l b hl hb).1 (hold l' b hl' hb').1 (hold l b hl hb).2 (hold l' b hl' hb').2,
  fun l b hl hb hi=>h.uU l b (hold l b hl hb).1 (hold l b hl hb).2 hi,h.jS.mono hm.ei⟩,
  ⟨hm,Nat.le_refl _,rfl,rfl,rfl,fun _ _ _=>rfl,fun b hb hi=> .inl hi,fun b hb ht=>?_⟩⟩
 ·by_cases hl:l < σ.length
  ·rw[List.getElem?_append_left hl]at ho
   have hl':l<g.n:=by rw[← h.len];exact hl
   exact(h.ok l o' ho).step hm hl' (by simp[aK.push,Nat.ne_of_lt hl']) (fun _ _=>rfl)
  ·have h1:=(List.getElem?_eq_some_iff.1 ho).1
   simp at h1
   have h2:l = σ.length:=by omega
   subst h2
   simp at ho
   subst ho
   rw[h.len]
   exact⟨by simp[aK.push],hnew,by simp[aK.push]⟩
 ·obtain⟨l,hl,hb'⟩:=ht
  exact⟨l,(hold l b hl hb').1,(hold l b hl hb').2⟩
theorem Rel.aam{g:aK}{w:World}{σ : ai}(h:Rel g w σ){n:Nat}(hn : σ[n]? = some .jz)(T:Option TypeId)(el:El):
 Rel g w (σ.set n (.bM T el []))∧eM σ g w (σ.set n (.bM T el [])) g w:=by
 obtain⟨h1,h2,h3⟩:=h.ok n _ hn
 have:=h.change (w':=w) (o':= .bM T el []) hn rfl (g.eu n) (g.base n) (g.cap n) (Nat.le_refl _) (fun _=>⟨rfl,rfl⟩) (Nat.le_refl _) rfl rfl rfl (fun _ _ _=>rfl) (fun b hb=> .inl hb)
  (fun _=>by rw[aK.Dz];exact⟨h1,by simp,.inl ⟨rfl,h2,h3⟩⟩)
 rwa[aK.Dz]at this
theorem A5(w:World)(b i:Nat)(v:Value){c:Nat}(h:c≠b): (w.setCell ⟨b,i,none⟩ v).heap[c]? = w.heap[c]? :=
 Go.RowKit.Below.heap_setCell w ⟨b,i,none⟩ v c h
theorem Row.set{w:World}{b:Nat}{vs:Array Value}(h:Row w b vs)(i:Nat)(v:Value): Row (w.setCell ⟨b,i,none⟩ v) b (vs.setIfInBounds i v):=by
 obtain⟨T,fz,h1,h2⟩:=h
 refine⟨T,fz,?_,fun j hj=>?_⟩
 ·simp[World.setCell,Array.getElem?_modify,h1]
 ·rw[World.frozen?_setCell]
  exact h2 j (by simpa using hj)
def setRow(w:World)(b:Nat): Nat→List Value→World
 | _,[]=>w
 | i,v::vs=>setRow (w.setCell ⟨b,i,none⟩ v) b (i+1) vs
def putRow(vs:Array Value): Nat→List Value→Array Value
 | _,[]=>vs
 | i,u::us=>putRow (vs.setIfInBounds i u) (i+1) us
theorem ze(w:World)(b i:Nat)(us:List Value): (setRow w b i us).heap.size=w.heap.size∧(setRow w b i us).os=w.os∧(setRow w b i us).tape=w.tape ∧
 (setRow w b i us).output=w.output∧ ∀ c,c≠b→(setRow w b i us).heap[c]? = w.heap[c]?:=by
 induction us generalizing w i with
 | nil=>exact⟨rfl,rfl,rfl,rfl,fun _ _=>rfl⟩
 | cons u us ih =>
   obtain⟨h1,h2,h3,h4,h5⟩:=ih (w.setCell ⟨b,i,none⟩ u) (i+1)
   exact⟨h1.trans (World.size_setCell ..),h2,h3,h4,fun c hc=>(h5 c hc).trans (A5 w b i u hc)⟩
theorem Row.setRow{w:World}{b:Nat}{vs:Array Value}(h:Row w b vs)(i:Nat)(us:List Value): Row (setRow w b i us) b (putRow vs i us):=by
 induction us generalizing w i vs with
 | nil=>exact h
 | cons u us ih=>exact ih (h.set i u) (i+1)
theorem PJ(w:World)(b i:Nat)(v:Value)(c:Nat): (w.setCell ⟨b,i,none⟩ v).shape? c=w.shape? c:=by
 by_cases h:c=b
 ·subst h
  simp only[World.shape?,World.setCell,Array.getElem?_modify,if_true]
  cases w.heap[c]? with
  | none=>rfl
  | some o=>cases o<;>simp
 ·simp only[World.shape?,A5 w b i v h]
theorem zf(w:World)(b i:Nat)(us:List Value)(c:Nat): (setRow w b i us).shape? c=w.shape? c:=by
 induction us generalizing w i with
 | nil=>rfl
 | cons u us ih=>exact(ih (w.setCell ⟨b,i,none⟩ u) (i+1)).trans (PJ w b i u c)
theorem size_putRow(vs:Array Value)(i:Nat)(us:List Value): (putRow vs i us).size=vs.size:=by
 induction us generalizing vs i with
 | nil=>rfl
 | cons u us ih=>simp[putRow,ih]
theorem rB(vs:Array Value)(i:Nat)(us:List Value)(hi:i+us.length≤vs.size)(j:Nat)(d:Value):
 (putRow vs i us).getD j d=if i≤j∧j<i+us.length then us.getD (j-i) d else vs.getD j d:=by
 induction us generalizing vs i with
 | nil=>simp[putRow];intro h1 h2;omega
 | cons u us ih =>
   simp only[List.length_cons]at hi
   rw[putRow,ih (vs.setIfInBounds i u) (i+1) (by simp;omega)]
   by_cases h1:i+1≤j∧j<i+1+us.length
   ·rw[if_pos h1,if_pos (by simp only[List.length_cons];omega)]
    obtain⟨k,rfl⟩:∃ k,j=i+1+k:=⟨j-(i+1),by omega⟩
    rw[show i+1+k-(i+1)=k by omega,show i+1+k-i=k+1 by omega]
    simp
   ·rw[if_neg h1]
    by_cases h2:j=i
    ·subst h2
     rw[if_pos (by simp only[List.length_cons];omega)]
     have hlt:j<vs.size:=by omega
     simp[hlt]
    ·rw[if_neg (by simp only[List.length_cons];omega)]
     simp[Array.getElem?_setIfInBounds_ne (Ne.symm h2)]
end Go.AM
