/- Part. -/
import Derived.Test.YtmbgnaoilncbnaaGreatDoorProg
import Derived.Lib.ItoaMem
import Derived.KernelRfl
import Derived.Calls
import Derived.Orders
import Derived.Below
set_option linter.all false
namespace Go
def aF:=@Bool.and_eq_true
def aH:=@List.getElem?_set_ne
def aE:=@List.getD_eq_getElem?_getD
def aV:=@Bool.eq_iff_iff
def aN:=@List.getElem?_eq_some_iff
def bt:=@List.map_nil
def aQ:=@List.getElem?_eq_getElem
def bu:=@List.map_cons
def aU:=@Option.map_eq_some_iff
def bP:=@Nat.zero_le
def bx:=@List.all_eq_true
def br:=@List.take_of_length_le
def cD:=@Nat.le_trans
def bT:=@Option.getD_some
def bG:=@Nat.mul_le_mul_right
def bZ:=@Bool.not_eq_true'
def cE:=@List.length_map
def dK:=@Nat.add_mul
def bW:=@List.getElem_of_mem
def dI:=@Nat.add_zero
def dA:=@Bool.true_and
def dX:=@Nat.zero_add
def dB:=@Bool.or_eq_true
def ek:=@List.mem_map
def dH:=@Bool.false_and
def da:=@Nat.lt_of_lt_of_le
def de:=@List.flatMap_cons
def ep:=@Nat.add_assoc
def bU:=@List.getElem?_append_right
def eP:=@Nat.mul_comm
def cQ:=@List.getD_cons_zero
def cZ:=@List.mem_cons_of_mem
def dL:=@Bool.not_eq_true
def eA:=@Bool.and_false
def eF:=@Nat.not_lt_zero
def dG:=@List.find?_eq_none
def fL:=@Nat.pow_succ
def eU:=@List.take_zero
def fO:=@Nat.lt_irrefl
def er:=@Int.toNat_natCast
def eX:=@List.find?_some
def dh:=@List.drop_of_length_le
def fP:=@Int.toNat_one
def eM:=@List.flatMap_nil
def fx:=@List.cons_append
def gk:=@Bool.not_false
def h_:=@List.set_set
def gu:=@List.mem_range
def fY:=@List.getElem_mem
def gC:=@Option.map_some
def fZ:=@Nat.mod_eq_of_lt
def eL:=@Array.toArray_toList
def dS:=@List.length_eq_zero_iff
def eV:=@List.takeWhile_cons
def dR:=@Array.getElem?_eq_some_iff
def fA:=@List.set_append_left
def fI:=@Array.length_toList
def eY:=@Array.getElem_eq_getD
def fB:=@Bool.or_eq_false_iff
def eZ:=@Option.isSome_iff_exists
def eJ:=@Array.getElem?_append_left
def fQ:=@List.length_replicate
def gX:=@Bool.true_eq_false
def fJ:=@List.drop_eq_getElem_cons
def fh:=@Array.getD_eq_getD_getElem?
def gY:=@List.getElem?_toArray
def gy:=@List.getElem?_cons_zero
def gA:=@List.getElem?_cons_succ
def iw:=@List.mem_append_left
def fK:=@List.mem_of_find?_eq_some
def iy:=@Nat.pow_le_pow_right
def gM:=@List.isPrefixOf_iff_prefix
end Go
namespace Go.AM
def UR: List Nat:=[1]
def FW (w : World) : Prop := Lib.TabIs Go.Proofs.Tryz.prog w "internal/strconv.uint64pow10" .u64 Lib.pow10Tab
def SJ : Go.Proofs.Tryz.prog.globalNamed "internal/strconv.uint64pow10" = some 1 := by kernel_rfl
def FW.of_heap{w w':World}(h:FW w)(hb:∀ b ∈ UR,w'.heap[b]? = w.heap[b]?): FW w':=by
 unfold FW Lib.TabIs World.var? at *;simp only[SJ,Option.bind_some]at h ⊢;rw[hb 1 (by simp[UR])];exact h
structure El where
 ag:Bool
 sz:Nat
deriving DecidableEq,Inhabited,Repr
inductive AV where
 | undef
 | bool (b:Bool)
 | int (k:IntKind) (n:Int)
 | str (s:List UInt8)
 | agg (cs:List AV)
 | bX (vs:List AV)
 | ae
 | aK (full:Bool) (el:El) (xs:List AV)
 | own (el:El) (l m lo n:Nat)
 | ref (l off:Nat)
 | fR (el:El) (x:AV) (off:Nat)
 | fg (el:El) (l m i off:Nat)
 | iN
 | wU
 | nS
 | fn (f:Fn) (first cap:List AV)
 | qc (t:TypeId) (v:AV)
 | wV
 | mp (l:Nat)
 | ux (l:Nat)
deriving Inhabited
def AV.scalar: AV->Bool
 | .agg _ | .bX _ | .undef=>false
 | _=>true
def AV.cell: AV->Nat->AV
 | .agg cs,i=>cs.getD i .undef
 | v,_=>v
def AV.cells: AV->List AV
 | .agg cs=>cs
 | v=>[v]
def AV.fits(el:El): AV->Bool
 | .agg cs=>el.ag && cs.length==el.sz && cs.all AV.scalar
 | .bX _ | .undef=>false
 | _=> !el.ag && el.sz==1
structure aO where
 gi:Nat->Prop
 n:Nat
 di:Nat->Nat
 base:Nat->Option Nat
 cap:Nat->Nat
def gR(w:World)(a:Addr): Value:=(w.cell? a).getD undef
def aiI(g:aO)(el:El)(l m lo n:Nat)(v:Value): Prop :=
 l < g.n /\ m <= g.di l /\ ∃ A cap, v = .slice A n cap /\ (m = g.di l -> lo + n <= m /\ cap + lo = g.cap l /\
   (lo<g.cap l->A=(g.base l).map fun b=>⟨b,lo*el.sz,none⟩))
def aiJ(g:aO)(l off:Nat)(v:Value): Prop :=
 (l<g.n/\1<=g.di l)/\ ∃ A,v = .pointer (some A)/\(g.di l=1->g.base l=some A.block/\A=⟨A.block,off,none⟩)
def ag1(g:aO)(el:El)(l m i off:Nat)(v:Value): Prop :=
 l<g.n/\m<=g.di l/\ ∃ A,v = .pointer (some A)/\(m=g.di l->g.base l=some A.block/\A=⟨A.block,i*el.sz+off,none⟩)
def MpP(g:aO)(l:Nat)(v:Value): Prop :=
 l<g.n/\ ∃ b,v = .map (some b)/\(g.di l=0->g.base l=some b)
def aiK(g:aO)(l:Nat)(v:Value): Prop :=
 l<g.n/\ ∃ b,v = .func (.yield b) #[] #[]/\(g.di l=0->g.base l=some b)
inductive VR (g:aO) (w:World):AV->Value->Prop where
 | undef (v:Value):VR g w .undef v
 | bool (b:Bool):VR g w (.bool b) (.bool b)
 | int (k:IntKind) (n:Int):VR g w (.int k n) (.int k n)
 | str (s:List UInt8):VR g w (.str s) (.string ⟨s.toArray⟩)
 | agg (cs : List AV) (vs : Array Value) (hl : cs.length = vs.size) (hs : cs.all AV.scalar = true)
    (h:∀ i,i<cs.length->VR g w (cs.getD i .undef) (vs.getD i Go.undef)):VR g w (.agg cs) (.agg vs)
 | bX (cs : List AV) (vs : Array Value) (hl : cs.length = vs.size)
    (h:∀ i,i<cs.length->VR g w (cs.getD i .undef) (vs.getD i Go.undef)):VR g w (.bX cs) (.tuple vs)
 | ae:VR g w .ae (.slice none 0 0)
 | mq (f:Bool) (el:El) (b:Option Addr) (cap:Nat) (hf:f=true->cap=0):VR g w (.aK f el []) (.slice b 0 cap)
 | aK (f : Bool) (el : El) (xs : List AV) (b off cap : Nat) (hi : g.gi b) (hf : f = true -> cap = xs.length) (hx : xs.length <= cap)
    (ft:∀ i,i<xs.length->(xs.getD i .undef).fits el=true)
    (hc:∀ i c,i<xs.length->c<el.sz->(w.cell? ⟨b,off+(i*el.sz+c),none⟩).isSome=true)
    (h:∀ i c,i<xs.length->c<el.sz->VR g w ((xs.getD i .undef).cell c) (gR w ⟨b,off+(i*el.sz+c),none⟩)) :
    VR g w (.aK f el xs) (.slice (some ⟨b,off,none⟩) xs.length cap)
 | own (el:El) (l m lo n:Nat) (v:Value) (h:aiI g el l m lo n v):VR g w (.own el l m lo n) v
 | ref (l off:Nat) (v:Value) (h:aiJ g l off v):VR g w (.ref l off) v
 | fR (el : El) (x : AV) (off b o : Nat) (hi : g.gi b) (ft : x.fits el = true)
    (hc:∀ c,c<el.sz->(w.cell? ⟨b,o+c,none⟩).isSome=true)
    (h:∀ c,c<el.sz->VR g w (x.cell c) (gR w ⟨b,o+c,none⟩)) :
    VR g w (.fR el x off) (.pointer (some ⟨b,o+off,none⟩))
 | fg (el:El) (l m i off:Nat) (v:Value) (h:ag1 g el l m i off v):VR g w (.fg el l m i off) v
 | iN:VR g w .iN (.pointer none)
 | wU:VR g w .wU .nilFunc
 | nS:VR g w .nS .nilIface
 | fn (f : Fn) (first cap : List AV) (first' cap' : Array Value) (hl : first.length = first'.size) (hl' : cap.length = cap'.size)
    (h:∀ i,i<first.length->VR g w (first.getD i .undef) (first'.getD i Go.undef))
    (h':∀ i,i<cap.length->VR g w (cap.getD i .undef) (cap'.getD i Go.undef)):VR g w (.fn f first cap) (.func f first' cap')
 | qc (t:TypeId) (a:AV) (v:Value) (h:VR g w a v):VR g w (.qc t a) (.iface t v)
 | wV:VR g w .wV (.map none)
 | mp (l:Nat) (v:Value) (h:MpP g l v):VR g w (.mp l) v
 | ux (l:Nat) (v:Value) (h:aiK g l v):VR g w (.ux l) v
structure lK (g:aO) (w:World) (g':aO) (w':World):Prop where
 gi:∀ b,g.gi b->g'.gi b/\w'.heap[b]? = w.heap[b]?
 n:g.n<=g'.n
 di:∀ l,l<g.n->g.di l<=g'.di l/\(g'.di l=g.di l->g'.base l=g.base l/\g'.cap l=g.cap l)
def lK.refl(g:aO)(w:World): lK g w g w:=⟨fun _ h=>⟨h,rfl⟩,Nat.le_refl _,fun _ _=>⟨Nat.le_refl _,fun _=>⟨rfl,rfl⟩⟩⟩
def lK.trans{g1 g2 g3:aO}{w1 w2 w3:World}(h:lK g1 w1 g2 w2)(k:lK g2 w2 g3 w3): lK g1 w1 g3 w3:=by
 refine⟨fun b hb=>?_,cD h.n k.n,fun l hl=>?_⟩
 ·obtain⟨h1,h2⟩:=h.gi b hb;obtain⟨h3,h4⟩:=k.gi b h1;exact⟨h3,h4.trans h2⟩
 ·obtain⟨a1,a2⟩:=h.di l hl;obtain⟨b1,b2⟩:=k.di l (da hl h.n);refine⟨cD a1 b1,fun e=>?_⟩;have e1:g2.di l=g1.di l:=by omega
  have e2:g3.di l=g2.di l:=by omega
  exact⟨(b2 e2).1.trans (a2 e1).1,(b2 e2).2.trans (a2 e1).2⟩
def n8{w w':World}{b:Nat}(h:w'.heap[b]? = w.heap[b]?)(o:Nat)(s:Option Nat): w'.cell? ⟨b,o,s⟩=w.cell? ⟨b,o,s⟩:=by
 simp only[World.cell?,h]
def Pn{w w':World}{b:Nat}(h:w'.heap[b]? = w.heap[b]?)(o:Nat)(s:Option Nat): w'.frozen? ⟨b,o,s⟩=w.frozen? ⟨b,o,s⟩:=by
 simp only[World.frozen?,h]
def vD{w w':World}{b:Nat}(h:w'.heap[b]? = w.heap[b]?)(o:Nat)(s:Option Nat): gR w' ⟨b,o,s⟩=gR w ⟨b,o,s⟩:=by
 simp only[gR,n8 h]
def VR.mono{g g':aO}{w w':World}(hm:lK g w g' w'){a:AV}{v:Value}(h:VR g w a v): VR g' w' a v:=by
 induction h with
 | undef v=>exact .undef v
 | bool b=>exact .bool b
 | int k n=>exact .int k n
 | str s=>exact .str s
 | agg cs vs hl hs _ ih=>exact .agg cs vs hl hs ih
 | bX cs vs hl _ ih=>exact .bX cs vs hl ih
 | ae=>exact .ae
 | mq f el b cap hf=>exact .mq f el b cap hf
 | aK f el xs b off cap hi hf hx ft hc _ ih =>
   obtain⟨hi',he⟩:=hm.gi b hi;refine .aK f el xs b off cap hi' hf hx ft (fun i c h1 h2=>?_) (fun i c h1 h2=>?_)
   ·rw[n8 he];exact hc i c h1 h2
   ·rw[vD he];exact ih i c h1 h2
 | own el l m lo n v h =>
   obtain⟨h1,h2,A,cap,h3,h4⟩:=h;obtain⟨v1,v2⟩:=hm.di l h1;refine .own el l m lo n v ⟨da h1 hm.n,cD h2 v1,A,cap,h3,fun e=>?_⟩;have e1:g'.di l=g.di l:=by omega
   obtain⟨b1,b2⟩:=v2 e1;rw[b1,b2];exact h4 (by omega)
 | ref l off v h =>
   obtain⟨⟨h1,h0⟩,A,h2,h3⟩:=h;obtain⟨v1,v2⟩:=hm.di l h1;refine .ref l off v ⟨⟨da h1 hm.n,cD h0 v1⟩,A,h2,fun e=>?_⟩;have e1:g'.di l=g.di l:=by omega
   rw[(v2 e1).1];exact h3 (by omega)
 | fR el x off b o hi ft hc _ ih =>
   obtain⟨hi',he⟩:=hm.gi b hi;refine .fR el x off b o hi' ft (fun c h2=>?_) (fun c h2=>?_)
   ·rw[n8 he];exact hc c h2
   ·rw[vD he];exact ih c h2
 | fg el l m i off v h =>
   obtain⟨h1,h2,A,h3,h4⟩:=h;obtain⟨v1,v2⟩:=hm.di l h1;refine .fg el l m i off v ⟨da h1 hm.n,cD h2 v1,A,h3,fun e=>?_⟩;have e1:g'.di l=g.di l:=by omega
   rw[(v2 e1).1];exact h4 (by omega)
 | iN=>exact .iN
 | wU=>exact .wU
 | nS=>exact .nS
 | fn f first cap first' cap' hl hl' _ _ ih JV=>exact .fn f first cap first' cap' hl hl' ih JV
 | qc t a v _ ih=>exact .qc t a v ih
 | wV=>exact .wV
 | mp l v h =>
   obtain⟨h1,b,h2,h3⟩:=h;obtain⟨v1,v2⟩:=hm.di l h1;refine .mp l v ⟨da h1 hm.n,b,h2,fun e=>?_⟩;have e1:g'.di l=g.di l:=by omega
   rw[(v2 e1).1];exact h3 (by omega)
 | ux l v h =>
   obtain⟨h1,b,h2,h3⟩:=h;obtain⟨v1,v2⟩:=hm.di l h1;refine .ux l v ⟨da h1 hm.n,b,h2,fun e=>?_⟩;have e1:g'.di l=g.di l:=by omega
   rw[(v2 e1).1];exact h3 (by omega)
def VR.Rw{g:aO}{w:World}{a:AV}{v:Value}(h:VR g w a v)(hs:a.scalar=true): v.oneCell'=true:=by
 cases h<;>first
  | rfl
  |(simp[AV.scalar]at hs;done)
  | skip
 case own h=>obtain⟨_,_,A,cap,rfl,_⟩:=h;rfl
 case ref h=>obtain⟨_,A,rfl,_⟩:=h;rfl
 case fg h=>obtain⟨_,_,A,rfl,_⟩:=h;rfl
 case mp h=>obtain⟨_,A,rfl,_⟩:=h;rfl
 case ux h=>obtain⟨_,A,rfl,_⟩:=h;rfl
inductive aX where
 | bF (T:Option TypeId) (cs:List AV)
 | cn (T:Option TypeId) (el:El) (xs:List AV)
 | iY (s:List UInt8) (pos:Nat)
 | map (es:List (AV × AV))
 | loop (nt:Nat) (e:Nat->AV) (ps:Array Tmp) (assign body:Code) (st:LoopState) (als:Option Code)
 | dead
 | lM
deriving Inhabited
abbrev aX.cells(cs:List AV): aX:= .bF none cs
abbrev aX.vec(el:El)(xs:List AV): aX:= .cn none el xs
def Ar(w:World)(b n:Nat): Option TypeId->Prop
 | none=>True
 | some T=>w.shape? b=some (T,n)
def Ar.of_heap{w w':World}{b n:Nat}{T:Option TypeId}(h:Ar w b n T)(he:w'.heap[b]? = w.heap[b]?): Ar w' b n T:=by
 cases T with
 | none=>trivial
 | some T=>simp only[Ar,World.shape?]at *;rw[he];exact h
abbrev aj:=List aX
def aX.live: aX->Bool
 | .dead=>false
 | _=>true
def Live(σ : aj)(l:Nat): Prop:= ∃ o,σ[l]? = some o/\o.live=true
def n9(σ : aj)(g:aO)(b:Nat): Prop:= ∃ l,Live σ l/\g.base l=some b
def Row(w:World)(b:Nat)(vs:Array Value): Prop :=
 ∃ T fz,w.heap[b]? = some (.cells vs T fz)/\ ∀ i,i<vs.size->w.frozen? ⟨b,i,none⟩=false
def aX.Ok(g:aO)(w:World)(l:Nat): aX->Prop
 | .bF T cs => g.di l = 1 /\ cs.all AV.scalar = true /\ ∃ b vs, g.base l = some b /\ Row w b vs /\ vs.size = cs.length /\
    (∀ i,i<cs.length->VR g w (cs.getD i .undef) (vs.getD i Go.undef))/\Ar w b cs.length T
 | .cn T el xs => g.di l = xs.length /\ (∀ i, i < xs.length -> (xs.getD i .undef).fits el = true) /\
    ((xs = [] /\ g.base l = none /\ g.cap l = 0) \/
      ∃ b vs, g.base l = some b /\ Row w b vs /\ vs.size = g.cap l * el.sz /\ xs.length <= g.cap l /\
        (∀ i c,i<xs.length->c<el.sz->VR g w ((xs.getD i .undef).cell c) (vs.getD (i*el.sz+c) Go.undef))/\Ar w b vs.size T)
 | .iY s pos=>g.di l=1/\ ∃ b,g.base l=some b/\w.heap[b]? = some (.stringIter ⟨s.toArray⟩ pos)
 | .map es => g.di l = 0 /\ ∃ b ms clock, g.base l = some b /\ w.heap[b]? = some (.map ms clock) /\ ms.size = es.length /\
    ∀ i,i<es.length->VR g w (es.getD i default).1 (ms.getD i default).key/\VR g w (es.getD i default).2 (ms.getD i default).val
 | .loop nt e ps ca cb st pe => g.di l = 0 /\ ∃ b rec, g.base l = some b /\ w.heap[b]? = some (.loop rec) /\ rec.params = ps /\ rec.assign = ca /\ rec.body = cb /\ rec.state = st /\ rec.pending = pe /\
    rec.tmps.size=nt/\ ∀ t,t<nt->VR g w (e t) (rec.tmps.getD t Go.undef)
 | .dead=>True
 | .lM=>g.di l=0/\g.base l=none/\g.cap l=0
def Ee(g:aO)(w:World): Prop:=(∀ b ∈ UR,g.gi b)/\FW w
def Ee.mono{g g':aO}{w w':World}(h:Ee g w)(hm:∀ b,g.gi b->g'.gi b/\w'.heap[b]? = w.heap[b]?): Ee g' w' :=
 ⟨fun b hb=>(hm b (h.1 b hb)).1,h.2.of_heap fun b hb=>(hm b (h.1 b hb)).2⟩
structure Rel (g:aO) (w:World) (σ : aj):Prop where
 len : σ.length=g.n
 lt:∀ b,g.gi b->b<w.heap.size
 ok:∀ (l:Nat) (o:aX),σ[l]? = some o->o.Ok g w l
 inj:∀ l l' b,Live σ l->Live σ l'->g.base l=some b->g.base l'=some b->l=l'
 yp:∀ l b,Live σ l->g.base l=some b->¬ g.gi b
 mu:Ee g w
structure gN (σ : aj) (g:aO) (w:World) (σ':aj) (g':aO) (w':World):Prop where
 mono:lK g w g' w'
 size:w.heap.size<=w'.heap.size
 os:w'.os=w.os
 tape:w'.tape=w.tape
 output:w'.output=w.output
 frame:∀ b,b<w.heap.size->¬ n9 σ g b->w'.heap[b]? = w.heap[b]?
 Cr:∀ b,b<w.heap.size->g'.gi b->g.gi b\/n9 σ g b
 SK:∀ b,b<w.heap.size->n9 σ' g' b->n9 σ g b
def gN.refl(σ : aj)(g:aO)(w:World): gN σ g w σ g w :=
 ⟨.refl _ _,Nat.le_refl _,rfl,rfl,rfl,fun _ _ _=>rfl,fun _ _ h=> .inl h,fun _ _ h=>h⟩
def gN.trans{σ1 σ2 σ3:aj}{g1 g2 g3:aO}{w1 w2 w3:World}(h:gN σ1 g1 w1 σ2 g2 w2)(k:gN σ2 g2 w2 σ3 g3 w3): gN σ1 g1 w1 σ3 g3 w3:=by
 refine⟨h.mono.trans k.mono,cD h.size k.size,k.os.trans h.os,k.tape.trans h.tape,k.output.trans h.output,fun b hb ht=>?_,fun b hb hi=>?_,fun b hb ht=>?_⟩
 ·rw[k.frame b (da hb h.size) (fun t=>ht (h.SK b hb t)),h.frame b hb ht]
 ·rcases k.Cr b (Nat.lt_of_lt_of_le hb h.size) hi with h1|h1
  ·exact h.Cr b hb h1
  ·exact .inr (h.SK b hb h1)
 ·exact h.SK b hb (k.SK b (da hb h.size) ht)
def gN.drew(σ : aj)(g:aO)(w:World)(d:Nat): gN σ g w σ g { w with drawn:=d } :=
 ⟨⟨fun _ h=>⟨h,rfl⟩,Nat.le_refl _,fun _ _=>⟨Nat.le_refl _,fun _=>⟨rfl,rfl⟩⟩⟩,Nat.le_refl _,rfl,rfl,rfl,fun _ _ _=>rfl,fun _ _ h=> .inl h,fun _ _ h=>h⟩
def Row.lt{w:World}{b:Nat}{vs:Array Value}(h:Row w b vs): b<w.heap.size:=by
 obtain⟨T,fz,h,_⟩:=h;exact(dR.1 h).1
def Row.of_heap{w w':World}{b:Nat}{vs:Array Value}(h:Row w b vs)(he:w'.heap[b]? = w.heap[b]?): Row w' b vs:=by
 obtain⟨T,fz,h,hf⟩:=h;exact⟨T,fz,he.trans h,fun i hi=>(Pn he i none).trans (hf i hi)⟩
def Row.cell{w:World}{b:Nat}{vs:Array Value}(h:Row w b vs){i:Nat}(hi:i<vs.size): w.cell? ⟨b,i,none⟩=some (vs.getD i Go.undef):=by
 obtain⟨T,fz,h,_⟩:=h;simp[World.cell?,h,hi]
def aX.Ok.step {g g' : aO} {w w' : World} {l : Nat} {o : aX} (h : o.Ok g w l) (hm : lK g w g' w') (hl : l < g.n)
    (hv:g'.di l=g.di l) (hb:∀ b,g.base l=some b->w'.heap[b]? = w.heap[b]?):o.Ok g' w' l:=by
 obtain⟨e1,e2⟩:=(hm.di l hl).2 hv;cases o with
 | bF T cs =>
   obtain⟨h1,hs,b,vs,h2,h3,h4,h5,h6⟩:=h;exact⟨hv.trans h1,hs,b,vs,e1.trans h2,h3.of_heap (hb b h2),h4,fun i hi=>(h5 i hi).mono hm,h6.of_heap (hb b h2)⟩
 | cn T el xs =>
   obtain⟨h1,hf,h2⟩:=h;refine⟨hv.trans h1,hf,?_⟩;rcases h2 with⟨h2,h3,h4⟩|⟨b,vs,h2,h3,h4,h5,h6,h7⟩
   ·exact .inl ⟨h2,e1.trans h3,e2.trans h4⟩
   ·exact .inr ⟨b,vs,e1.trans h2,h3.of_heap (hb b h2),by rw[e2];exact h4,by rw[e2];exact h5,fun i c hi hc=>(h6 i c hi hc).mono hm,h7.of_heap (hb b h2)⟩
 | iY s pos =>
   obtain⟨h1,b,h2,h3⟩:=h;exact⟨hv.trans h1,b,e1.trans h2,(hb b h2).trans h3⟩
 | map es =>
   obtain⟨h1,b,ms,clock,h2,h3,h4,h5⟩:=h;exact⟨hv.trans h1,b,ms,clock,e1.trans h2,(hb b h2).trans h3,h4,fun i hi=>⟨(h5 i hi).1.mono hm,(h5 i hi).2.mono hm⟩⟩
 | loop nt e ps ca cb st pe =>
   obtain⟨h1,b,rec,h2,h3,h4,h5,h6,h7,h8,h9,h10⟩:=h;exact⟨hv.trans h1,b,rec,e1.trans h2,(hb b h2).trans h3,h4,h5,h6,h7,h8,h9,fun t ht=>(h10 t ht).mono hm⟩
 | dead=>trivial
 | lM=>exact⟨hv.trans h.1,e1.trans h.2.1,e2.trans h.2.2⟩
def Rel.jA{g:aO}{w:World}{σ : aj}(h:Rel g w σ){l b:Nat}(hl:Live σ l)(hb:g.base l=some b): b<w.heap.size:=by
 obtain⟨o,ho,hv⟩:=hl;have:=h.ok l o ho;cases o with
 | bF T cs=>obtain⟨_,_,b',vs,h2,h3,_⟩:=this;rw[hb]at h2;cases h2;exact h3.lt
 | cn T el xs =>
   obtain⟨_,_,h2⟩:=this;rcases h2 with⟨_,h3,_⟩|⟨b',vs,h2,h3,_⟩
   ·rw[hb]at h3;cases h3
   ·rw[hb]at h2;cases h2;exact h3.lt
 | iY s pos=>obtain⟨_,b',h2,h3⟩:=this;rw[hb]at h2;cases h2;exact(Array.getElem?_eq_some_iff.1 h3).1
 | map es=>obtain⟨_,b',_,_,h2,h3,_⟩:=this;rw[hb]at h2;cases h2;exact(Array.getElem?_eq_some_iff.1 h3).1
 | loop nt e ps ca cb st pe=>obtain⟨_,b',_,h2,h3,_⟩:=this;rw[hb]at h2;cases h2;exact(Array.getElem?_eq_some_iff.1 h3).1
 | dead=>simp[aX.live]at hv
 | lM=>rw[this.2.1]at hb;cases hb
def Rel.G5{g:aO}{w:World}{σ : aj}(h:Rel g w σ){b:Nat}(ht:n9 σ g b): b<w.heap.size :=
 let ⟨_,hl,hb⟩:=ht;h.jA hl hb
def Live.lt{σ : aj}{l:Nat}(h:Live σ l): l < σ.length:=by
 obtain⟨o,ho,_⟩:=h;exact(aN.1 ho).1
def heap_alloc_old(w:World)(o:Obj){b:Nat}(h:b<w.heap.size): (w.alloc o).heap[b]? = w.heap[b]?:=by
 exact Go.RowKit.Below.heap_alloc w o b h
def heap_alloc_new(w:World)(o:Obj): (w.alloc o).heap[w.heap.size]? = some o:=by
 show(w.heap.push o)[w.heap.size]? = _;simp
def Rel.drew{g:aO}{w:World}{σ : aj}(h:Rel g w σ)(d:Nat): Rel g { w with drawn:=d } σ :=
 ⟨h.len,h.lt,fun l o ho=>(h.ok l o ho).step (gN.drew σ g w d).mono (by rw[<-h.len];exact(aN.1 ho).1) rfl (fun _ _=>rfl),h.inj,h.yp,h.mu.mono fun _ hb=>⟨hb,rfl⟩⟩
def aO.Cs(g:aO)(b:Nat): aO:= { g with gi:=fun c=>g.gi c\/c=b }
def aO.push(g:aO)(v:Nat)(b:Option Nat)(c:Nat): aO :=
 { g with n:=g.n+1,di:=fun l=>if l=g.n then v else g.di l,base:=fun l=>if l=g.n then b else g.base l,cap:=fun l=>if l=g.n then c else g.cap l }
def FX(g:aO)(w:World)(o:Obj)(hlt:∀ b,g.gi b->b<w.heap.size): lK g w (g.Cs w.heap.size) (w.alloc o) :=
 ⟨fun b h=>⟨.inl h,heap_alloc_old w o (hlt b h)⟩,Nat.le_refl _,fun _ _=>⟨Nat.le_refl _,fun _=>⟨rfl,rfl⟩⟩⟩
def lW(g:aO)(w:World)(o:Obj)(v:Nat)(b:Option Nat)(c:Nat)(hlt:∀ b,g.gi b->b<w.heap.size): lK g w (g.push v b c) (w.alloc o) :=
 ⟨fun b h => ⟨h, heap_alloc_old w o (hlt b h)⟩, Nat.le_succ _, fun l hl => by
   have:l≠g.n:=Nat.ne_of_lt hl;simp[aO.push,this]⟩
def Rel.acu{g:aO}{w:World}{σ : aj}(h:Rel g w σ)(o:Obj): Rel (g.Cs w.heap.size) (w.alloc o) σ/\gN σ g w σ (g.Cs w.heap.size) (w.alloc o):=by
 have hm:=FX g w o h.lt;refine⟨⟨h.len,fun b hb=>?_,fun l o' ho=>?_,h.inj,fun l b hl hb hi=>?_,h.mu.mono hm.gi⟩,⟨hm,by simp,rfl,rfl,rfl,fun b hb _=>heap_alloc_old w o hb,fun b hb hi=>?_,fun b _ ht=>ht⟩⟩
 ·rcases hb with hb|rfl
  ·have:=h.lt b hb;simp;omega
  ·simp
 ·have hl:l<g.n:=by rw[<-h.len];exact(aN.1 ho).1
  by_cases hv:o'.live=true
  ·exact(h.ok l o' ho).step hm hl rfl (fun b hb=>heap_alloc_old w o (h.jA ⟨o',ho,hv⟩ hb))
  ·cases o'<;>simp[aX.live]at hv;trivial
 ·rcases hi with hi|rfl
  ·exact h.yp l b hl hb hi
  ·exact absurd (h.jA hl hb) (fO _)
 ·rcases hi with hi|rfl
  ·exact .inl hi
  ·exact absurd hb (fO _)
def rF{σ : aj}{o:aX}{l:Nat}(h:Live (σ++[o]) l): Live σ l\/l = σ.length:=by
 obtain⟨o',ho,hv⟩:=h;by_cases hl:l < σ.length
 ·exact .inl ⟨o',by rwa[List.getElem?_append_left hl]at ho,hv⟩
 ·have:=(aN.1 ho).1;simp at this;exact .inr (by omega)
def Rel.acv{g:aO}{w:World}{σ : aj}(h:Rel g w σ)(o:Obj): Rel g (w.alloc o) σ/\gN σ g w σ g (w.alloc o):=by
 have hm:lK g w g (w.alloc o):=⟨fun b hb=>⟨hb,heap_alloc_old w o (h.lt b hb)⟩,Nat.le_refl _,fun _ _=>⟨Nat.le_refl _,fun _=>⟨rfl,rfl⟩⟩⟩
 refine⟨⟨h.len,fun b hb=>by have:=h.lt b hb;simp;omega,fun l o' ho=>?_,h.inj,h.yp,h.mu.mono hm.gi⟩,
  ⟨hm,by simp,rfl,rfl,rfl,fun b hb _=>heap_alloc_old w o hb,fun b hb hi=> .inl hi,fun b hb ht=>ht⟩⟩
 have hl:l<g.n:=by rw[<-h.len];exact(aN.1 ho).1
 by_cases hv:o'.live=true
 ·exact(h.ok l o' ho).step hm hl rfl (fun b hb=>heap_alloc_old w o (h.jA ⟨o',ho,hv⟩ hb))
 ·cases o'<;>simp[aX.live]at hv;trivial
def Rel.ae8 {g0 g : aO} {w0 w w' : World} {wv σ : aj} {D : Nat} (h : Rel g w σ) (hev : gN wv g0 w0 σ g w) (hD : w0.heap.size <= D) (ht : ¬ n9 σ g D) (hi : ¬ g.gi D)
    (hsz:w'.heap.size=w.heap.size) (hos:w'.os=w.os) (G6:w'.tape=w.tape) (hout:w'.output=w.output) (BI:∀ c,c≠D->w'.heap[c]? = w.heap[c]?) :
    Rel g w' σ/\gN wv g0 w0 σ g w'/\lK g w g w':=by
 have hm:lK g w g w':=⟨fun b hb=>⟨hb,BI b (fun e=>hi (e ▸ hb))⟩,Nat.le_refl _,fun _ _=>⟨Nat.le_refl _,fun _=>⟨rfl,rfl⟩⟩⟩
 refine⟨⟨h.len,fun b hb=>by rw[hsz];exact h.lt b hb,fun l o' ho=>?_,h.inj,h.yp,h.mu.mono hm.gi⟩,
  ⟨hev.mono.trans hm,by rw[hsz];exact hev.size,hos.trans hev.os,G6.trans hev.tape,hout.trans hev.output,fun b hb hnt=>(BI b (by omega)).trans (hev.frame b hb hnt),hev.Cr,hev.SK⟩,hm⟩
 have hl:l<g.n:=by rw[<-h.len];exact(aN.1 ho).1
 by_cases hv:o'.live=true
 ·exact(h.ok l o' ho).step hm hl rfl (fun b hb=>BI b (fun e=>ht ⟨l,⟨o',ho,hv⟩,e ▸ hb⟩))
 ·cases o'<;>simp[aX.live]at hv;trivial
def Rel.yN {g : aO} {w : World} {σ : aj} (h : Rel g w σ) (o : Obj) (ao : aX) (v c : Nat)
    (hok:ao.Ok (g.push v (some w.heap.size) c) (w.alloc o) g.n) :
    Rel (g.push v (some w.heap.size) c) (w.alloc o) (σ++[ao])/\gN σ g w (σ++[ao]) (g.push v (some w.heap.size) c) (w.alloc o):=by
 have hm:=lW g w o v (some w.heap.size) c h.lt;have hbase:∀ l,l<g.n->(g.push v (some w.heap.size) c).base l=g.base l:=fun l hl=>by simp[aO.push,Nat.ne_of_lt hl]
 have hnew:(g.push v (some w.heap.size) c).base g.n=some w.heap.size:=by simp[aO.push]
 have hold:∀ l b,Live σ l->(g.push v (some w.heap.size) c).base l=some b->g.base l=some b/\b<w.heap.size:=fun l b hl hb=>by
  rw[hbase l (by rw[<-h.len];exact hl.lt)]at hb;exact⟨hb,h.jA hl hb⟩
 refine⟨⟨by simp[aO.push,h.len],fun b hb=>by have:=h.lt b hb;simp;omega,fun l o' ho=>?_,fun l l' b hl hl' hb hb'=>?_,fun l b hl hb hi=>?_,h.mu.mono hm.gi⟩,
  ⟨hm,by simp,rfl,rfl,rfl,fun b hb _=>heap_alloc_old w o hb,fun b hb hi=> .inl hi,fun b hb ht=>?_⟩⟩
 ·by_cases hl:l < σ.length
  ·rw[List.getElem?_append_left hl]at ho;have hl':l<g.n:=by rw[<-h.len];exact hl
   by_cases hv:o'.live=true
   ·refine(h.ok l o' ho).step hm hl' (by simp[aO.push,Nat.ne_of_lt hl']) (fun b hb=>heap_alloc_old w o (h.jA ⟨o',ho,hv⟩ hb))
   ·cases o'<;>simp[aX.live]at hv;trivial
  ·have h1:=(aN.1 ho).1;simp at h1;have h2:l = σ.length:=by omega
   subst h2;simp at ho;subst ho;rw[h.len];exact hok
 ·rcases rF hl with hl|rfl<;>rcases rF hl' with hl'|rfl
  ·exact h.inj l l' b hl hl' (hold l b hl hb).1 (hold l' b hl' hb').1
  ·have:=(hold l b hl hb).2;rw[h.len,hnew]at hb';cases hb';exact absurd this (fO _)
  ·have:=(hold l' b hl' hb').2;rw[h.len,hnew]at hb;cases hb;exact absurd this (fO _)
  ·rfl
 ·rcases rF hl with hl|rfl
  ·exact h.yp l b hl (hold l b hl hb).1 hi
  ·rw[h.len,hnew]at hb;cases hb;exact absurd (h.lt _ hi) (fO _)
 ·obtain⟨l,hl,hb'⟩:=ht;rcases rF hl with hl|rfl
  ·exact⟨l,hl,(hold l b hl hb').1⟩
  ·rw[h.len,hnew]at hb';cases hb';exact absurd hb (fO _)
def aO.reset(g:aO)(l v:Nat)(b:Option Nat)(c:Nat): aO :=
 { g with di:=fun k=>if k=l then v else g.di k,base:=fun k=>if k=l then b else g.base k,cap:=fun k=>if k=l then c else g.cap k }
def nr{σ : aj}{l k:Nat}{o:aX}(h:Live (σ.set l o) k): (k=l/\l < σ.length/\o.live=true)\/(k≠l/\Live σ k):=by
 obtain⟨o',ho,hv⟩:=h;by_cases hk:k=l
 ·subst hk;have hlt:=(aN.1 ho).1;simp at hlt;simp[hlt]at ho;exact .inl ⟨rfl,hlt,ho ▸ hv⟩
 ·rw[aH (Ne.symm hk)]at ho;exact .inr ⟨hk,o',ho,hv⟩
def Rel.change {g : aO} {w w' : World} {σ : aj} {l : Nat} {o o' : aX} (h : Rel g w σ) (hl : σ[l]? = some o) (ho : o.live = true)
    (v:Nat) (nb:Option Nat) (c:Nat) (hv:g.di l<=v) (hvb:v=g.di l->nb=g.base l/\c=g.cap l)
    (hsz:w.heap.size<=w'.heap.size) (hos:w'.os=w.os) (G6:w'.tape=w.tape) (hout:w'.output=w.output)
    (BI:∀ b,b<w.heap.size->g.base l≠some b->w'.heap[b]? = w.heap[b]?)
    (hnb:∀ b,nb=some b->g.base l=some b\/w.heap.size<=b)
    (hok:lK g w (g.reset l v nb c) w'->o'.Ok (g.reset l v nb c) w' l) :
    Rel (g.reset l v nb c) w' (σ.set l o')/\gN σ g w (σ.set l o') (g.reset l v nb c) w':=by
 have nH:Live σ l:=⟨o,hl,ho⟩;have hbase:∀ k,k≠l->(g.reset l v nb c).base k=g.base k:=fun k hk=>by simp[aO.reset,hk]
 have US:(g.reset l v nb c).base l=nb:=by simp[aO.reset]
 have hm:lK g w (g.reset l v nb c) w':=by
  refine⟨fun b hb=>⟨hb,BI b (h.lt b hb) (fun e=>h.yp l b nH e hb)⟩,Nat.le_refl _,fun k _=>?_⟩;by_cases hk:k=l
  ·subst hk;simp only[aO.reset,if_true];exact⟨hv,hvb⟩
  ·simp[aO.reset,hk]
 refine⟨⟨by simp[aO.reset,h.len],fun b hb=>da (h.lt b hb) hsz,fun k ok hk=>?_,fun k k' b hk hk' hb hb'=>?_,fun k b hk hb hi=>?_,h.mu.mono hm.gi⟩,
  ⟨hm,hsz,hos,G6,hout,fun b hb ht=>BI b hb (fun e=>ht ⟨l,nH,e⟩),fun b _ hi=> .inl hi,fun b hb ht=>?_⟩⟩
 ·by_cases e:k=l
  ·subst e;have hlt:=(aN.1 hk).1;simp at hlt;simp[hlt]at hk;subst hk;exact hok hm
  ·rw[aH (Ne.symm e)]at hk;have hkn:k<g.n:=by rw[<-h.len];exact(aN.1 hk).1
   by_cases JW:ok.live=true
   ·refine(h.ok k ok hk).step hm hkn (by simp[aO.reset,e]) (fun b hb=>BI b (h.jA ⟨ok,hk,JW⟩ hb) (fun e'=>e (h.inj k l b ⟨ok,hk,JW⟩ nH hb e')))
   ·cases ok<;>simp[aX.live]at JW;trivial
 ·rcases nr hk with⟨e,_,_⟩|⟨e,hk2⟩<;>rcases nr hk' with⟨e',_,_⟩|⟨e',acw⟩
  ·exact e.trans e'.symm
  ·subst e;rw[US]at hb;rw[hbase k' e']at hb';rcases hnb b hb with h1|h1
   ·exact h.inj _ _ b nH acw h1 hb'
   ·have:=h.jA acw hb';omega
  ·subst e';rw[US]at hb';rw[hbase k e]at hb;rcases hnb b hb' with h1|h1
   ·exact h.inj _ _ b hk2 nH hb h1
   ·have:=h.jA hk2 hb;omega
  ·rw[hbase k e]at hb;rw[hbase k' e']at hb';exact h.inj k k' b hk2 acw hb hb'
 ·rcases nr hk with⟨rfl,_,_⟩|⟨e,hk⟩
  ·rw[US]at hb;rcases hnb b hb with h1|h1
   ·exact h.yp _ b nH h1 hi
   ·have:=h.lt b hi;omega
  ·rw[hbase k e]at hb;exact h.yp k b hk hb hi
 ·obtain⟨k,hk,hb'⟩:=ht;rcases nr hk with⟨rfl,_,_⟩|⟨e,hk⟩
  ·rw[US]at hb';rcases hnb b hb' with h1|h1
   ·exact⟨_,nH,h1⟩
   ·omega
  ·exact⟨k,hk,by rw[hbase k e]at hb';exact hb'⟩
def aO.G7(g:aO)(l:Nat): g.reset l (g.di l) (g.base l) (g.cap l)=g:=by
 simp only[aO.reset]
 congr 1<;>(funext k;split<;>simp_all)
def Rel.update {g : aO} {w w' : World} {σ : aj} {l b : Nat} {o o' : aX} (h : Rel g w σ) (hl : σ[l]? = some o) (ho : o.live = true) (hb : g.base l = some b)
    (hsz:w'.heap.size=w.heap.size) (hos:w'.os=w.os) (G6:w'.tape=w.tape) (hout:w'.output=w.output)
    (BI:∀ c,c≠b->w'.heap[c]? = w.heap[c]?) (hok:lK g w g w'->o'.Ok g w' l) :
    Rel g w' (σ.set l o')/\gN σ g w (σ.set l o') g w':=by
 have:=Rel.change (o':=o') (w':=w') h hl ho (g.di l) (g.base l) (g.cap l) (Nat.le_refl _) (fun _=>⟨rfl,rfl⟩) (Nat.le_of_eq hsz.symm) hos G6 hout
  (fun c _ hc=>BI c (fun e=>hc (e ▸ hb))) (fun c hc=> .inl hc)
 rw[g.G7 l]at this;exact this hok
def Rel.freeze {g : aO} {w : World} {σ : aj} {l b : Nat} {o : aX} (h : Rel g w σ) (hl : σ[l]? = some o) (ho : o.live = true) (hb : g.base l = some b) :
    Rel (g.Cs b) w (σ.set l .dead)/\gN σ g w (σ.set l .dead) (g.Cs b) w:=by
 have nH:Live σ l:=⟨o,hl,ho⟩;have hm:lK g w (g.Cs b) w:=⟨fun c hc=>⟨.inl hc,rfl⟩,Nat.le_refl _,fun _ _=>⟨Nat.le_refl _,fun _=>⟨rfl,rfl⟩⟩⟩
 refine⟨⟨by simp[aO.Cs,h.len],fun c hc=>?_,fun k ok hk=>?_,fun k k' c hk hk' hc hc'=>?_,fun k c hk hc hi=>?_,h.mu.mono hm.gi⟩,
  ⟨hm,Nat.le_refl _,rfl,rfl,rfl,fun _ _ _=>rfl,fun c _ hi=>?_,fun c _ ht=>?_⟩⟩
 ·rcases hc with hc|rfl
  ·exact h.lt c hc
  ·exact h.jA nH hb
 ·by_cases e:k=l
  ·subst e;have hlt:=(aN.1 hk).1;simp at hlt;simp[hlt]at hk;subst hk;trivial
  ·rw[aH (Ne.symm e)]at hk;have hkn:k<g.n:=by rw[<-h.len];exact(aN.1 hk).1
   exact(h.ok k ok hk).step hm hkn rfl (fun _ _=>rfl)
 ·rcases nr hk with⟨_,_,e⟩|⟨_,hk⟩
  ·simp[aX.live]at e
  ·rcases nr hk' with⟨_,_,e⟩|⟨_,hk'⟩
   ·simp[aX.live]at e
   ·exact h.inj k k' c hk hk' hc hc'
 ·rcases nr hk with⟨_,_,e⟩|⟨e,hk⟩
  ·simp[aX.live]at e
  ·rcases hi with hi|rfl
   ·exact h.yp k c hk hc hi
   ·exact e (h.inj k l c hk nH hc hb)
 ·rcases hi with hi|rfl
  ·exact .inl hi
  ·exact .inr ⟨l,nH,hb⟩
 ·obtain⟨k,hk,hc⟩:=ht;rcases nr hk with⟨_,_,e⟩|⟨_,hk⟩
  ·simp[aX.live]at e
  ·exact⟨k,hk,hc⟩
def Rel.iZ {g : aO} {w : World} {σ : aj} (h : Rel g w σ) (el : El) :
    Rel (g.push 0 none 0) w (σ++[.vec el []])/\gN σ g w (σ++[.vec el []]) (g.push 0 none 0) w:=by
 have hm:lK g w (g.push 0 none 0) w:=⟨fun b hb=>⟨hb,rfl⟩,Nat.le_succ _,fun l hl=>by simp[aO.push,Nat.ne_of_lt hl]⟩;have hbase:∀ l,l<g.n->(g.push 0 none 0).base l=g.base l:=fun l hl=>by simp[aO.push,Nat.ne_of_lt hl]
 have hnew:(g.push 0 none 0).base g.n=none:=by simp[aO.push]
 have hold:∀ l b,Live (σ++[.vec el []]) l->(g.push 0 none 0).base l=some b->Live σ l/\g.base l=some b:=fun l b hl hb=>by
  rcases rF hl with hl|rfl
  ·rw[hbase l (by rw[<-h.len];exact hl.lt)]at hb;exact⟨hl,hb⟩
  ·rw[h.len,hnew]at hb;cases hb
 refine⟨⟨by simp[aO.push,h.len],h.lt,fun l o' ho=>?_,fun l l' b hl hl' hb hb'=>h.inj l l' b (hold l b hl hb).1 (hold l' b hl' hb').1 (hold l b hl hb).2 (hold l' b hl' hb').2,
  fun l b hl hb hi=>h.yp l b (hold l b hl hb).1 (hold l b hl hb).2 hi,h.mu.mono hm.gi⟩,
  ⟨hm,Nat.le_refl _,rfl,rfl,rfl,fun _ _ _=>rfl,fun b hb hi=> .inl hi,fun b hb ht=>?_⟩⟩
 ·by_cases hl:l < σ.length
  ·rw[List.getElem?_append_left hl]at ho;have hl':l<g.n:=by rw[<-h.len];exact hl
   exact(h.ok l o' ho).step hm hl' (by simp[aO.push,Nat.ne_of_lt hl']) (fun _ _=>rfl)
  ·have h1:=(aN.1 ho).1;simp at h1;have h2:l = σ.length:=by omega
   subst h2;simp at ho;subst ho;rw[h.len];exact⟨by simp[aO.push],by simp,.inl ⟨rfl,hnew,by simp[aO.push]⟩⟩
 ·obtain⟨l,hl,hb'⟩:=ht;exact⟨l,(hold l b hl hb').1,(hold l b hl hb').2⟩
def Rel.hold {g : aO} {w : World} {σ : aj} (h : Rel g w σ) :
    Rel (g.push 0 none 0) w (σ++[.lM])/\gN σ g w (σ++[.lM]) (g.push 0 none 0) w:=by
 have hm:lK g w (g.push 0 none 0) w:=⟨fun b hb=>⟨hb,rfl⟩,Nat.le_succ _,fun l hl=>by simp[aO.push,Nat.ne_of_lt hl]⟩;have hbase:∀ l,l<g.n->(g.push 0 none 0).base l=g.base l:=fun l hl=>by simp[aO.push,Nat.ne_of_lt hl]
 have hnew:(g.push 0 none 0).base g.n=none:=by simp[aO.push]
 have hold:∀ l b,Live (σ++[.lM]) l->(g.push 0 none 0).base l=some b->Live σ l/\g.base l=some b:=fun l b hl hb=>by
  rcases rF hl with hl|rfl
  ·rw[hbase l (by rw[<-h.len];exact hl.lt)]at hb;exact⟨hl,hb⟩
  ·rw[h.len,hnew]at hb;cases hb
 refine⟨⟨by simp[aO.push,h.len],h.lt,fun l o' ho=>?_,fun l l' b hl hl' hb hb'=>h.inj l l' b (hold l b hl hb).1 (hold l' b hl' hb').1 (hold l b hl hb).2 (hold l' b hl' hb').2,
  fun l b hl hb hi=>h.yp l b (hold l b hl hb).1 (hold l b hl hb).2 hi,h.mu.mono hm.gi⟩,
  ⟨hm,Nat.le_refl _,rfl,rfl,rfl,fun _ _ _=>rfl,fun b hb hi=> .inl hi,fun b hb ht=>?_⟩⟩
 ·by_cases hl:l < σ.length
  ·rw[List.getElem?_append_left hl]at ho;have hl':l<g.n:=by rw[<-h.len];exact hl
   exact(h.ok l o' ho).step hm hl' (by simp[aO.push,Nat.ne_of_lt hl']) (fun _ _=>rfl)
  ·have h1:=(aN.1 ho).1;simp at h1;have h2:l = σ.length:=by omega
   subst h2;simp at ho;subst ho;rw[h.len];exact⟨by simp[aO.push],hnew,by simp[aO.push]⟩
 ·obtain⟨l,hl,hb'⟩:=ht;exact⟨l,(hold l b hl hb').1,(hold l b hl hb').2⟩
def Rel.aec {g : aO} {w : World} {σ : aj} (h : Rel g w σ) {n : Nat} (hn : σ[n]? = some .lM) (T : Option TypeId) (el : El) :
    Rel g w (σ.set n (.cn T el []))/\gN σ g w (σ.set n (.cn T el [])) g w:=by
 obtain⟨h1,h2,h3⟩:=h.ok n _ hn
 have:=h.change (w':=w) (o':= .cn T el []) hn rfl (g.di n) (g.base n) (g.cap n) (Nat.le_refl _) (fun _=>⟨rfl,rfl⟩) (Nat.le_refl _) rfl rfl rfl (fun _ _ _=>rfl) (fun b hb=> .inl hb)
  (fun _=>by rw[aO.G7];exact⟨h1,by simp,.inl ⟨rfl,h2,h3⟩⟩)
 rwa[aO.G7]at this
def Ef(w:World)(b i:Nat)(v:Value){c:Nat}(h:c≠b): (w.setCell ⟨b,i,none⟩ v).heap[c]? = w.heap[c]? :=
 Go.RowKit.Below.heap_setCell w ⟨b,i,none⟩ v c h
def Row.set{w:World}{b:Nat}{vs:Array Value}(h:Row w b vs)(i:Nat)(v:Value): Row (w.setCell ⟨b,i,none⟩ v) b (vs.setIfInBounds i v):=by
 obtain⟨T,fz,h1,h2⟩:=h;refine⟨T,fz,?_,fun j hj=>?_⟩
 ·simp[World.setCell,Array.getElem?_modify,h1]
 ·rw[World.frozen?_setCell];exact h2 j (by simpa using hj)
def setRow(w:World)(b:Nat): Nat->List Value->World
 | _,[]=>w
 | i,v::vs=>setRow (w.setCell ⟨b,i,none⟩ v) b (i+1) vs
def putRow(vs:Array Value): Nat->List Value->Array Value
 | _,[]=>vs
 | i,u::us=>putRow (vs.setIfInBounds i u) (i+1) us
def Ct (w : World) (b i : Nat) (us : List Value) : (setRow w b i us).heap.size = w.heap.size /\ (setRow w b i us).os = w.os /\ (setRow w b i us).tape = w.tape /\
    (setRow w b i us).output=w.output/\ ∀ c,c≠b->(setRow w b i us).heap[c]? = w.heap[c]?:=by
 induction us generalizing w i with
 | nil=>exact⟨rfl,rfl,rfl,rfl,fun _ _=>rfl⟩
 | cons u us ih =>
   obtain⟨h1,h2,h3,h4,h5⟩:=ih (w.setCell ⟨b,i,none⟩ u) (i+1);exact⟨h1.trans (World.size_setCell ..),h2,h3,h4,fun c hc=>(h5 c hc).trans (Ef w b i u hc)⟩
def Row.setRow{w:World}{b:Nat}{vs:Array Value}(h:Row w b vs)(i:Nat)(us:List Value): Row (setRow w b i us) b (putRow vs i us):=by
 induction us generalizing w i vs with
 | nil=>exact h
 | cons u us ih=>exact ih (h.set i u) (i+1)
def T4(w:World)(b i:Nat)(v:Value)(c:Nat): (w.setCell ⟨b,i,none⟩ v).shape? c=w.shape? c:=by
 by_cases h:c=b
 ·subst h;simp only[World.shape?,World.setCell,Array.getElem?_modify,if_true];cases w.heap[c]? with
  | none=>rfl
  | some o=>cases o<;>simp
 ·simp only[World.shape?,Ef w b i v h]
def Cu(w:World)(b i:Nat)(us:List Value)(c:Nat): (setRow w b i us).shape? c=w.shape? c:=by
 induction us generalizing w i with
 | nil=>rfl
 | cons u us ih=>exact(ih (w.setCell ⟨b,i,none⟩ u) (i+1)).trans (T4 w b i u c)
def size_putRow(vs:Array Value)(i:Nat)(us:List Value): (putRow vs i us).size=vs.size:=by
 induction us generalizing vs i with
 | nil=>rfl
 | cons u us ih=>simp[putRow,ih]
def uR (vs : Array Value) (i : Nat) (us : List Value) (hi : i + us.length <= vs.size) (j : Nat) (d : Value) :
    (putRow vs i us).getD j d=if i<=j/\j<i+us.length then us.getD (j-i) d else vs.getD j d:=by
 induction us generalizing vs i with
 | nil=>simp[putRow];intro h1 h2;omega
 | cons u us ih =>
   simp only[List.length_cons]at hi;rw[putRow,ih (vs.setIfInBounds i u) (i+1) (by simp;omega)];by_cases h1:i+1<=j/\j<i+1+us.length
   ·rw[if_pos h1,if_pos (by simp only[List.length_cons];omega)];obtain⟨k,rfl⟩:∃ k,j=i+1+k:=⟨j-(i+1),by omega⟩;rw[show i+1+k-(i+1)=k by omega,show i+1+k-i=k+1 by omega];simp
   ·rw[if_neg h1];by_cases h2:j=i
    ·subst h2;rw[if_pos (by simp only[List.length_cons];omega)];have hlt:j<vs.size:=by omega
     simp[hlt]
    ·rw[if_neg (by simp only[List.length_cons];omega)];simp[Array.getElem?_setIfInBounds_ne (Ne.symm h2)]
end Go.AM
