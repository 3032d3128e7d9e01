/- Part. -/
import Derived.Test.YthakfmmgnjpmdaaGreatDoorProg
import Derived.Lib.ItoaMem
import Derived.KernelRfl
import Derived.Calls
import Derived.Orders
import Derived.Below
set_option linter.all false
namespace Go.Proofs
noncomputable abbrev aH:=Tryz.prog
end Go.Proofs
namespace Go
def aj:=@Bool.and_eq_true
def ai:=@List.getD_eq_getElem?_getD
def aG:=@Bool.false_eq_true
def aF:=@List.getElem?_eq_getElem
def aI:=@List.getElem?_set_ne
def aP:=@List.append_assoc
def aJ:=@List.getElem?_append_left
def aK:=@List.getElem?_eq_some_iff
def bf:=@List.map_cons
def aV:=@List.all_eq_true
def bC:=@Nat.add_mul
def aS:=@Option.map_eq_some_iff
def bF:=@Nat.zero_add
def aX:=@Nat.mul_le_mul_right
def bO:=@Nat.zero_le
def bt:=@List.cons_append
def bB:=@List.append_nil
def bw:=@Option.getD_some
def bW:=@Nat.le_trans
def bU:=@Bool.or_eq_true
def bD:=@List.getD_cons_zero
def cJ:=@List.map_nil
def bJ:=@List.mem_cons_of_mem
def bp:=@List.getElem?_append_right
def cz:=@List.nil_append
def cE:=@Nat.not_lt_zero
def cV:=@List.mem_range
def bP:=@List.getElem_of_mem
def cG:=@Bool.eq_iff_iff
def dJ:=@Nat.succ_mul
def cR:=@Option.map_some
def bK:=@List.drop_of_length_le
def cy:=@Bool.not_eq_true'
def dW:=@List.mem_map
def eu:=@List.set_set
def eE:=@Nat.add_zero
def dD:=@List.getElem_mem
def b_:=@List.take_of_length_le
def fg:=@Nat.ne_of_lt
def cW:=@List.mem_append_left
def dK:=@Nat.lt_of_lt_of_le
def eF:=@List.length_set
def eG:=@List.find?_some
def fH:=@Bool.true_and
def d_:=@List.find?_eq_none
def dw:=@List.take_append_drop
def er:=@Array.length_toList
def dM:=@Array.getElem_eq_getD
def dN:=@List.length_replicate
def eL:=@Int.toNat_natCast
def fh:=@List.flatMap_cons
def dy:=@List.drop_eq_getElem_cons
def gZ:=@Nat.mul_comm
def fX:=@Bool.not_false
def eD:=@Array.toArray_toList
def ek:=@List.mem_append_right
def eY:=@List.pairwise_cons
def fF:=@Nat.le_of_not_lt
def eJ:=@List.takeWhile_cons
def dH:=@Array.getElem?_eq_some_iff
def ij:=@Nat.lt_irrefl
def dI:=@Array.getElem?_append_left
def gK:=@List.drop_zero
def gM:=@Bool.false_and
def dX:=@Array.getD_eq_getD_getElem?
def eM:=@List.getElem?_cons_zero
def eR:=@Option.bind_eq_some_iff
def fC:=@List.pairwise_append
def fK:=@List.getElem?_toArray
def fq:=@List.getElem?_cons_succ
def iz:=@Nat.mod_eq_of_lt
def fU:=@Array.getElem_modify
def jf:=@List.take_zero
def g_:=@List.getElem?_map
def fZ:=@List.getD_cons_succ
def fL:=@List.set_append_right
def fM:=@Option.isSome_iff_exists
def gu:=@List.singleton_append
def gQ:=@Bool.or_eq_false_iff
def gw:=@List.getElem?_eq_none
def ik:=@List.length_pos_iff
def iQ:=@List.any_eq_false
def iR:=@List.take_add_one
def iO:=@List.set_append_left
def iP:=@List.range_eq_range'
def fI:=@List.eq_nil_of_length_eq_zero
def fB:=@Array.eq_empty_of_size_eq_zero
def f_:=@List.mem_of_find?_eq_some
def iC:=@Nat.le_of_ble_eq_true
def iX:=@Int.eq_ofNat_of_zero_le
end Go
namespace Go.AM
def NV: List Nat:=[1]
def Ad (w : World) : Prop := Lib.TabIs Go.Proofs.Tryz.prog w "internal/strconv.uint64pow10" .u64 Lib.pow10Tab
def K9 : Go.Proofs.Tryz.prog.globalNamed "internal/strconv.uint64pow10" = some 1 := by kernel_rfl
def Ad.of_heap{w w':World}(h:Ad w)(hb:∀ b ∈ NV,w'.heap[b]? = w.heap[b]?): Ad w':=by
 unfold Ad Lib.TabIs World.var? at *;simp only[K9,Option.bind_some]at h ⊢;rw[hb 1 (by simp[NV])];exact h
structure El where
 ag:Bool
 sz:Nat
deriving DecidableEq,Inhabited,Repr
inductive AV where
 | undef
 | bool (b:Bool)
 | int (k:IntKind) (n:Int)
 | str (s:List UInt8)
 | agg (cs:List AV)
 | bH (vs:List AV)
 | aA
 | aN (full:Bool) (el:El) (xs:List AV)
 | own (el:El) (l m lo n:Nat)
 | ref (l off:Nat)
 | eK (el:El) (x:AV) (off:Nat)
 | fm (el:El) (l m i off:Nat)
 | jA
 | sC
 | kj
 | fn (f:Fn) (first cap:List AV)
 | lq (t:TypeId) (v:AV)
 | jB
 | mp (l:Nat)
 | rM (l:Nat)
 | tG (el:El) (p:AV) (n:Nat)
 | p_
deriving Inhabited
def AV.scalar: AV->Bool
 | .agg _ | .bH _ | .undef=>false
 | _=>true
def AV.cell: AV->Nat->AV
 | .agg cs,i=>cs.getD i .undef
 | v,_=>v
def AV.cells: AV->List AV
 | .agg cs=>cs
 | v=>[v]
def AV.fits(el:El): AV->Bool
 | .agg cs=>el.ag && cs.length==el.sz && cs.all AV.scalar
 | .bH _ | .undef=>false
 | _=> !el.ag && el.sz==1
structure aE where
 fQ:Nat->Prop
 n:Nat
 ver:Nat->Nat
 base:Nat->Option Nat
 cap:Nat->Nat
 off:Nat->Nat
def dY(w:World)(a:Addr): Value:=(w.cell? a).getD undef
def ahs(g:aE)(el:El)(l m lo n:Nat)(v:Value): Prop :=
 l < g.n /\ m <= g.ver l /\ ∃ A cap, v = .slice A n cap /\ (m = g.ver l -> lo + n <= m /\ cap + lo = g.cap l /\
   (lo<g.cap l->A=(g.base l).map fun b=>⟨b,g.off l+lo*el.sz,none⟩))
def aht(g:aE)(l off:Nat)(v:Value): Prop :=
 (l<g.n/\1<=g.ver l)/\ ∃ A,v = .pointer (some A)/\(g.ver l=1->g.base l=some A.block/\A=⟨A.block,off,none⟩)
def af0(g:aE)(el:El)(l m i off:Nat)(v:Value): Prop :=
 l<g.n/\m<=g.ver l/\ ∃ A,v = .pointer (some A)/\(m=g.ver l->g.base l=some A.block/\A=⟨A.block,g.off l+i*el.sz+off,none⟩)
def MpP(g:aE)(l:Nat)(v:Value): Prop :=
 l<g.n/\ ∃ b,v = .map (some b)/\(g.ver l=0->g.base l=some b)
def ahu(g:aE)(l:Nat)(v:Value): Prop :=
 l<g.n/\ ∃ b,v = .func (.yield b) #[] #[]/\(g.ver l=0->g.base l=some b)
inductive VR (g:aE) (w:World):AV->Value->Prop where
 | undef (v:Value):VR g w .undef v
 | bool (b:Bool):VR g w (.bool b) (.bool b)
 | int (k:IntKind) (n:Int):VR g w (.int k n) (.int k n)
 | str (s:List UInt8):VR g w (.str s) (.string ⟨s.toArray⟩)
 | agg (cs : List AV) (vs : Array Value) (hl : cs.length = vs.size) (hs : cs.all AV.scalar = true)
    (h:∀ i,i<cs.length->VR g w (cs.getD i .undef) (vs.getD i Go.undef)):VR g w (.agg cs) (.agg vs)
 | bH (cs : List AV) (vs : Array Value) (hl : cs.length = vs.size)
    (h:∀ i,i<cs.length->VR g w (cs.getD i .undef) (vs.getD i Go.undef)):VR g w (.bH cs) (.tuple vs)
 | aA:VR g w .aA (.slice none 0 0)
 | iL (f:Bool) (el:El) (b:Option Addr) (cap:Nat) (hf:f=true->cap=0):VR g w (.aN f el []) (.slice b 0 cap)
 | aN (f : Bool) (el : El) (xs : List AV) (b off cap : Nat) (hi : g.fQ b) (hf : f = true -> cap = xs.length) (hx : xs.length <= cap)
    (ft:∀ i,i<xs.length->(xs.getD i .undef).fits el=true)
    (hc:∀ i c,i<xs.length->c<el.sz->(w.cell? ⟨b,off+(i*el.sz+c),none⟩).isSome=true)
    (h:∀ i c,i<xs.length->c<el.sz->VR g w ((xs.getD i .undef).cell c) (dY w ⟨b,off+(i*el.sz+c),none⟩)) :
    VR g w (.aN f el xs) (.slice (some ⟨b,off,none⟩) xs.length cap)
 | own (el:El) (l m lo n:Nat) (v:Value) (h:ahs g el l m lo n v):VR g w (.own el l m lo n) v
 | ref (l off:Nat) (v:Value) (h:aht g l off v):VR g w (.ref l off) v
 | eK (el : El) (x : AV) (off b o : Nat) (hi : g.fQ b) (ft : x.fits el = true)
    (hc:∀ c,c<el.sz->(w.cell? ⟨b,o+c,none⟩).isSome=true)
    (h:∀ c,c<el.sz->VR g w (x.cell c) (dY w ⟨b,o+c,none⟩)) :
    VR g w (.eK el x off) (.pointer (some ⟨b,o+off,none⟩))
 | fm (el:El) (l m i off:Nat) (v:Value) (h:af0 g el l m i off v):VR g w (.fm el l m i off) v
 | jA:VR g w .jA (.pointer none)
 | sC:VR g w .sC .nilFunc
 | kj:VR g w .kj .nilIface
 | fn (f : Fn) (first cap : List AV) (first' cap' : Array Value) (hl : first.length = first'.size) (hl' : cap.length = cap'.size)
    (h:∀ i,i<first.length->VR g w (first.getD i .undef) (first'.getD i Go.undef))
    (h':∀ i,i<cap.length->VR g w (cap.getD i .undef) (cap'.getD i Go.undef)):VR g w (.fn f first cap) (.func f first' cap')
 | lq (t:TypeId) (a:AV) (v:Value) (h:VR g w a v):VR g w (.lq t a) (.iface t v)
 | jB:VR g w .jB (.map none)
 | mp (l:Nat) (v:Value) (h:MpP g l v):VR g w (.mp l) v
 | rM (l:Nat) (v:Value) (h:ahu g l v):VR g w (.rM l) v
 | p_ (v:Value) (h:v.oneCell'=true):VR g w .p_ v
 | tG (el:El) (p:AV) (n:Nat) (A:Addr) (cap:Nat) (hn:0<n) (hc:n<=cap) (h:VR g w p (.pointer (some A))):VR g w (.tG el p n) (.slice (some A) n cap)
structure kI (g:aE) (w:World) (g':aE) (w':World):Prop where
 fQ:∀ b,g.fQ b->g'.fQ b/\w'.heap[b]? = w.heap[b]?
 n:g.n<=g'.n
 ver:∀ l,l<g.n->g.ver l<=g'.ver l/\(g'.ver l=g.ver l->g'.base l=g.base l/\g'.cap l=g.cap l/\g'.off l=g.off l)
def kI.refl(g:aE)(w:World): kI g w g w:=⟨fun _ h=>⟨h,rfl⟩,Nat.le_refl _,fun _ _=>⟨Nat.le_refl _,fun _=>⟨rfl,rfl,rfl⟩⟩⟩
def kI.trans{g1 g2 g3:aE}{w1 w2 w3:World}(h:kI g1 w1 g2 w2)(k:kI g2 w2 g3 w3): kI g1 w1 g3 w3:=by
 refine⟨fun b hb=>?_,bW h.n k.n,fun l hl=>?_⟩
 ·obtain⟨h1,h2⟩:=h.fQ b hb;obtain⟨h3,h4⟩:=k.fQ b h1;exact⟨h3,h4.trans h2⟩
 ·obtain⟨a1,a2⟩:=h.ver l hl;obtain⟨b1,b2⟩:=k.ver l (dK hl h.n);refine⟨bW a1 b1,fun e=>?_⟩;have e1:g2.ver l=g1.ver l:=by omega
  have e2:g3.ver l=g2.ver l:=by omega
  exact⟨(b2 e2).1.trans (a2 e1).1,(b2 e2).2.1.trans (a2 e1).2.1,(b2 e2).2.2.trans (a2 e1).2.2⟩
def nk{w w':World}{b:Nat}(h:w'.heap[b]? = w.heap[b]?)(o:Nat)(s:Option Nat): w'.cell? ⟨b,o,s⟩=w.cell? ⟨b,o,s⟩:=by
 simp only[World.cell?,h]
def HU{w w':World}{b:Nat}(h:w'.heap[b]? = w.heap[b]?)(o:Nat)(s:Option Nat): w'.frozen? ⟨b,o,s⟩=w.frozen? ⟨b,o,s⟩:=by
 simp only[World.frozen?,h]
def si{w w':World}{b:Nat}(h:w'.heap[b]? = w.heap[b]?)(o:Nat)(s:Option Nat): dY w' ⟨b,o,s⟩=dY w ⟨b,o,s⟩:=by
 simp only[dY,nk h]
def VR.mono{g g':aE}{w w':World}(hm:kI g w g' w'){a:AV}{v:Value}(h:VR g w a v): VR g' w' a v:=by
 induction h with
 | undef v=>exact .undef v
 | bool b=>exact .bool b
 | int k n=>exact .int k n
 | str s=>exact .str s
 | agg cs vs hl hs _ ih=>exact .agg cs vs hl hs ih
 | bH cs vs hl _ ih=>exact .bH cs vs hl ih
 | aA=>exact .aA
 | iL f el b cap hf=>exact .iL f el b cap hf
 | aN f el xs b off cap hi hf hx ft hc _ ih =>
   obtain⟨hi',he⟩:=hm.fQ b hi;refine .aN f el xs b off cap hi' hf hx ft (fun i c h1 h2=>?_) (fun i c h1 h2=>?_)
   ·rw[nk he];exact hc i c h1 h2
   ·rw[si he];exact ih i c h1 h2
 | own el l m lo n v h =>
   obtain⟨h1,h2,A,cap,h3,h4⟩:=h;obtain⟨v1,v2⟩:=hm.ver l h1;refine .own el l m lo n v ⟨dK h1 hm.n,bW h2 v1,A,cap,h3,fun e=>?_⟩;have e1:g'.ver l=g.ver l:=by omega
   obtain⟨b1,b2,b3⟩:=v2 e1;rw[b1,b2,b3];exact h4 (by omega)
 | ref l off v h =>
   obtain⟨⟨h1,h0⟩,A,h2,h3⟩:=h;obtain⟨v1,v2⟩:=hm.ver l h1;refine .ref l off v ⟨⟨dK h1 hm.n,bW h0 v1⟩,A,h2,fun e=>?_⟩;have e1:g'.ver l=g.ver l:=by omega
   rw[(v2 e1).1];exact h3 (by omega)
 | eK el x off b o hi ft hc _ ih =>
   obtain⟨hi',he⟩:=hm.fQ b hi;refine .eK el x off b o hi' ft (fun c h2=>?_) (fun c h2=>?_)
   ·rw[nk he];exact hc c h2
   ·rw[si he];exact ih c h2
 | fm el l m i off v h =>
   obtain⟨h1,h2,A,h3,h4⟩:=h;obtain⟨v1,v2⟩:=hm.ver l h1;refine .fm el l m i off v ⟨dK h1 hm.n,bW h2 v1,A,h3,fun e=>?_⟩;have e1:g'.ver l=g.ver l:=by omega
   rw[(v2 e1).1,(v2 e1).2.2];exact h4 (by omega)
 | jA=>exact .jA
 | sC=>exact .sC
 | kj=>exact .kj
 | fn f first cap first' cap' hl hl' _ _ ih sU=>exact .fn f first cap first' cap' hl hl' ih sU
 | lq t a v _ ih=>exact .lq t a v ih
 | jB=>exact .jB
 | p_ v h=>exact .p_ v h
 | mp l v h =>
   obtain⟨h1,b,h2,h3⟩:=h;obtain⟨v1,v2⟩:=hm.ver l h1;refine .mp l v ⟨dK h1 hm.n,b,h2,fun e=>?_⟩;have e1:g'.ver l=g.ver l:=by omega
   rw[(v2 e1).1];exact h3 (by omega)
 | rM l v h =>
   obtain⟨h1,b,h2,h3⟩:=h;obtain⟨v1,v2⟩:=hm.ver l h1;refine .rM l v ⟨dK h1 hm.n,b,h2,fun e=>?_⟩;have e1:g'.ver l=g.ver l:=by omega
   rw[(v2 e1).1];exact h3 (by omega)
 | tG el p n A cap hn hc _ ih=>exact .tG el p n A cap hn hc ih
def VR.E_{g:aE}{w:World}{a:AV}{v:Value}(h:VR g w a v)(hs:a.scalar=true): v.oneCell'=true:=by
 cases h<;>first
  | rfl
  |(simp[AV.scalar]at hs;done)
  | skip
 case own h=>obtain⟨_,_,A,cap,rfl,_⟩:=h;rfl
 case ref h=>obtain⟨_,A,rfl,_⟩:=h;rfl
 case fm h=>obtain⟨_,_,A,rfl,_⟩:=h;rfl
 case mp h=>obtain⟨_,A,rfl,_⟩:=h;rfl
 case p_ h=>exact h
 case rM h=>obtain⟨_,A,rfl,_⟩:=h;rfl
inductive bj where
 | bM (T:Option TypeId) (cs:List AV)
 | cj (T:Option TypeId) (el:El) (xs:List AV)
 | jo (s:List UInt8) (pos:Nat)
 | map (es:List (AV × AV))
 | loop (nt:Nat) (e:Nat->AV) (ps:Array Tmp) (assign body:Code) (st:LoopState) (aj5:Option Code)
 | dead
 | resv
deriving Inhabited
abbrev bj.cells(cs:List AV): bj:= .bM none cs
abbrev bj.vec(el:El)(xs:List AV): bj:= .cj none el xs
def uV(w:World)(b n:Nat): Option TypeId->Prop
 | none=>True
 | some T=>w.shape? b=some (T,n)
def uV.of_heap{w w':World}{b n:Nat}{T:Option TypeId}(h:uV w b n T)(he:w'.heap[b]? = w.heap[b]?): uV w' b n T:=by
 cases T with
 | none=>trivial
 | some T=>simp only[uV,World.shape?]at *;rw[he];exact h
def Sv(w:World)(b n o:Nat): Option TypeId->Prop
 | none=>True
 | some T=>w.shape? b=some (T,n)/\o=0
def Sv.of_heap{w w':World}{b n o:Nat}{T:Option TypeId}(h:Sv w b n o T)(he:w'.heap[b]? = w.heap[b]?): Sv w' b n o T:=by
 cases T with
 | none=>trivial
 | some T=>simp only[Sv,World.shape?]at *;rw[he];exact h
def uV.v{w:World}{b n:Nat}{T:Option TypeId}(h:uV w b n T): Sv w b n 0 T:=by
 cases T with
 | none=>trivial
 | some T=>exact⟨h,rfl⟩
abbrev ae:=List bj
def bj.live: bj->Bool
 | .dead=>false
 | _=>true
def Live(σ : ae)(l:Nat): Prop:= ∃ o,σ[l]? = some o/\o.live=true
def mL(σ : ae)(g:aE)(b:Nat): Prop:= ∃ l,Live σ l/\g.base l=some b
def Row(w:World)(b:Nat)(vs:Array Value): Prop :=
 ∃ T fz,w.heap[b]? = some (.cells vs T fz)/\ ∀ i,i<vs.size->w.frozen? ⟨b,i,none⟩=false
def bj.Ok(g:aE)(w:World)(l:Nat): bj->Prop
 | .bM T cs => g.ver l = 1 /\ cs.all AV.scalar = true /\ ∃ b vs, g.base l = some b /\ Row w b vs /\ vs.size = cs.length /\
    (∀ i,i<cs.length->VR g w (cs.getD i .undef) (vs.getD i Go.undef))/\uV w b cs.length T
 | .cj T el xs => g.ver l = xs.length /\ (∀ i, i < xs.length -> (xs.getD i .undef).fits el = true) /\
    ((xs = [] /\ g.base l = none /\ g.cap l = 0 /\ g.off l = 0) \/
      ∃ b vs, g.base l = some b /\ Row w b vs /\ vs.size = g.off l + g.cap l * el.sz /\ xs.length <= g.cap l /\
        (∀ i c,i<xs.length->c<el.sz->VR g w ((xs.getD i .undef).cell c) (vs.getD (g.off l+i*el.sz+c) Go.undef))/\Sv w b vs.size (g.off l) T)
 | .jo s pos=>g.ver l=1/\ ∃ b,g.base l=some b/\w.heap[b]? = some (.stringIter ⟨s.toArray⟩ pos)
 | .map es => g.ver l = 0 /\ ∃ b ms clock, g.base l = some b /\ w.heap[b]? = some (.map ms clock) /\ ms.size = es.length /\ (clock = es.length /\ ∀ i, i < es.length -> (ms.getD i default).born = i) /\
    ∀ i,i<es.length->VR g w (es.getD i default).1 (ms.getD i default).key/\VR g w (es.getD i default).2 (ms.getD i default).val
 | .loop nt e ps ca cb st pe => g.ver l = 0 /\ ∃ b rec, g.base l = some b /\ w.heap[b]? = some (.loop rec) /\ rec.params = ps /\ rec.assign = ca /\ rec.body = cb /\ rec.state = st /\ rec.pending = pe /\
    rec.tmps.size=nt/\ ∀ t,t<nt->VR g w (e t) (rec.tmps.getD t Go.undef)
 | .dead=>True
 | .resv=>g.ver l=0/\g.base l=none/\g.cap l=0/\g.off l=0
def wW(g:aE)(w:World): Prop:=(∀ b ∈ NV,g.fQ b)/\Ad w
def wW.mono{g g':aE}{w w':World}(h:wW g w)(hm:∀ b,g.fQ b->g'.fQ b/\w'.heap[b]? = w.heap[b]?): wW g' w' :=
 ⟨fun b hb=>(hm b (h.1 b hb)).1,h.2.of_heap fun b hb=>(hm b (h.1 b hb)).2⟩
structure Rel (g:aE) (w:World) (σ : ae):Prop where
 len : σ.length=g.n
 lt:∀ b,g.fQ b->b<w.heap.size
 ok:∀ (l:Nat) (o:bj),σ[l]? = some o->o.Ok g w l
 inj:∀ l l' b,Live σ l->Live σ l'->g.base l=some b->g.base l'=some b->l=l'
 sV:∀ l b,Live σ l->g.base l=some b->¬ g.fQ b
 glob:wW g w
structure e7 (σ : ae) (g:aE) (w:World) (σ':ae) (g':aE) (w':World):Prop where
 mono:kI g w g' w'
 size:w.heap.size<=w'.heap.size
 os:w'.os=w.os
 tape:w'.tape=w.tape
 output:w'.output=w.output
 frame:∀ b,b<w.heap.size->¬ mL σ g b->w'.heap[b]? = w.heap[b]?
 xR:∀ b,b<w.heap.size->g'.fQ b->g.fQ b\/mL σ g b
 K_:∀ b,b<w.heap.size->mL σ' g' b->mL σ g b
def e7.refl(σ : ae)(g:aE)(w:World): e7 σ g w σ g w :=
 ⟨.refl _ _,Nat.le_refl _,rfl,rfl,rfl,fun _ _ _=>rfl,fun _ _ h=> .inl h,fun _ _ h=>h⟩
def e7.trans{σ1 σ2 σ3:ae}{g1 g2 g3:aE}{w1 w2 w3:World}(h:e7 σ1 g1 w1 σ2 g2 w2)(k:e7 σ2 g2 w2 σ3 g3 w3): e7 σ1 g1 w1 σ3 g3 w3:=by
 refine⟨h.mono.trans k.mono,bW h.size k.size,k.os.trans h.os,k.tape.trans h.tape,k.output.trans h.output,fun b hb ht=>?_,fun b hb hi=>?_,fun b hb ht=>?_⟩
 ·rw[k.frame b (dK hb h.size) (fun t=>ht (h.K_ b hb t)),h.frame b hb ht]
 ·rcases k.xR b (Nat.lt_of_lt_of_le hb h.size) hi with h1|h1
  ·exact h.xR b hb h1
  ·exact .inr (h.K_ b hb h1)
 ·exact h.K_ b hb (k.K_ b (dK hb h.size) ht)
def e7.drew(σ : ae)(g:aE)(w:World)(d:Nat): e7 σ g w σ g { w with drawn:=d } :=
 ⟨⟨fun _ h=>⟨h,rfl⟩,Nat.le_refl _,fun _ _=>⟨Nat.le_refl _,fun _=>⟨rfl,rfl,rfl⟩⟩⟩,Nat.le_refl _,rfl,rfl,rfl,fun _ _ _=>rfl,fun _ _ h=> .inl h,fun _ _ h=>h⟩
def Row.lt{w:World}{b:Nat}{vs:Array Value}(h:Row w b vs): b<w.heap.size:=by
 obtain⟨T,fz,h,_⟩:=h;exact(dH.1 h).1
def Row.of_heap{w w':World}{b:Nat}{vs:Array Value}(h:Row w b vs)(he:w'.heap[b]? = w.heap[b]?): Row w' b vs:=by
 obtain⟨T,fz,h,hf⟩:=h;exact⟨T,fz,he.trans h,fun i hi=>(HU he i none).trans (hf i hi)⟩
def Row.cell{w:World}{b:Nat}{vs:Array Value}(h:Row w b vs){i:Nat}(hi:i<vs.size): w.cell? ⟨b,i,none⟩=some (vs.getD i Go.undef):=by
 obtain⟨T,fz,h,_⟩:=h;simp[World.cell?,h,hi]
def bj.Ok.step {g g' : aE} {w w' : World} {l : Nat} {o : bj} (h : o.Ok g w l) (hm : kI g w g' w') (hl : l < g.n)
    (hv:g'.ver l=g.ver l) (hb:∀ b,g.base l=some b->w'.heap[b]? = w.heap[b]?):o.Ok g' w' l:=by
 obtain⟨e1,e2,e3⟩:=(hm.ver l hl).2 hv;cases o with
 | bM T cs =>
   obtain⟨h1,hs,b,vs,h2,h3,h4,h5,h6⟩:=h;exact⟨hv.trans h1,hs,b,vs,e1.trans h2,h3.of_heap (hb b h2),h4,fun i hi=>(h5 i hi).mono hm,h6.of_heap (hb b h2)⟩
 | cj T el xs =>
   obtain⟨h1,hf,h2⟩:=h;refine⟨hv.trans h1,hf,?_⟩;rcases h2 with⟨h2,h3,h4⟩|⟨b,vs,h2,h3,h4,h5,h6,h7⟩
   ·exact .inl ⟨h2,e1.trans h3,e2.trans h4.1,e3.trans h4.2⟩
   ·exact .inr ⟨b,vs,e1.trans h2,h3.of_heap (hb b h2),by rw[e2,e3];exact h4,by rw[e2];exact h5,fun i c hi hc=>by rw[e3];exact(h6 i c hi hc).mono hm,by rw[e3];exact h7.of_heap (hb b h2)⟩
 | jo s pos =>
   obtain⟨h1,b,h2,h3⟩:=h;exact⟨hv.trans h1,b,e1.trans h2,(hb b h2).trans h3⟩
 | map es =>
   obtain⟨h1,b,ms,clock,h2,h3,h4,h6,h5⟩:=h;exact⟨hv.trans h1,b,ms,clock,e1.trans h2,(hb b h2).trans h3,h4,h6,fun i hi=>⟨(h5 i hi).1.mono hm,(h5 i hi).2.mono hm⟩⟩
 | loop nt e ps ca cb st pe =>
   obtain⟨h1,b,rec,h2,h3,h4,h5,h6,h7,h8,h9,h10⟩:=h;exact⟨hv.trans h1,b,rec,e1.trans h2,(hb b h2).trans h3,h4,h5,h6,h7,h8,h9,fun t ht=>(h10 t ht).mono hm⟩
 | dead=>trivial
 | resv=>exact⟨hv.trans h.1,e1.trans h.2.1,e2.trans h.2.2.1,e3.trans h.2.2.2⟩
def Rel.jV{g:aE}{w:World}{σ : ae}(h:Rel g w σ){l b:Nat}(hl:Live σ l)(hb:g.base l=some b): b<w.heap.size:=by
 obtain⟨o,ho,hv⟩:=hl;have:=h.ok l o ho;cases o with
 | bM T cs=>obtain⟨_,_,b',vs,h2,h3,_⟩:=this;rw[hb]at h2;cases h2;exact h3.lt
 | cj T el xs =>
   obtain⟨_,_,h2⟩:=this;rcases h2 with⟨_,h3,_⟩|⟨b',vs,h2,h3,_⟩
   ·rw[hb]at h3;cases h3
   ·rw[hb]at h2;cases h2;exact h3.lt
 | jo s pos=>obtain⟨_,b',h2,h3⟩:=this;rw[hb]at h2;cases h2;exact(Array.getElem?_eq_some_iff.1 h3).1
 | map es=>obtain⟨_,b',_,_,h2,h3,_⟩:=this;rw[hb]at h2;cases h2;exact(Array.getElem?_eq_some_iff.1 h3).1
 | loop nt e ps ca cb st pe=>obtain⟨_,b',_,h2,h3,_⟩:=this;rw[hb]at h2;cases h2;exact(Array.getElem?_eq_some_iff.1 h3).1
 | dead=>simp[bj.live]at hv
 | resv=>rw[this.2.1]at hb;cases hb
def Rel.Bj{g:aE}{w:World}{σ : ae}(h:Rel g w σ){b:Nat}(ht:mL σ g b): b<w.heap.size :=
 let ⟨_,hl,hb⟩:=ht;h.jV hl hb
def Live.lt{σ : ae}{l:Nat}(h:Live σ l): l < σ.length:=by
 obtain⟨o,ho,_⟩:=h;exact(aK.1 ho).1
def heap_alloc_old(w:World)(o:Obj){b:Nat}(h:b<w.heap.size): (w.alloc o).heap[b]? = w.heap[b]?:=by
 exact Go.RowKit.Below.heap_alloc w o b h
def heap_alloc_new(w:World)(o:Obj): (w.alloc o).heap[w.heap.size]? = some o:=by
 show(w.heap.push o)[w.heap.size]? = _;simp
def Rel.drew{g:aE}{w:World}{σ : ae}(h:Rel g w σ)(d:Nat): Rel g { w with drawn:=d } σ :=
 ⟨h.len,h.lt,fun l o ho=>(h.ok l o ho).step (e7.drew σ g w d).mono (by rw[<-h.len];exact(aK.1 ho).1) rfl (fun _ _=>rfl),h.inj,h.sV,h.glob.mono fun _ hb=>⟨hb,rfl⟩⟩
def aE.oW(g:aE)(b:Nat): aE:= { g with fQ:=fun c=>g.fQ c\/c=b }
def aE.push(g:aE)(v:Nat)(b:Option Nat)(c:Nat)(o:Nat:=0): aE :=
 { g with n:=g.n+1,off:=fun l=>if l=g.n then o else g.off l,ver:=fun l=>if l=g.n then v else g.ver l,base:=fun l=>if l=g.n then b else g.base l,cap:=fun l=>if l=g.n then c else g.cap l }
def uW(g:aE)(w:World)(o:Obj)(hlt:∀ b,g.fQ b->b<w.heap.size): kI g w (g.oW w.heap.size) (w.alloc o) :=
 ⟨fun b h=>⟨.inl h,heap_alloc_old w o (hlt b h)⟩,Nat.le_refl _,fun _ _=>⟨Nat.le_refl _,fun _=>⟨rfl,rfl,rfl⟩⟩⟩
def kJ(g:aE)(w:World)(o:Obj)(v:Nat)(b:Option Nat)(c:Nat)(hlt:∀ b,g.fQ b->b<w.heap.size): kI g w (g.push v b c) (w.alloc o) :=
 ⟨fun b h => ⟨h, heap_alloc_old w o (hlt b h)⟩, Nat.le_succ _, fun l hl => by
   have:l≠g.n:=fg hl;simp[aE.push,this]⟩
def Rel.Ob{g:aE}{w:World}{σ : ae}(h:Rel g w σ)(o:Obj): Rel (g.oW w.heap.size) (w.alloc o) σ/\e7 σ g w σ (g.oW w.heap.size) (w.alloc o):=by
 have hm:=uW g w o h.lt;refine⟨⟨h.len,fun b hb=>?_,fun l o' ho=>?_,h.inj,fun l b hl hb hi=>?_,h.glob.mono hm.fQ⟩,⟨hm,by simp,rfl,rfl,rfl,fun b hb _=>heap_alloc_old w o hb,fun b hb hi=>?_,fun b _ ht=>ht⟩⟩
 ·rcases hb with hb|rfl
  ·have:=h.lt b hb;simp;omega
  ·simp
 ·have hl:l<g.n:=by rw[<-h.len];exact(aK.1 ho).1
  by_cases hv:o'.live=true
  ·exact(h.ok l o' ho).step hm hl rfl (fun b hb=>heap_alloc_old w o (h.jV ⟨o',ho,hv⟩ hb))
  ·cases o'<;>simp[bj.live]at hv;trivial
 ·rcases hi with hi|rfl
  ·exact h.sV l b hl hb hi
  ·exact absurd (h.jV hl hb) (ij _)
 ·rcases hi with hi|rfl
  ·exact .inl hi
  ·exact absurd hb (ij _)
def nQ{σ : ae}{o:bj}{l:Nat}(h:Live (σ++[o]) l): Live σ l\/l = σ.length:=by
 obtain⟨o',ho,hv⟩:=h;by_cases hl:l < σ.length
 ·exact .inl ⟨o',by rwa[aJ hl]at ho,hv⟩
 ·have:=(aK.1 ho).1;simp at this;exact .inr (by omega)
def Rel.Zp{g:aE}{w:World}{σ : ae}(h:Rel g w σ)(o:Obj): Rel g (w.alloc o) σ/\e7 σ g w σ g (w.alloc o):=by
 have hm:kI g w g (w.alloc o):=⟨fun b hb=>⟨hb,heap_alloc_old w o (h.lt b hb)⟩,Nat.le_refl _,fun _ _=>⟨Nat.le_refl _,fun _=>⟨rfl,rfl,rfl⟩⟩⟩
 refine⟨⟨h.len,fun b hb=>by have:=h.lt b hb;simp;omega,fun l o' ho=>?_,h.inj,h.sV,h.glob.mono hm.fQ⟩,
  ⟨hm,by simp,rfl,rfl,rfl,fun b hb _=>heap_alloc_old w o hb,fun b hb hi=> .inl hi,fun b hb ht=>ht⟩⟩
 have hl:l<g.n:=by rw[<-h.len];exact(aK.1 ho).1
 by_cases hv:o'.live=true
 ·exact(h.ok l o' ho).step hm hl rfl (fun b hb=>heap_alloc_old w o (h.jV ⟨o',ho,hv⟩ hb))
 ·cases o'<;>simp[bj.live]at hv;trivial
def Rel.ad1 {g0 g : aE} {w0 w w' : World} {ni σ : ae} {D : Nat} (h : Rel g w σ) (eH : e7 ni g0 w0 σ g w) (hD : w0.heap.size <= D) (ht : ¬ mL σ g D) (hi : ¬ g.fQ D)
    (hsz:w'.heap.size=w.heap.size) (hos:w'.os=w.os) (wX:w'.tape=w.tape) (hout:w'.output=w.output) (qT:∀ c,c≠D->w'.heap[c]? = w.heap[c]?) :
    Rel g w' σ/\e7 ni g0 w0 σ g w'/\kI g w g w':=by
 have hm:kI g w g w':=⟨fun b hb=>⟨hb,qT b (fun e=>hi (e ▸ hb))⟩,Nat.le_refl _,fun _ _=>⟨Nat.le_refl _,fun _=>⟨rfl,rfl,rfl⟩⟩⟩
 refine⟨⟨h.len,fun b hb=>by rw[hsz];exact h.lt b hb,fun l o' ho=>?_,h.inj,h.sV,h.glob.mono hm.fQ⟩,
  ⟨eH.mono.trans hm,by rw[hsz];exact eH.size,hos.trans eH.os,wX.trans eH.tape,hout.trans eH.output,fun b hb hnt=>(qT b (by omega)).trans (eH.frame b hb hnt),eH.xR,eH.K_⟩,hm⟩
 have hl:l<g.n:=by rw[<-h.len];exact(aK.1 ho).1
 by_cases hv:o'.live=true
 ·exact(h.ok l o' ho).step hm hl rfl (fun b hb=>qT b (fun e=>ht ⟨l,⟨o',ho,hv⟩,e ▸ hb⟩))
 ·cases o'<;>simp[bj.live]at hv;trivial
def Rel.qv {g : aE} {w : World} {σ : ae} (h : Rel g w σ) (o : Obj) (ao : bj) (v c : Nat)
    (hok:ao.Ok (g.push v (some w.heap.size) c) (w.alloc o) g.n) :
    Rel (g.push v (some w.heap.size) c) (w.alloc o) (σ++[ao])/\e7 σ g w (σ++[ao]) (g.push v (some w.heap.size) c) (w.alloc o):=by
 have hm:=kJ g w o v (some w.heap.size) c h.lt;have hbase:∀ l,l<g.n->(g.push v (some w.heap.size) c).base l=g.base l:=fun l hl=>by simp[aE.push,fg hl]
 have hnew:(g.push v (some w.heap.size) c).base g.n=some w.heap.size:=by simp[aE.push]
 have hold:∀ l b,Live σ l->(g.push v (some w.heap.size) c).base l=some b->g.base l=some b/\b<w.heap.size:=fun l b hl hb=>by
  rw[hbase l (by rw[<-h.len];exact hl.lt)]at hb;exact⟨hb,h.jV hl hb⟩
 refine⟨⟨by simp[aE.push,h.len],fun b hb=>by have:=h.lt b hb;simp;omega,fun l o' ho=>?_,fun l l' b hl hl' hb hb'=>?_,fun l b hl hb hi=>?_,h.glob.mono hm.fQ⟩,
  ⟨hm,by simp,rfl,rfl,rfl,fun b hb _=>heap_alloc_old w o hb,fun b hb hi=> .inl hi,fun b hb ht=>?_⟩⟩
 ·by_cases hl:l < σ.length
  ·rw[aJ hl]at ho;have hl':l<g.n:=by rw[<-h.len];exact hl
   by_cases hv:o'.live=true
   ·refine(h.ok l o' ho).step hm hl' (by simp[aE.push,fg hl']) (fun b hb=>heap_alloc_old w o (h.jV ⟨o',ho,hv⟩ hb))
   ·cases o'<;>simp[bj.live]at hv;trivial
  ·have h1:=(aK.1 ho).1;simp at h1;have h2:l = σ.length:=by omega
   subst h2;simp at ho;subst ho;rw[h.len];exact hok
 ·rcases nQ hl with hl|rfl<;>rcases nQ hl' with hl'|rfl
  ·exact h.inj l l' b hl hl' (hold l b hl hb).1 (hold l' b hl' hb').1
  ·have:=(hold l b hl hb).2;rw[h.len,hnew]at hb';cases hb';exact absurd this (ij _)
  ·have:=(hold l' b hl' hb').2;rw[h.len,hnew]at hb;cases hb;exact absurd this (ij _)
  ·rfl
 ·rcases nQ hl with hl|rfl
  ·exact h.sV l b hl (hold l b hl hb).1 hi
  ·rw[h.len,hnew]at hb;cases hb;exact absurd (h.lt _ hi) (ij _)
 ·obtain⟨l,hl,hb'⟩:=ht;rcases nQ hl with hl|rfl
  ·exact⟨l,hl,(hold l b hl hb').1⟩
  ·rw[h.len,hnew]at hb';cases hb';exact absurd hb (ij _)
def aE.reset(g:aE)(l v:Nat)(b:Option Nat)(c:Nat)(o:Nat:=0): aE :=
 { g with off:=fun k=>if k=l then o else g.off k,ver:=fun k=>if k=l then v else g.ver k,base:=fun k=>if k=l then b else g.base k,cap:=fun k=>if k=l then c else g.cap k }
def l7{σ : ae}{l k:Nat}{o:bj}(h:Live (σ.set l o) k): (k=l/\l < σ.length/\o.live=true)\/(k≠l/\Live σ k):=by
 obtain⟨o',ho,hv⟩:=h;by_cases hk:k=l
 ·subst hk;have hlt:=(aK.1 ho).1;simp at hlt;simp[hlt]at ho;exact .inl ⟨rfl,hlt,ho ▸ hv⟩
 ·rw[aI (Ne.symm hk)]at ho;exact .inr ⟨hk,o',ho,hv⟩
def Rel.change {g : aE} {w w' : World} {σ : ae} {l : Nat} {o o' : bj} (h : Rel g w σ) (hl : σ[l]? = some o) (ho : o.live = true)
    (v:Nat) (nb:Option Nat) (c:Nat) (fo:Nat) (hv:g.ver l<=v) (hvb:v=g.ver l->nb=g.base l/\c=g.cap l/\fo=g.off l)
    (hsz:w.heap.size<=w'.heap.size) (hos:w'.os=w.os) (wX:w'.tape=w.tape) (hout:w'.output=w.output)
    (qT:∀ b,b<w.heap.size->g.base l≠some b->w'.heap[b]? = w.heap[b]?)
    (hnb:∀ b,nb=some b->g.base l=some b\/w.heap.size<=b)
    (hok:kI g w (g.reset l v nb c fo) w'->o'.Ok (g.reset l v nb c fo) w' l) :
    Rel (g.reset l v nb c fo) w' (σ.set l o')/\e7 σ g w (σ.set l o') (g.reset l v nb c fo) w':=by
 have j4:Live σ l:=⟨o,hl,ho⟩;have hbase:∀ k,k≠l->(g.reset l v nb c fo).base k=g.base k:=fun k hk=>by simp[aE.reset,hk]
 have NW:(g.reset l v nb c fo).base l=nb:=by simp[aE.reset]
 have hm:kI g w (g.reset l v nb c fo) w':=by
  refine⟨fun b hb=>⟨hb,qT b (h.lt b hb) (fun e=>h.sV l b j4 e hb)⟩,Nat.le_refl _,fun k _=>?_⟩;by_cases hk:k=l
  ·subst hk;simp only[aE.reset,if_true];exact⟨hv,hvb⟩
  ·simp[aE.reset,hk]
 refine⟨⟨by simp[aE.reset,h.len],fun b hb=>dK (h.lt b hb) hsz,fun k ok hk=>?_,fun k k' b hk hk' hb hb'=>?_,fun k b hk hb hi=>?_,h.glob.mono hm.fQ⟩,
  ⟨hm,hsz,hos,wX,hout,fun b hb ht=>qT b hb (fun e=>ht ⟨l,j4,e⟩),fun b _ hi=> .inl hi,fun b hb ht=>?_⟩⟩
 ·by_cases e:k=l
  ·subst e;have hlt:=(aK.1 hk).1;simp at hlt;simp[hlt]at hk;subst hk;exact hok hm
  ·rw[aI (Ne.symm e)]at hk;have hkn:k<g.n:=by rw[<-h.len];exact(aK.1 hk).1
   by_cases hvk:ok.live=true
   ·refine(h.ok k ok hk).step hm hkn (by simp[aE.reset,e]) (fun b hb=>qT b (h.jV ⟨ok,hk,hvk⟩ hb) (fun e'=>e (h.inj k l b ⟨ok,hk,hvk⟩ j4 hb e')))
   ·cases ok<;>simp[bj.live]at hvk;trivial
 ·rcases l7 hk with⟨e,_,_⟩|⟨e,kR⟩<;>rcases l7 hk' with⟨e',_,_⟩|⟨e',Zq⟩
  ·exact e.trans e'.symm
  ·subst e;rw[NW]at hb;rw[hbase k' e']at hb';rcases hnb b hb with h1|h1
   ·exact h.inj _ _ b j4 Zq h1 hb'
   ·have:=h.jV Zq hb';omega
  ·subst e';rw[NW]at hb';rw[hbase k e]at hb;rcases hnb b hb' with h1|h1
   ·exact h.inj _ _ b kR j4 hb h1
   ·have:=h.jV kR hb;omega
  ·rw[hbase k e]at hb;rw[hbase k' e']at hb';exact h.inj k k' b kR Zq hb hb'
 ·rcases l7 hk with⟨rfl,_,_⟩|⟨e,hk⟩
  ·rw[NW]at hb;rcases hnb b hb with h1|h1
   ·exact h.sV _ b j4 h1 hi
   ·have:=h.lt b hi;omega
  ·rw[hbase k e]at hb;exact h.sV k b hk hb hi
 ·obtain⟨k,hk,hb'⟩:=ht;rcases l7 hk with⟨rfl,_,_⟩|⟨e,hk⟩
  ·rw[NW]at hb';rcases hnb b hb' with h1|h1
   ·exact⟨_,j4,h1⟩
   ·omega
  ·exact⟨k,hk,by rw[hbase k e]at hb';exact hb'⟩
def aE.wY(g:aE)(l:Nat): g.reset l (g.ver l) (g.base l) (g.cap l) (g.off l)=g:=by
 simp only[aE.reset]
 congr 1<;>(funext k;split<;>simp_all)
def Rel.update {g : aE} {w w' : World} {σ : ae} {l b : Nat} {o o' : bj} (h : Rel g w σ) (hl : σ[l]? = some o) (ho : o.live = true) (hb : g.base l = some b)
    (hsz:w'.heap.size=w.heap.size) (hos:w'.os=w.os) (wX:w'.tape=w.tape) (hout:w'.output=w.output)
    (qT:∀ c,c≠b->w'.heap[c]? = w.heap[c]?) (hok:kI g w g w'->o'.Ok g w' l) :
    Rel g w' (σ.set l o')/\e7 σ g w (σ.set l o') g w':=by
 have:=Rel.change (o':=o') (w':=w') h hl ho (g.ver l) (g.base l) (g.cap l) (g.off l) (Nat.le_refl _) (fun _=>⟨rfl,rfl,rfl⟩) (Nat.le_of_eq hsz.symm) hos wX hout
  (fun c _ hc=>qT c (fun e=>hc (e ▸ hb))) (fun c hc=> .inl hc)
 rw[g.wY l]at this;exact this hok
def Rel.freeze {g : aE} {w : World} {σ : ae} {l b : Nat} {o : bj} (h : Rel g w σ) (hl : σ[l]? = some o) (ho : o.live = true) (hb : g.base l = some b) :
    Rel (g.oW b) w (σ.set l .dead)/\e7 σ g w (σ.set l .dead) (g.oW b) w:=by
 have j4:Live σ l:=⟨o,hl,ho⟩;have hm:kI g w (g.oW b) w:=⟨fun c hc=>⟨.inl hc,rfl⟩,Nat.le_refl _,fun _ _=>⟨Nat.le_refl _,fun _=>⟨rfl,rfl,rfl⟩⟩⟩
 refine⟨⟨by simp[aE.oW,h.len],fun c hc=>?_,fun k ok hk=>?_,fun k k' c hk hk' hc lu=>?_,fun k c hk hc hi=>?_,h.glob.mono hm.fQ⟩,
  ⟨hm,Nat.le_refl _,rfl,rfl,rfl,fun _ _ _=>rfl,fun c _ hi=>?_,fun c _ ht=>?_⟩⟩
 ·rcases hc with hc|rfl
  ·exact h.lt c hc
  ·exact h.jV j4 hb
 ·by_cases e:k=l
  ·subst e;have hlt:=(aK.1 hk).1;simp at hlt;simp[hlt]at hk;subst hk;trivial
  ·rw[aI (Ne.symm e)]at hk;have hkn:k<g.n:=by rw[<-h.len];exact(aK.1 hk).1
   exact(h.ok k ok hk).step hm hkn rfl (fun _ _=>rfl)
 ·rcases l7 hk with⟨_,_,e⟩|⟨_,hk⟩
  ·simp[bj.live]at e
  ·rcases l7 hk' with⟨_,_,e⟩|⟨_,hk'⟩
   ·simp[bj.live]at e
   ·exact h.inj k k' c hk hk' hc lu
 ·rcases l7 hk with⟨_,_,e⟩|⟨e,hk⟩
  ·simp[bj.live]at e
  ·rcases hi with hi|rfl
   ·exact h.sV k c hk hc hi
   ·exact e (h.inj k l c hk j4 hc hb)
 ·rcases hi with hi|rfl
  ·exact .inl hi
  ·exact .inr ⟨l,j4,hb⟩
 ·obtain⟨k,hk,hc⟩:=ht;rcases l7 hk with⟨_,_,e⟩|⟨_,hk⟩
  ·simp[bj.live]at e
  ·exact⟨k,hk,hc⟩
def Rel.kK {g : aE} {w : World} {σ : ae} (h : Rel g w σ) (el : El) :
    Rel (g.push 0 none 0) w (σ++[.vec el []])/\e7 σ g w (σ++[.vec el []]) (g.push 0 none 0) w:=by
 have hm:kI g w (g.push 0 none 0) w:=⟨fun b hb=>⟨hb,rfl⟩,Nat.le_succ _,fun l hl=>by simp[aE.push,fg hl]⟩;have hbase:∀ l,l<g.n->(g.push 0 none 0).base l=g.base l:=fun l hl=>by simp[aE.push,fg hl]
 have hnew:(g.push 0 none 0).base g.n=none:=by simp[aE.push]
 have hold:∀ l b,Live (σ++[.vec el []]) l->(g.push 0 none 0).base l=some b->Live σ l/\g.base l=some b:=fun l b hl hb=>by
  rcases nQ hl with hl|rfl
  ·rw[hbase l (by rw[<-h.len];exact hl.lt)]at hb;exact⟨hl,hb⟩
  ·rw[h.len,hnew]at hb;cases hb
 refine⟨⟨by simp[aE.push,h.len],h.lt,fun l o' ho=>?_,fun l l' b hl hl' hb hb'=>h.inj l l' b (hold l b hl hb).1 (hold l' b hl' hb').1 (hold l b hl hb).2 (hold l' b hl' hb').2,
  fun l b hl hb hi=>h.sV l b (hold l b hl hb).1 (hold l b hl hb).2 hi,h.glob.mono hm.fQ⟩,
  ⟨hm,Nat.le_refl _,rfl,rfl,rfl,fun _ _ _=>rfl,fun b hb hi=> .inl hi,fun b hb ht=>?_⟩⟩
 ·by_cases hl:l < σ.length
  ·rw[aJ hl]at ho;have hl':l<g.n:=by rw[<-h.len];exact hl
   exact(h.ok l o' ho).step hm hl' (by simp[aE.push,fg hl']) (fun _ _=>rfl)
  ·have h1:=(aK.1 ho).1;simp at h1;have h2:l = σ.length:=by omega
   subst h2;simp at ho;subst ho;rw[h.len];exact⟨by simp[aE.push],by simp,.inl ⟨rfl,hnew,by simp[aE.push]⟩⟩
 ·obtain⟨l,hl,hb'⟩:=ht;exact⟨l,(hold l b hl hb').1,(hold l b hl hb').2⟩
def Rel.hold {g : aE} {w : World} {σ : ae} (h : Rel g w σ) :
    Rel (g.push 0 none 0) w (σ++[.resv])/\e7 σ g w (σ++[.resv]) (g.push 0 none 0) w:=by
 have hm:kI g w (g.push 0 none 0) w:=⟨fun b hb=>⟨hb,rfl⟩,Nat.le_succ _,fun l hl=>by simp[aE.push,fg hl]⟩;have hbase:∀ l,l<g.n->(g.push 0 none 0).base l=g.base l:=fun l hl=>by simp[aE.push,fg hl]
 have hnew:(g.push 0 none 0).base g.n=none:=by simp[aE.push]
 have hold:∀ l b,Live (σ++[.resv]) l->(g.push 0 none 0).base l=some b->Live σ l/\g.base l=some b:=fun l b hl hb=>by
  rcases nQ hl with hl|rfl
  ·rw[hbase l (by rw[<-h.len];exact hl.lt)]at hb;exact⟨hl,hb⟩
  ·rw[h.len,hnew]at hb;cases hb
 refine⟨⟨by simp[aE.push,h.len],h.lt,fun l o' ho=>?_,fun l l' b hl hl' hb hb'=>h.inj l l' b (hold l b hl hb).1 (hold l' b hl' hb').1 (hold l b hl hb).2 (hold l' b hl' hb').2,
  fun l b hl hb hi=>h.sV l b (hold l b hl hb).1 (hold l b hl hb).2 hi,h.glob.mono hm.fQ⟩,
  ⟨hm,Nat.le_refl _,rfl,rfl,rfl,fun _ _ _=>rfl,fun b hb hi=> .inl hi,fun b hb ht=>?_⟩⟩
 ·by_cases hl:l < σ.length
  ·rw[aJ hl]at ho;have hl':l<g.n:=by rw[<-h.len];exact hl
   exact(h.ok l o' ho).step hm hl' (by simp[aE.push,fg hl']) (fun _ _=>rfl)
  ·have h1:=(aK.1 ho).1;simp at h1;have h2:l = σ.length:=by omega
   subst h2;simp at ho;subst ho;rw[h.len];exact⟨by simp[aE.push],hnew,by simp[aE.push]⟩
 ·obtain⟨l,hl,hb'⟩:=ht;exact⟨l,(hold l b hl hb').1,(hold l b hl hb').2⟩
def Rel.acq {g : aE} {w : World} {σ : ae} (h : Rel g w σ) {n : Nat} (hn : σ[n]? = some .resv) (T : Option TypeId) (el : El) :
    Rel g w (σ.set n (.cj T el []))/\e7 σ g w (σ.set n (.cj T el [])) g w:=by
 obtain⟨h1,h2,h3⟩:=h.ok n _ hn
 have:=h.change (w':=w) (o':= .cj T el []) hn rfl (g.ver n) (g.base n) (g.cap n) (g.off n) (Nat.le_refl _) (fun _=>⟨rfl,rfl,rfl⟩) (Nat.le_refl _) rfl rfl rfl (fun _ _ _=>rfl) (fun b hb=> .inl hb)
  (fun _=>by rw[aE.wY];exact⟨h1,by simp,.inl ⟨rfl,h2,h3⟩⟩)
 rwa[aE.wY]at this
def yW(w:World)(b i:Nat)(v:Value){c:Nat}(h:c≠b): (w.setCell ⟨b,i,none⟩ v).heap[c]? = w.heap[c]? :=
 Go.RowKit.Below.heap_setCell w ⟨b,i,none⟩ v c h
def Row.set{w:World}{b:Nat}{vs:Array Value}(h:Row w b vs)(i:Nat)(v:Value): Row (w.setCell ⟨b,i,none⟩ v) b (vs.setIfInBounds i v):=by
 obtain⟨T,fz,h1,h2⟩:=h;refine⟨T,fz,?_,fun j hj=>?_⟩
 ·simp[World.setCell,Array.getElem?_modify,h1]
 ·rw[World.frozen?_setCell];exact h2 j (by simpa using hj)
def setRow(w:World)(b:Nat): Nat->List Value->World
 | _,[]=>w
 | i,v::vs=>setRow (w.setCell ⟨b,i,none⟩ v) b (i+1) vs
def putRow(vs:Array Value): Nat->List Value->Array Value
 | _,[]=>vs
 | i,u::us=>putRow (vs.setIfInBounds i u) (i+1) us
def oa (w : World) (b i : Nat) (us : List Value) : (setRow w b i us).heap.size = w.heap.size /\ (setRow w b i us).os = w.os /\ (setRow w b i us).tape = w.tape /\
    (setRow w b i us).output=w.output/\ ∀ c,c≠b->(setRow w b i us).heap[c]? = w.heap[c]?:=by
 induction us generalizing w i with
 | nil=>exact⟨rfl,rfl,rfl,rfl,fun _ _=>rfl⟩
 | cons u us ih =>
   obtain⟨h1,h2,h3,h4,h5⟩:=ih (w.setCell ⟨b,i,none⟩ u) (i+1);exact⟨h1.trans (World.size_setCell ..),h2,h3,h4,fun c hc=>(h5 c hc).trans (yW w b i u hc)⟩
def Row.setRow{w:World}{b:Nat}{vs:Array Value}(h:Row w b vs)(i:Nat)(us:List Value): Row (setRow w b i us) b (putRow vs i us):=by
 induction us generalizing w i vs with
 | nil=>exact h
 | cons u us ih=>exact ih (h.set i u) (i+1)
def Na(w:World)(b i:Nat)(v:Value)(c:Nat): (w.setCell ⟨b,i,none⟩ v).shape? c=w.shape? c:=by
 by_cases h:c=b
 ·subst h;simp only[World.shape?,World.setCell,Array.getElem?_modify,if_true];cases w.heap[c]? with
  | none=>rfl
  | some o=>cases o<;>simp
 ·simp only[World.shape?,yW w b i v h]
def qw(w:World)(b i:Nat)(us:List Value)(c:Nat): (setRow w b i us).shape? c=w.shape? c:=by
 induction us generalizing w i with
 | nil=>rfl
 | cons u us ih=>exact(ih (w.setCell ⟨b,i,none⟩ u) (i+1)).trans (Na w b i u c)
def size_putRow(vs:Array Value)(i:Nat)(us:List Value): (putRow vs i us).size=vs.size:=by
 induction us generalizing vs i with
 | nil=>rfl
 | cons u us ih=>simp[putRow,ih]
def mF (vs : Array Value) (i : Nat) (us : List Value) (hi : i + us.length <= vs.size) (j : Nat) (d : Value) :
    (putRow vs i us).getD j d=if i<=j/\j<i+us.length then us.getD (j-i) d else vs.getD j d:=by
 induction us generalizing vs i with
 | nil=>simp[putRow];intro h1 h2;omega
 | cons u us ih =>
   simp only[List.length_cons]at hi;rw[putRow,ih (vs.setIfInBounds i u) (i+1) (by simp;omega)];by_cases h1:i+1<=j/\j<i+1+us.length
   ·rw[if_pos h1,if_pos (by simp only[List.length_cons];omega)];obtain⟨k,rfl⟩:∃ k,j=i+1+k:=⟨j-(i+1),by omega⟩;rw[show i+1+k-(i+1)=k by omega,show i+1+k-i=k+1 by omega];simp
   ·rw[if_neg h1];by_cases h2:j=i
    ·subst h2;rw[if_pos (by simp only[List.length_cons];omega)];have hlt:j<vs.size:=by omega
     simp[hlt]
    ·rw[if_neg (by simp only[List.length_cons];omega)];simp[Array.getElem?_setIfInBounds_ne (Ne.symm h2)]
