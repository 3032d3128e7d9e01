/- Part. -/
import Derived.Test.YtoldfccfpameeaaGreatDoorProg
import Derived.Lib.ItoaMem
import Derived.KernelRfl
import Derived.Calls
import Derived.Orders
import Derived.Below
import Derived.RangeFuncIn
import Derived.RangeFuncLeaves
import Derived.RangeFuncRecord
import Derived.OrdersIn
set_option linter.all false
def cq{α : Sort _}(a : α): ∃ b,a=b:=⟨a,rfl⟩
def Ot{p:Prop}(h:p:=by constructor<;>first|kernel_rfl|decide|(intro w;kernel_rfl)|(constructor<;>first|kernel_rfl|decide|(intro w;kernel_rfl))): p:=h
def ae{p:Prop}(h:p:=by omega): p:=h
def aQ{p:Prop}(h:p:=by simp): p:=h
def cW{p:Prop}(h:p:=by decide): p:=h
def fc{p:Prop}(h:p:=by kernel_rfl): p:=h
namespace Go.Proofs
noncomputable abbrev aH:=Tryz.prog
end Go.Proofs
namespace Go
def aj:=@if_neg
def au:=@if_pos
def aW:=@congrArg
def aq:=@List.getD_eq_getElem?_getD
def aD:=@Bool.and_eq_true
def aC:=@List.length_append
def aM:=@decide_eq_true_eq
def aF:=@List.getElem?_set_ne
def aO:=@List.length_cons
def aE:=@List.getElem?_eq_some_iff
def bg:=@Nat.le_refl
def aP:=@Bool.false_eq_true
def aG:=@List.getElem?_eq_getElem
def aT:=@List.append_assoc
def aI:=@List.getElem?_append_left
def bf:=@List.all_eq_true
def bB:=@List.map_cons
def bt:=@List.length_nil
def bA:=@Int.cast_ofNat_Int
def bI:=@Int.natCast_add
def bL:=@Nat.zero_add
def bQ:=@decide_eq_true
def bj:=@Option.map_eq_some_iff
def cu:=@Nat.add_mul
def bK:=@List.cons_append
def bS:=@List.nil_append
def bw:=@List.getElem?_set_self
def bT:=@Option.getD_some
def cI:=@List.mem_map
def cR:=@Nat.le_trans
def bp:=@List.getElem?_append_right
def bZ:=@List.append_nil
def de:=@List.map_nil
def bG:=@List.take_of_length_le
def bR:=@Nat.mul_le_mul_right
def bV:=@List.getElem_of_mem
def cN:=@Bool.or_eq_true
def bH:=@List.getElem?_cons_succ
def cQ:=@decide_eq_false
def cZ:=@List.length_map
def bO:=@List.getElem?_cons_zero
def c7:=@Bool.eq_iff_iff
def dG:=@Nat.add_assoc
def dh:=@Option.map_some
def dm:=@Nat.not_lt_zero
def ew:=@Nat.zero_le
def cH:=@List.getD_cons_zero
def ek:=@List.set_set
def di:=@Nat.lt_of_lt_of_le
def dI:=@List.getElem_mem
def eH:=@Nat.succ_mul
def dN:=@List.length_set
def cJ:=@List.singleton_append
def dJ:=@List.length_drop
def cB:=@List.drop_of_length_le
def eZ:=@Nat.add_zero
def dW:=@List.length_take
def eF:=@List.mem_range
def dz:=@List.mem_cons_of_mem
def dA:=@List.length_eq_zero_iff
def eO:=@List.drop_zero
def dO:=@List.set_cons_zero
def ey:=@Bool.not_eq_true'
def fF:=@Bool.true_and
def dH:=@List.take_append_drop
def gi:=@Nat.ne_of_lt
def eA:=@List.set_cons_succ
def kF:=@Bool.not_eq_true
def fI:=@List.map_append
def dY:=@List.set_append_right
def fJ:=@List.find?_some
def gj:=@List.mem_cons
def eE:=@Array.getElem_eq_getD
def eL:=@List.mem_append_left
def fO:=@List.not_mem_nil
def eY:=@List.mem_singleton
def ff:=@Array.length_toList
def dZ:=@List.drop_eq_getElem_cons
def jd:=@Nat.mul_one
def gZ:=@List.take_zero
def fK:=@List.pairwise_cons
def fP:=@List.getElem?_map
def fZ:=@List.take_length
def g_:=@Bool.false_and
def h_:=@Bool.and_false
def fL:=@List.find?_eq_none
def iQ:=@Bool.and_true
def iK:=@Bool.not_false
def dD:=@List.take_succ_eq_append_getElem
def fW:=@Array.toArray_toList
def fQ:=@List.mem_append_right
def fX:=@List.pairwise_append
def ig:=@List.all_eq_false
def fq:=@Array.getElem?_eq_some_iff
def eP:=@List.eq_nil_of_length_eq_zero
def fx:=@Array.getElem?_append_left
def e8:=@Array.getD_eq_getD_getElem?
def gw:=@List.getElem?_toArray
def gC:=@List.length_replicate
def ja:=@Nat.le_of_not_lt
def iu:=@List.getD_cons_succ
def iw:=@List.takeWhile_cons
def jx:=@List.flatMap_cons
def iN:=@List.set_append_left
def gD:=@Option.isSome_iff_exists
def fg:=@Array.eq_empty_of_size_eq_zero
def jy:=@List.ext_getElem?
def gQ:=@Option.bind_eq_some_iff
def iD:=@List.getElem?_eq_none
def iR:=@List.length_pos_iff
def jz:=@List.take_add_one
def jt:=@List.range_eq_range'
def ju:=@List.mem_of_mem_drop
def jv:=@List.mem_of_getElem?
def iy:=@List.mem_of_find?_eq_some
end Go
namespace Go.AM
def Ra: List Nat:=[1]
def BR (w : World) : Prop := Lib.TabIs Go.Proofs.Tryz.prog w "internal/strconv.uint64pow10" .u64 Lib.pow10Tab
def Ou : Go.Proofs.Tryz.prog.globalNamed "internal/strconv.uint64pow10" = some 1 := fc
def BR.of_heap{w w':World}(h:BR w)(hb:∀ b ∈ Ra,w'.heap[b]? = w.heap[b]?): BR w':=by
 unfold BR Lib.TabIs World.var? at *;simp only[Ou,Option.bind_some]at h |-;rw[hb 1 (by simp[Ra])];exact h
structure El where
 ag:Bool
 sz:Nat
deriving DecidableEq,Inhabited,Repr
inductive AV where
 | undef
 | bool (b:Bool)
 | int (k:IntKind) (n:Int)
 | str (s:List UInt8)
 | agg (cs:List AV)
 | bU (vs:List AV)
 | aV
 | aR (full:Bool) (el:El) (xs:List AV)
 | own (el:El) (l m lo n:Nat)
 | ref (l off:Nat)
 | fh (el:El) (x:AV) (off:Nat)
 | fG (el:El) (l m i off:Nat)
 | gO
 | nQ
 | jR
 | fn (f:Fn) (first cap:List AV)
 | kZ (t:TypeId) (v:AV)
 | iS
 | mp (l:Nat)
 | qV (l:Nat)
 | mg (el:El) (p:AV) (n:Nat)
 | nZ
deriving Inhabited
def AV.scalar: AV->Bool
 | .agg _ | .bU _ | .undef=>false
 | _=>true
def AV.cell: AV->Nat->AV
 | .agg cs,i=>cs.getD i .undef
 | v,_=>v
def AV.cells: AV->List AV
 | .agg cs=>cs
 | v=>[v]
def AV.fits(el:El): AV->Bool
 | .agg cs=>el.ag && cs.length==el.sz && cs.all AV.scalar
 | .bU _ | .undef=>false
 | _=> !el.ag && el.sz==1
structure aN where
 fN:Nat->Prop
 n:Nat
 ver:Nat->Nat
 base:Nat->Option Nat
 cap:Nat->Nat
 off:Nat->Nat
def eT(w:World)(a:Addr): Value:=(w.cell? a).getD undef
def aln(g:aN)(el:El)(l m lo n:Nat)(v:Value): Prop :=
 l < g.n /\ m <= g.ver l /\ ∃ A cap, v = .slice A n cap /\ (m = g.ver l -> lo + n <= m /\ cap + lo = g.cap l /\
   (lo<g.cap l->A=(g.base l).map fun b=>⟨b,g.off l+lo*el.sz,none⟩))
def alo(g:aN)(l off:Nat)(v:Value): Prop :=
 (l<g.n/\1<=g.ver l)/\ ∃ A,v = .pointer (some A)/\(g.ver l=1->g.base l=some A.block/\A=⟨A.block,off,none⟩)
def ajC(g:aN)(el:El)(l m i off:Nat)(v:Value): Prop :=
 l<g.n/\m<=g.ver l/\ ∃ A,v = .pointer (some A)/\(m=g.ver l->g.base l=some A.block/\A=⟨A.block,g.off l+i*el.sz+off,none⟩)
def MpP(g:aN)(l:Nat)(v:Value): Prop :=
 l<g.n/\ ∃ b,v = .map (some b)/\(g.ver l=0->g.base l=some b)
def alp(g:aN)(l:Nat)(v:Value): Prop :=
 l<g.n/\ ∃ b,v = .func (.yield b) #[] #[]/\(g.ver l=0->g.base l=some b)
inductive VR (g:aN) (w:World):AV->Value->Prop where
 | undef (v:Value):VR g w .undef v
 | bool (b:Bool):VR g w (.bool b) (.bool b)
 | int (k:IntKind) (n:Int):VR g w (.int k n) (.int k n)
 | str (s:List UInt8):VR g w (.str s) (.string ⟨s.toArray⟩)
 | agg (cs : List AV) (vs : Array Value) (hl : cs.length = vs.size) (hs : cs.all AV.scalar = true)
    (h:∀ i,i<cs.length->VR g w (cs.getD i .undef) (vs.getD i Go.undef)):VR g w (.agg cs) (.agg vs)
 | bU (cs : List AV) (vs : Array Value) (hl : cs.length = vs.size)
    (h:∀ i,i<cs.length->VR g w (cs.getD i .undef) (vs.getD i Go.undef)):VR g w (.bU cs) (.tuple vs)
 | aV:VR g w .aV (.slice none 0 0)
 | iT (f:Bool) (el:El) (b:Option Addr) (cap:Nat) (hf:f=true->cap=0):VR g w (.aR f el []) (.slice b 0 cap)
 | aR (f : Bool) (el : El) (xs : List AV) (b off cap : Nat) (hi : g.fN b) (hf : f = true -> cap = xs.length) (hx : xs.length <= cap)
    (ft:∀ i,i<xs.length->(xs.getD i .undef).fits el=true)
    (hc:∀ i c,i<xs.length->c<el.sz->(w.cell? ⟨b,off+(i*el.sz+c),none⟩).isSome=true)
    (h:∀ i c,i<xs.length->c<el.sz->VR g w ((xs.getD i .undef).cell c) (eT w ⟨b,off+(i*el.sz+c),none⟩)) :
    VR g w (.aR f el xs) (.slice (some ⟨b,off,none⟩) xs.length cap)
 | own (el:El) (l m lo n:Nat) (v:Value) (h:aln g el l m lo n v):VR g w (.own el l m lo n) v
 | ref (l off:Nat) (v:Value) (h:alo g l off v):VR g w (.ref l off) v
 | fh (el : El) (x : AV) (off b o : Nat) (hi : g.fN b) (ft : x.fits el = true)
    (hc:∀ c,c<el.sz->(w.cell? ⟨b,o+c,none⟩).isSome=true)
    (h:∀ c,c<el.sz->VR g w (x.cell c) (eT w ⟨b,o+c,none⟩)) :
    VR g w (.fh el x off) (.pointer (some ⟨b,o+off,none⟩))
 | fG (el:El) (l m i off:Nat) (v:Value) (h:ajC g el l m i off v):VR g w (.fG el l m i off) v
 | gO:VR g w .gO (.pointer none)
 | nQ:VR g w .nQ .nilFunc
 | jR:VR g w .jR .nilIface
 | fn (f : Fn) (first cap : List AV) (first' cap' : Array Value) (hl : first.length = first'.size) (hl' : cap.length = cap'.size)
    (h:∀ i,i<first.length->VR g w (first.getD i .undef) (first'.getD i Go.undef))
    (h':∀ i,i<cap.length->VR g w (cap.getD i .undef) (cap'.getD i Go.undef)):VR g w (.fn f first cap) (.func f first' cap')
 | kZ (t:TypeId) (a:AV) (v:Value) (h:VR g w a v):VR g w (.kZ t a) (.iface t v)
 | iS:VR g w .iS (.map none)
 | mp (l:Nat) (v:Value) (h:MpP g l v):VR g w (.mp l) v
 | qV (l:Nat) (v:Value) (h:alp g l v):VR g w (.qV l) v
 | nZ (v:Value) (h:v.oneCell'=true):VR g w .nZ v
 | mg (el:El) (p:AV) (n:Nat) (A:Addr) (cap:Nat) (hn:0<n) (hc:n<=cap) (h:VR g w p (.pointer (some A))):VR g w (.mg el p n) (.slice (some A) n cap)
structure kH (g:aN) (w:World) (g':aN) (w':World):Prop where
 fN:∀ b,g.fN b->g'.fN b/\w'.heap[b]? = w.heap[b]?
 n:g.n<=g'.n
 ver:∀ l,l<g.n->g.ver l<=g'.ver l/\(g'.ver l=g.ver l->g'.base l=g.base l/\g'.cap l=g.cap l/\g'.off l=g.off l)
def kH.refl(g:aN)(w:World): kH g w g w:=⟨fun _ h=>⟨h,rfl⟩,bg _,fun _ _=>⟨bg _,fun _=>⟨rfl,rfl,rfl⟩⟩⟩
def kH.trans{g1 g2 g3:aN}{w1 w2 w3:World}(h:kH g1 w1 g2 w2)(k:kH g2 w2 g3 w3): kH g1 w1 g3 w3:=by
 refine⟨fun b hb=>?_,cR h.n k.n,fun l hl=>?_⟩
 ·obtain⟨h1,h2⟩:=h.fN b hb;obtain⟨h3,h4⟩:=k.fN b h1;exact⟨h3,h4.trans h2⟩
 obtain⟨a1,a2⟩:=h.ver l hl;obtain⟨b1,b2⟩:=k.ver l (di hl h.n);refine⟨cR a1 b1,fun e=>?_⟩;have e1:g2.ver l=g1.ver l:=ae;have e2:g3.ver l=g2.ver l:=ae;exact⟨(b2 e2).1.trans (a2 e1).1,(b2 e2).2.1.trans (a2 e1).2.1,(b2 e2).2.2.trans (a2 e1).2.2⟩
def nT{w w':World}{b:Nat}(h:w'.heap[b]? = w.heap[b]?)(o:Nat)(s:Option Nat): w'.cell? ⟨b,o,s⟩=w.cell? ⟨b,o,s⟩:=by
 simp only[World.cell?,h]
def KV{w w':World}{b:Nat}(h:w'.heap[b]? = w.heap[b]?)(o:Nat)(s:Option Nat): w'.frozen? ⟨b,o,s⟩=w.frozen? ⟨b,o,s⟩:=by
 simp only[World.frozen?,h]
def tF{w w':World}{b:Nat}(h:w'.heap[b]? = w.heap[b]?)(o:Nat)(s:Option Nat): eT w' ⟨b,o,s⟩=eT w ⟨b,o,s⟩:=by
 simp only[eT,nT h]
def VR.mono{g g':aN}{w w':World}(hm:kH g w g' w'){a:AV}{v:Value}(h:VR g w a v): VR g' w' a v:=by
 induction h with
 | undef v=>exact .undef v
 | bool b=>exact .bool b
 | int k n=>exact .int k n
 | str s=>exact .str s
 | agg cs vs hl hs _ ih=>exact .agg cs vs hl hs ih
 | bU cs vs hl _ ih=>exact .bU cs vs hl ih
 | aV=>exact .aV
 | iT f el b cap hf=>exact .iT f el b cap hf
 | aR f el xs b off cap hi hf hx ft hc _ ih =>
   obtain⟨hi',he⟩:=hm.fN b hi;refine .aR f el xs b off cap hi' hf hx ft (fun i c h1 h2=>?_) (fun i c h1 h2=>?_)
   ·rw[nT he];exact hc i c h1 h2
   rw[tF he];exact ih i c h1 h2
 | own el l m lo n v h =>
   obtain⟨h1,h2,A,cap,h3,h4⟩:=h;obtain⟨v1,v2⟩:=hm.ver l h1;refine .own el l m lo n v ⟨di h1 hm.n,cR h2 v1,A,cap,h3,fun e=>?_⟩;have e1:g'.ver l=g.ver l:=ae;obtain⟨b1,b2,b3⟩:=v2 e1;rw[b1,b2,b3];exact h4 ae
 | ref l off v h =>
   obtain⟨⟨h1,h0⟩,A,h2,h3⟩:=h;obtain⟨v1,v2⟩:=hm.ver l h1;refine .ref l off v ⟨⟨di h1 hm.n,cR h0 v1⟩,A,h2,fun e=>?_⟩;have e1:g'.ver l=g.ver l:=ae;rw[(v2 e1).1];exact h3 ae
 | fh el x off b o hi ft hc _ ih =>
   obtain⟨hi',he⟩:=hm.fN b hi;refine .fh el x off b o hi' ft (fun c h2=>?_) (fun c h2=>?_)
   ·rw[nT he];exact hc c h2
   rw[tF he];exact ih c h2
 | fG el l m i off v h =>
   obtain⟨h1,h2,A,h3,h4⟩:=h;obtain⟨v1,v2⟩:=hm.ver l h1;refine .fG el l m i off v ⟨di h1 hm.n,cR h2 v1,A,h3,fun e=>?_⟩;have e1:g'.ver l=g.ver l:=ae;rw[(v2 e1).1,(v2 e1).2.2];exact h4 ae
 | gO=>exact .gO
 | nQ=>exact .nQ
 | jR=>exact .jR
 | fn f first cap first' cap' hl hl' _ _ ih qN=>exact .fn f first cap first' cap' hl hl' ih qN
 | kZ t a v _ ih=>exact .kZ t a v ih
 | iS=>exact .iS
 | nZ v h=>exact .nZ v h
 | mp l v h =>
   obtain⟨h1,b,h2,h3⟩:=h;obtain⟨v1,v2⟩:=hm.ver l h1;refine .mp l v ⟨di h1 hm.n,b,h2,fun e=>?_⟩;have e1:g'.ver l=g.ver l:=ae;rw[(v2 e1).1];exact h3 ae
 | qV l v h =>
   obtain⟨h1,b,h2,h3⟩:=h;obtain⟨v1,v2⟩:=hm.ver l h1;refine .qV l v ⟨di h1 hm.n,b,h2,fun e=>?_⟩;have e1:g'.ver l=g.ver l:=ae;rw[(v2 e1).1];exact h3 ae
 | mg el p n A cap hn hc _ ih=>exact .mg el p n A cap hn hc ih
def VR.Hs{g:aN}{w:World}{a:AV}{v:Value}(h:VR g w a v)(hs:a.scalar=true): v.oneCell'=true:=by
 cases h<;>first
  | rfl
  |(simp[AV.scalar]at hs;done)
  | skip
 case own h=>obtain⟨_,_,A,cap,rfl,_⟩:=h;rfl
 case ref h=>obtain⟨_,A,rfl,_⟩:=h;rfl
 case fG h=>obtain⟨_,_,A,rfl,_⟩:=h;rfl
 case mp h=>obtain⟨_,A,rfl,_⟩:=h;rfl
 case nZ h=>exact h
 case qV h=>obtain⟨_,A,rfl,_⟩:=h;rfl
inductive aY where
 | bY (T:Option TypeId) (cs:List AV)
 | dn (T:Option TypeId) (el:El) (xs:List AV)
 | jA (s:List UInt8) (pos:Nat)
 | map (es:List (AV × AV))
 | loop (nt:Nat) (e:Nat->AV) (ps:Array Tmp) (assign body:Code) (st:LoopState) (pend:Option Code)
 | dead
 | resv
deriving Inhabited
abbrev aY.cells(cs:List AV): aY:= .bY none cs
abbrev aY.vec(el:El)(xs:List AV): aY:= .dn none el xs
def yV(w:World)(b n:Nat): Option TypeId->Prop
 | none=>True
 | some T=>w.shape? b=some (T,n)
def yV.of_heap{w w':World}{b n:Nat}{T:Option TypeId}(h:yV w b n T)(he:w'.heap[b]? = w.heap[b]?): yV w' b n T:=by
 cases T with
 | none=>trivial
 | some T=>simp only[yV,World.shape?]at *;rw[he];exact h
def VP(w:World)(b n o:Nat): Option TypeId->Prop
 | none=>True
 | some T=>w.shape? b=some (T,n)/\o=0
def VP.of_heap{w w':World}{b n o:Nat}{T:Option TypeId}(h:VP w b n o T)(he:w'.heap[b]? = w.heap[b]?): VP w' b n o T:=by
 cases T with
 | none=>trivial
 | some T=>simp only[VP,World.shape?]at *;rw[he];exact h
def yV.v{w:World}{b n:Nat}{T:Option TypeId}(h:yV w b n T): VP w b n 0 T:=by
 cases T with
 | none=>trivial
 | some T=>exact⟨h,rfl⟩
abbrev ai:=List aY
def aY.live: aY->Bool
 | .dead=>false
 | _=>true
def Live(σ : ai)(l:Nat): Prop:= ∃ o,σ[l]? = some o/\o.live=true
def mG(σ : ai)(g:aN)(b:Nat): Prop:= ∃ l,Live σ l/\g.base l=some b
def Row(w:World)(b:Nat)(vs:Array Value): Prop :=
 ∃ T fz,w.heap[b]? = some (.cells vs T fz)/\ ∀ i,i<vs.size->w.frozen? ⟨b,i,none⟩=false
def aY.Ok(g:aN)(w:World)(l:Nat): aY->Prop
 | .bY T cs => g.ver l = 1 /\ cs.all AV.scalar = true /\ ∃ b vs, g.base l = some b /\ Row w b vs /\ vs.size = cs.length /\
    (∀ i,i<cs.length->VR g w (cs.getD i .undef) (vs.getD i Go.undef))/\yV w b cs.length T
 | .dn T el xs => g.ver l = xs.length /\ (∀ i, i < xs.length -> (xs.getD i .undef).fits el = true) /\
    ((xs = [] /\ g.base l = none /\ g.cap l = 0 /\ g.off l = 0) \/
      ∃ b vs, g.base l = some b /\ Row w b vs /\ vs.size = g.off l + g.cap l * el.sz /\ xs.length <= g.cap l /\
        (∀ i c,i<xs.length->c<el.sz->VR g w ((xs.getD i .undef).cell c) (vs.getD (g.off l+i*el.sz+c) Go.undef))/\VP w b vs.size (g.off l) T)
 | .jA s pos=>g.ver l=1/\ ∃ b,g.base l=some b/\w.heap[b]? = some (.stringIter ⟨s.toArray⟩ pos)
 | .map es => g.ver l = 0 /\ ∃ b ms clock, g.base l = some b /\ w.heap[b]? = some (.map ms clock) /\ ms.size = es.length /\ (clock = es.length /\ ∀ i, i < es.length -> (ms.getD i default).born = i) /\
    ∀ i,i<es.length->VR g w (es.getD i default).1 (ms.getD i default).key/\VR g w (es.getD i default).2 (ms.getD i default).val
 | .loop nt e ps ca cb st pe => g.ver l = 0 /\ ∃ b rec, g.base l = some b /\ w.heap[b]? = some (.loop rec) /\ rec.params = ps /\ rec.assign = ca /\ rec.body = cb /\ rec.state = st /\ rec.pending = pe /\
    rec.tmps.size=nt/\ ∀ t,t<nt->VR g w (e t) (rec.tmps.getD t Go.undef)
 | .dead=>True
 | .resv=>g.ver l=0/\g.base l=none/\g.cap l=0/\g.off l=0
def yf(g:aN)(w:World): Prop:=(∀ b ∈ Ra,g.fN b)/\BR w
def yf.mono{g g':aN}{w w':World}(h:yf g w)(hm:∀ b,g.fN b->g'.fN b/\w'.heap[b]? = w.heap[b]?): yf g' w' :=
 ⟨fun b hb=>(hm b (h.1 b hb)).1,h.2.of_heap fun b hb=>(hm b (h.1 b hb)).2⟩
structure Rel (g:aN) (w:World) (σ : ai):Prop where
 len : σ.length=g.n
 lt:∀ b,g.fN b->b<w.heap.size
 ok:∀ (l:Nat) (o:aY),σ[l]? = some o->o.Ok g w l
 inj:∀ l l' b,Live σ l->Live σ l'->g.base l=some b->g.base l'=some b->l=l'
 qc:∀ l b,Live σ l->g.base l=some b->¬ g.fN b
 glob:yf g w
structure gE (σ : ai) (g:aN) (w:World) (σ':ai) (g':aN) (w':World):Prop where
 mono:kH g w g' w'
 size:w.heap.size<=w'.heap.size
 os:w'.os=w.os
 tape:w'.tape=w.tape
 output:w'.output=w.output
 frame:∀ b,b<w.heap.size->¬ mG σ g b->w'.heap[b]? = w.heap[b]?
 qW:∀ b,b<w.heap.size->g'.fN b->g.fN b\/mG σ g b
 BS:∀ b,b<w.heap.size->mG σ' g' b->mG σ g b
def gE.refl(σ : ai)(g:aN)(w:World): gE σ g w σ g w :=
 ⟨.refl _ _,bg _,rfl,rfl,rfl,fun _ _ _=>rfl,fun _ _ h=> .inl h,fun _ _ h=>h⟩
def gE.trans{σ1 σ2 σ3:ai}{g1 g2 g3:aN}{w1 w2 w3:World}(h:gE σ1 g1 w1 σ2 g2 w2)(k:gE σ2 g2 w2 σ3 g3 w3): gE σ1 g1 w1 σ3 g3 w3:=by
 refine⟨h.mono.trans k.mono,cR h.size k.size,k.os.trans h.os,k.tape.trans h.tape,k.output.trans h.output,fun b hb ht=>?_,fun b hb hi=>?_,fun b hb ht=>?_⟩
 ·rw[k.frame b (di hb h.size) (fun t=>ht (h.BS b hb t)),h.frame b hb ht]
 ·rcases k.qW b (Nat.lt_of_lt_of_le hb h.size) hi with h1|h1
  ·exact h.qW b hb h1
  exact .inr (h.BS b hb h1)
 exact h.BS b hb (k.BS b (di hb h.size) ht)
def gE.drew(σ : ai)(g:aN)(w:World)(d:Nat): gE σ g w σ g { w with drawn:=d } :=
 ⟨⟨fun _ h=>⟨h,rfl⟩,bg _,fun _ _=>⟨bg _,fun _=>⟨rfl,rfl,rfl⟩⟩⟩,bg _,rfl,rfl,rfl,fun _ _ _=>rfl,fun _ _ h=> .inl h,fun _ _ h=>h⟩
def Row.lt{w:World}{b:Nat}{vs:Array Value}(h:Row w b vs): b<w.heap.size:=by
 obtain⟨T,fz,h,_⟩:=h;exact(fq.1 h).1
def Row.of_heap{w w':World}{b:Nat}{vs:Array Value}(h:Row w b vs)(he:w'.heap[b]? = w.heap[b]?): Row w' b vs:=by
 obtain⟨T,fz,h,hf⟩:=h;exact⟨T,fz,he.trans h,fun i hi=>(KV he i none).trans (hf i hi)⟩
def Row.cell{w:World}{b:Nat}{vs:Array Value}(h:Row w b vs){i:Nat}(hi:i<vs.size): w.cell? ⟨b,i,none⟩=some (vs.getD i Go.undef):=by
 obtain⟨T,fz,h,_⟩:=h;simp[World.cell?,h,hi]
def aY.Ok.step {g g' : aN} {w w' : World} {l : Nat} {o : aY} (h : o.Ok g w l) (hm : kH g w g' w') (hl : l < g.n)
    (hv:g'.ver l=g.ver l) (hb:∀ b,g.base l=some b->w'.heap[b]? = w.heap[b]?):o.Ok g' w' l:=by
 obtain⟨e1,e2,e3⟩:=(hm.ver l hl).2 hv;cases o with
 | bY T cs =>
   obtain⟨h1,hs,b,vs,h2,h3,h4,h5,h6⟩:=h;exact⟨hv.trans h1,hs,b,vs,e1.trans h2,h3.of_heap (hb b h2),h4,fun i hi=>(h5 i hi).mono hm,h6.of_heap (hb b h2)⟩
 | dn T el xs =>
   obtain⟨h1,hf,h2⟩:=h;refine⟨hv.trans h1,hf,?_⟩;rcases h2 with⟨h2,h3,h4⟩|⟨b,vs,h2,h3,h4,h5,h6,h7⟩
   ·exact .inl ⟨h2,e1.trans h3,e2.trans h4.1,e3.trans h4.2⟩
   exact .inr ⟨b,vs,e1.trans h2,h3.of_heap (hb b h2),by rw[e2,e3];exact h4,by rw[e2];exact h5,fun i c hi hc=>by rw[e3];exact(h6 i c hi hc).mono hm,by rw[e3];exact h7.of_heap (hb b h2)⟩
 | jA s pos =>
   obtain⟨h1,b,h2,h3⟩:=h;exact⟨hv.trans h1,b,e1.trans h2,(hb b h2).trans h3⟩
 | map es =>
   obtain⟨h1,b,ms,clock,h2,h3,h4,h6,h5⟩:=h;exact⟨hv.trans h1,b,ms,clock,e1.trans h2,(hb b h2).trans h3,h4,h6,fun i hi=>⟨(h5 i hi).1.mono hm,(h5 i hi).2.mono hm⟩⟩
 | loop nt e ps ca cb st pe =>
   obtain⟨h1,b,rec,h2,h3,h4,h5,h6,h7,h8,h9,h10⟩:=h;exact⟨hv.trans h1,b,rec,e1.trans h2,(hb b h2).trans h3,h4,h5,h6,h7,h8,h9,fun t ht=>(h10 t ht).mono hm⟩
 | dead=>trivial
 | resv=>exact⟨hv.trans h.1,e1.trans h.2.1,e2.trans h.2.2.1,e3.trans h.2.2.2⟩
def Rel.k8{g:aN}{w:World}{σ : ai}(h:Rel g w σ){l b:Nat}(hl:Live σ l)(hb:g.base l=some b): b<w.heap.size:=by
 obtain⟨o,ho,hv⟩:=hl;have:=h.ok l o ho;cases o with
 | bY T cs=>obtain⟨_,_,b',vs,h2,h3,_⟩:=this;rw[hb]at h2;cases h2;exact h3.lt
 | dn T el xs =>
   obtain⟨_,_,h2⟩:=this;rcases h2 with⟨_,h3,_⟩|⟨b',vs,h2,h3,_⟩
   ·rw[hb]at h3;cases h3
   rw[hb]at h2;cases h2;exact h3.lt
 | jA s pos=>obtain⟨_,b',h2,h3⟩:=this;rw[hb]at h2;cases h2;exact(Array.getElem?_eq_some_iff.1 h3).1
 | map es=>obtain⟨_,b',_,_,h2,h3,_⟩:=this;rw[hb]at h2;cases h2;exact(Array.getElem?_eq_some_iff.1 h3).1
 | loop nt e ps ca cb st pe=>obtain⟨_,b',_,h2,h3,_⟩:=this;rw[hb]at h2;cases h2;exact(Array.getElem?_eq_some_iff.1 h3).1
 | dead=>simp[aY.live]at hv
 | resv=>rw[this.2.1]at hb;cases hb
def Rel.C1{g:aN}{w:World}{σ : ai}(h:Rel g w σ){b:Nat}(ht:mG σ g b): b<w.heap.size :=
 let ⟨_,hl,hb⟩:=ht;h.k8 hl hb
def Live.lt{σ : ai}{l:Nat}(h:Live σ l): l < σ.length:=by
 obtain⟨o,ho,_⟩:=h;exact(aE.1 ho).1
def heap_alloc_old(w:World)(o:Obj){b:Nat}(h:b<w.heap.size): (w.alloc o).heap[b]? = w.heap[b]?:=by
 exact Go.RowKit.Below.heap_alloc w o b h
def heap_alloc_new(w:World)(o:Obj): (w.alloc o).heap[w.heap.size]? = some o:=by
 show(w.heap.push o)[w.heap.size]? = _;simp
def Rel.drew{g:aN}{w:World}{σ : ai}(h:Rel g w σ)(d:Nat): Rel g { w with drawn:=d } σ :=
 ⟨h.len,h.lt,fun l o ho=>(h.ok l o ho).step (gE.drew σ g w d).mono (by rw[<-h.len];exact(aE.1 ho).1) rfl (fun _ _=>rfl),h.inj,h.qc,h.glob.mono fun _ hb=>⟨hb,rfl⟩⟩
def aN.qX(g:aN)(b:Nat): aN:= { g with fN:=fun c=>g.fN c\/c=b }
def aN.push(g:aN)(v:Nat)(b:Option Nat)(c:Nat)(o:Nat:=0): aN :=
 { g with n:=g.n+1,off:=fun l=>if l=g.n then o else g.off l,ver:=fun l=>if l=g.n then v else g.ver l,base:=fun l=>if l=g.n then b else g.base l,cap:=fun l=>if l=g.n then c else g.cap l }
def vL(g:aN)(w:World)(o:Obj)(hlt:∀ b,g.fN b->b<w.heap.size): kH g w (g.qX w.heap.size) (w.alloc o) :=
 ⟨fun b h=>⟨.inl h,heap_alloc_old w o (hlt b h)⟩,bg _,fun _ _=>⟨bg _,fun _=>⟨rfl,rfl,rfl⟩⟩⟩
def mH(g:aN)(w:World)(o:Obj)(v:Nat)(b:Option Nat)(c:Nat)(hlt:∀ b,g.fN b->b<w.heap.size): kH g w (g.push v b c) (w.alloc o) :=
 ⟨fun b h => ⟨h, heap_alloc_old w o (hlt b h)⟩, Nat.le_succ _, fun l hl => by
   have:l≠g.n:=gi hl;simp[aN.push,this]⟩
def Rel.Rw{g:aN}{w:World}{σ : ai}(h:Rel g w σ)(o:Obj): Rel (g.qX w.heap.size) (w.alloc o) σ/\gE σ g w σ (g.qX w.heap.size) (w.alloc o):=by
 have hm:=vL g w o h.lt;refine⟨⟨h.len,fun b hb=>?_,fun l o' ho=>?_,h.inj,fun l b hl hb hi=>?_,h.glob.mono hm.fN⟩,⟨hm,aQ,rfl,rfl,rfl,fun b hb _=>heap_alloc_old w o hb,fun b hb hi=>?_,fun b _ ht=>ht⟩⟩
 ·rcases hb with hb|rfl
  ·have:=h.lt b hb;simp;omega
  simp
 ·have hl:l<g.n:=by rw[<-h.len];exact(aE.1 ho).1
  by_cases hv:o'.live=true
  ·exact(h.ok l o' ho).step hm hl rfl (fun b hb=>heap_alloc_old w o (h.k8 ⟨o',ho,hv⟩ hb))
  ·cases o'<;>simp[aY.live]at hv;trivial
 ·rcases hi with hi|rfl
  ·exact h.qc l b hl hb hi
  exact absurd (h.k8 hl hb) (Nat.lt_irrefl _)
 rcases hi with hi|rfl
 ·exact .inl hi
 exact absurd hb (Nat.lt_irrefl _)
def oH{σ : ai}{o:aY}{l:Nat}(h:Live (σ++[o]) l): Live σ l\/l = σ.length:=by
 obtain⟨o',ho,hv⟩:=h;by_cases hl:l < σ.length
 ·exact .inl ⟨o',by rwa[aI hl]at ho,hv⟩
 have:=(aE.1 ho).1;simp at this;exact .inr ae
def Rel.ahe {g0 g : aN} {w0 w w' : World} {nN σ : ai} {D : Nat} (h : Rel g w σ) (fy : gE nN g0 w0 σ g w) (hD : w0.heap.size <= D) (ht : ¬ mG σ g D) (hi : ¬ g.fN D)
    (hsz:w'.heap.size=w.heap.size) (hos:w'.os=w.os) (yg:w'.tape=w.tape) (hout:w'.output=w.output) (hheap:∀ c,c≠D->w'.heap[c]? = w.heap[c]?) :
    Rel g w' σ/\gE nN g0 w0 σ g w'/\kH g w g w':=by
 have hm:kH g w g w':=⟨fun b hb=>⟨hb,hheap b (fun e=>hi (e ▸ hb))⟩,bg _,fun _ _=>⟨bg _,fun _=>⟨rfl,rfl,rfl⟩⟩⟩
 refine⟨⟨h.len,fun b hb=>by rw[hsz];exact h.lt b hb,fun l o' ho=>?_,h.inj,h.qc,h.glob.mono hm.fN⟩,
  ⟨fy.mono.trans hm,by rw[hsz];exact fy.size,hos.trans fy.os,yg.trans fy.tape,hout.trans fy.output,fun b hb hnt=>(hheap b ae).trans (fy.frame b hb hnt),fy.qW,fy.BS⟩,hm⟩
 have hl:l<g.n:=by rw[<-h.len];exact(aE.1 ho).1
 by_cases hv:o'.live=true
 ·exact(h.ok l o' ho).step hm hl rfl (fun b hb=>hheap b (fun e=>ht ⟨l,⟨o',ho,hv⟩,e ▸ hb⟩))
 ·cases o'<;>simp[aY.live]at hv;trivial
def Rel.tT {g : aN} {w : World} {σ : ai} (h : Rel g w σ) (o : Obj) (ao : aY) (v c : Nat)
    (hok:ao.Ok (g.push v (some w.heap.size) c) (w.alloc o) g.n) :
    Rel (g.push v (some w.heap.size) c) (w.alloc o) (σ++[ao])/\gE σ g w (σ++[ao]) (g.push v (some w.heap.size) c) (w.alloc o):=by
 have hm:=mH g w o v (some w.heap.size) c h.lt;have hbase:∀ l,l<g.n->(g.push v (some w.heap.size) c).base l=g.base l:=fun l hl=>by simp[aN.push,gi hl]
 have hnew:(g.push v (some w.heap.size) c).base g.n=some w.heap.size:=by simp[aN.push]
 have hold:∀ l b,Live σ l->(g.push v (some w.heap.size) c).base l=some b->g.base l=some b/\b<w.heap.size:=fun l b hl hb=>by
  rw[hbase l (by rw[<-h.len];exact hl.lt)]at hb;exact⟨hb,h.k8 hl hb⟩
 refine⟨⟨by simp[aN.push,h.len],fun b hb=>by have:=h.lt b hb;simp;omega,fun l o' ho=>?_,fun l l' b hl hl' hb hb'=>?_,fun l b hl hb hi=>?_,h.glob.mono hm.fN⟩,
  ⟨hm,aQ,rfl,rfl,rfl,fun b hb _=>heap_alloc_old w o hb,fun b hb hi=> .inl hi,fun b hb ht=>?_⟩⟩
 ·by_cases hl:l < σ.length
  ·rw[aI hl]at ho;have hl':l<g.n:=by rw[<-h.len];exact hl
   by_cases hv:o'.live=true
   ·refine(h.ok l o' ho).step hm hl' (by simp[aN.push,gi hl']) (fun b hb=>heap_alloc_old w o (h.k8 ⟨o',ho,hv⟩ hb))
   ·cases o'<;>simp[aY.live]at hv;trivial
  have h1:=(aE.1 ho).1;simp at h1;have h2:l = σ.length:=ae;subst h2;simp at ho;subst ho;rw[h.len];exact hok
 ·rcases oH hl with hl|rfl<;>rcases oH hl' with hl'|rfl
  ·exact h.inj l l' b hl hl' (hold l b hl hb).1 (hold l' b hl' hb').1
  ·have:=(hold l b hl hb).2;rw[h.len,hnew]at hb';cases hb';exact absurd this (Nat.lt_irrefl _)
  ·have:=(hold l' b hl' hb').2;rw[h.len,hnew]at hb;cases hb;exact absurd this (Nat.lt_irrefl _)
  rfl
 ·rcases oH hl with hl|rfl
  ·exact h.qc l b hl (hold l b hl hb).1 hi
  rw[h.len,hnew]at hb;cases hb;exact absurd (h.lt _ hi) (Nat.lt_irrefl _)
 obtain⟨l,hl,hb'⟩:=ht;rcases oH hl with hl|rfl
 ·exact⟨l,hl,(hold l b hl hb').1⟩
 rw[h.len,hnew]at hb';cases hb';exact absurd hb (Nat.lt_irrefl _)
def aN.reset(g:aN)(l v:Nat)(b:Option Nat)(c:Nat)(o:Nat:=0): aN :=
 { g with off:=fun k=>if k=l then o else g.off k,ver:=fun k=>if k=l then v else g.ver k,base:=fun k=>if k=l then b else g.base k,cap:=fun k=>if k=l then c else g.cap k }
def lK{σ : ai}{l k:Nat}{o:aY}(h:Live (σ.set l o) k): (k=l/\l < σ.length/\o.live=true)\/(k≠l/\Live σ k):=by
 obtain⟨o',ho,hv⟩:=h;by_cases hk:k=l
 ·subst hk;have hlt:=(aE.1 ho).1;simp at hlt;simp[hlt]at ho;exact .inl ⟨rfl,hlt,ho ▸ hv⟩
 rw[aF (Ne.symm hk)]at ho;exact .inr ⟨hk,o',ho,hv⟩
def Rel.change {g : aN} {w w' : World} {σ : ai} {l : Nat} {o o' : aY} (h : Rel g w σ) (hl : σ[l]? = some o) (ho : o.live = true)
    (v:Nat) (nb:Option Nat) (c:Nat) (fo:Nat) (hv:g.ver l<=v) (hvb:v=g.ver l->nb=g.base l/\c=g.cap l/\fo=g.off l)
    (hsz:w.heap.size<=w'.heap.size) (hos:w'.os=w.os) (yg:w'.tape=w.tape) (hout:w'.output=w.output)
    (hheap:∀ b,b<w.heap.size->g.base l≠some b->w'.heap[b]? = w.heap[b]?)
    (hnb:∀ b,nb=some b->g.base l=some b\/w.heap.size<=b)
    (hok:kH g w (g.reset l v nb c fo) w'->o'.Ok (g.reset l v nb c fo) w' l) :
    Rel (g.reset l v nb c fo) w' (σ.set l o')/\gE σ g w (σ.set l o') (g.reset l v nb c fo) w':=by
 have iW:Live σ l:=⟨o,hl,ho⟩;have hbase:∀ k,k≠l->(g.reset l v nb c fo).base k=g.base k:=fun k hk=>by simp[aN.reset,hk]
 have Rb:(g.reset l v nb c fo).base l=nb:=by simp[aN.reset]
 have hm:kH g w (g.reset l v nb c fo) w':=by
  refine⟨fun b hb=>⟨hb,hheap b (h.lt b hb) (fun e=>h.qc l b iW e hb)⟩,bg _,fun k _=>?_⟩;by_cases hk:k=l
  ·subst hk;simp only[aN.reset,if_true];exact⟨hv,hvb⟩
  simp[aN.reset,hk]
 refine⟨⟨by simp[aN.reset,h.len],fun b hb=>di (h.lt b hb) hsz,fun k ok hk=>?_,fun k k' b hk hk' hb hb'=>?_,fun k b hk hb hi=>?_,h.glob.mono hm.fN⟩,
  ⟨hm,hsz,hos,yg,hout,fun b hb ht=>hheap b hb (fun e=>ht ⟨l,iW,e⟩),fun b _ hi=> .inl hi,fun b hb ht=>?_⟩⟩
 ·by_cases e:k=l
  ·subst e;have hlt:=(aE.1 hk).1;simp at hlt;simp[hlt]at hk;subst hk;exact hok hm
  rw[aF (Ne.symm e)]at hk;have hkn:k<g.n:=by rw[<-h.len];exact(aE.1 hk).1
  by_cases hvk:ok.live=true
  ·refine(h.ok k ok hk).step hm hkn (by simp[aN.reset,e]) (fun b hb=>hheap b (h.k8 ⟨ok,hk,hvk⟩ hb) (fun e'=>e (h.inj k l b ⟨ok,hk,hvk⟩ iW hb e')))
  ·cases ok<;>simp[aY.live]at hvk;trivial
 ·rcases lK hk with⟨e,_,_⟩|⟨e,kI⟩<;>rcases lK hk' with⟨e',_,_⟩|⟨e',acA⟩
  ·exact e.trans e'.symm
  ·subst e;rw[Rb]at hb;rw[hbase k' e']at hb';rcases hnb b hb with h1|h1
   ·exact h.inj _ _ b iW acA h1 hb'
   have:=h.k8 acA hb';omega
  ·subst e';rw[Rb]at hb';rw[hbase k e]at hb;rcases hnb b hb' with h1|h1
   ·exact h.inj _ _ b kI iW hb h1
   have:=h.k8 kI hb;omega
  rw[hbase k e]at hb;rw[hbase k' e']at hb';exact h.inj k k' b kI acA hb hb'
 ·rcases lK hk with⟨rfl,_,_⟩|⟨e,hk⟩
  ·rw[Rb]at hb;rcases hnb b hb with h1|h1
   ·exact h.qc _ b iW h1 hi
   have:=h.lt b hi;omega
  rw[hbase k e]at hb;exact h.qc k b hk hb hi
 obtain⟨k,hk,hb'⟩:=ht;rcases lK hk with⟨rfl,_,_⟩|⟨e,hk⟩
 ·rw[Rb]at hb';rcases hnb b hb' with h1|h1
  ·exact⟨_,iW,h1⟩
  omega
 exact⟨k,hk,by rw[hbase k e]at hb';exact hb'⟩
def aN.KW(g:aN)(l:Nat): g.reset l (g.ver l) (g.base l) (g.cap l) (g.off l)=g:=by
 simp only[aN.reset]
 congr 1<;>(funext k;split<;>simp_all)
def Rel.update {g : aN} {w w' : World} {σ : ai} {l b : Nat} {o o' : aY} (h : Rel g w σ) (hl : σ[l]? = some o) (ho : o.live = true) (hb : g.base l = some b)
    (hsz:w'.heap.size=w.heap.size) (hos:w'.os=w.os) (yg:w'.tape=w.tape) (hout:w'.output=w.output)
    (hheap:∀ c,c≠b->w'.heap[c]? = w.heap[c]?) (hok:kH g w g w'->o'.Ok g w' l) :
    Rel g w' (σ.set l o')/\gE σ g w (σ.set l o') g w':=by
 have:=Rel.change (o':=o') (w':=w') h hl ho (g.ver l) (g.base l) (g.cap l) (g.off l) (bg _) (fun _=>⟨rfl,rfl,rfl⟩) (Nat.le_of_eq hsz.symm) hos yg hout
  (fun c _ hc=>hheap c (fun e=>hc (e ▸ hb))) (fun c hc=> .inl hc)
 rw[g.KW l]at this;exact this hok
def Rel.freeze {g : aN} {w : World} {σ : ai} {l b : Nat} {o : aY} (h : Rel g w σ) (hl : σ[l]? = some o) (ho : o.live = true) (hb : g.base l = some b) :
    Rel (g.qX b) w (σ.set l .dead)/\gE σ g w (σ.set l .dead) (g.qX b) w:=by
 have iW:Live σ l:=⟨o,hl,ho⟩;have hm:kH g w (g.qX b) w:=⟨fun c hc=>⟨.inl hc,rfl⟩,bg _,fun _ _=>⟨bg _,fun _=>⟨rfl,rfl,rfl⟩⟩⟩
 refine⟨⟨by simp[aN.qX,h.len],fun c hc=>?_,fun k ok hk=>?_,fun k k' c hk hk' hc mh=>?_,fun k c hk hc hi=>?_,h.glob.mono hm.fN⟩,
  ⟨hm,bg _,rfl,rfl,rfl,fun _ _ _=>rfl,fun c _ hi=>?_,fun c _ ht=>?_⟩⟩
 ·rcases hc with hc|rfl
  ·exact h.lt c hc
  exact h.k8 iW hb
 ·by_cases e:k=l
  ·subst e;have hlt:=(aE.1 hk).1;simp at hlt;simp[hlt]at hk;subst hk;trivial
  rw[aF (Ne.symm e)]at hk;have hkn:k<g.n:=by rw[<-h.len];exact(aE.1 hk).1
  exact(h.ok k ok hk).step hm hkn rfl (fun _ _=>rfl)
 ·rcases lK hk with⟨_,_,e⟩|⟨_,hk⟩
  ·simp[aY.live]at e
  rcases lK hk' with⟨_,_,e⟩|⟨_,hk'⟩
  ·simp[aY.live]at e
  exact h.inj k k' c hk hk' hc mh
 ·rcases lK hk with⟨_,_,e⟩|⟨e,hk⟩
  ·simp[aY.live]at e
  rcases hi with hi|rfl
  ·exact h.qc k c hk hc hi
  exact e (h.inj k l c hk iW hc hb)
 ·rcases hi with hi|rfl
  ·exact .inl hi
  exact .inr ⟨l,iW,hb⟩
 obtain⟨k,hk,hc⟩:=ht;rcases lK hk with⟨_,_,e⟩|⟨_,hk⟩
 ·simp[aY.live]at e
 exact⟨k,hk,hc⟩
def Rel.lE {g : aN} {w : World} {σ : ai} (h : Rel g w σ) (el : El) :
    Rel (g.push 0 none 0) w (σ++[.vec el []])/\gE σ g w (σ++[.vec el []]) (g.push 0 none 0) w:=by
 have hm:kH g w (g.push 0 none 0) w:=⟨fun b hb=>⟨hb,rfl⟩,Nat.le_succ _,fun l hl=>by simp[aN.push,gi hl]⟩;have hbase:∀ l,l<g.n->(g.push 0 none 0).base l=g.base l:=fun l hl=>by simp[aN.push,gi hl]
 have hnew:(g.push 0 none 0).base g.n=none:=by simp[aN.push]
 have hold:∀ l b,Live (σ++[.vec el []]) l->(g.push 0 none 0).base l=some b->Live σ l/\g.base l=some b:=fun l b hl hb=>by
  rcases oH hl with hl|rfl
  ·rw[hbase l (by rw[<-h.len];exact hl.lt)]at hb;exact⟨hl,hb⟩
  rw[h.len,hnew]at hb;cases hb
 refine⟨⟨by simp[aN.push,h.len],h.lt,fun l o' ho=>?_,fun l l' b hl hl' hb hb'=>h.inj l l' b (hold l b hl hb).1 (hold l' b hl' hb').1 (hold l b hl hb).2 (hold l' b hl' hb').2,
  fun l b hl hb hi=>h.qc l b (hold l b hl hb).1 (hold l b hl hb).2 hi,h.glob.mono hm.fN⟩,
  ⟨hm,bg _,rfl,rfl,rfl,fun _ _ _=>rfl,fun b hb hi=> .inl hi,fun b hb ht=>?_⟩⟩
 ·by_cases hl:l < σ.length
  ·rw[aI hl]at ho;have hl':l<g.n:=by rw[<-h.len];exact hl
   exact(h.ok l o' ho).step hm hl' (by simp[aN.push,gi hl']) (fun _ _=>rfl)
  have h1:=(aE.1 ho).1;simp at h1;have h2:l = σ.length:=ae;subst h2;simp at ho;subst ho;rw[h.len];exact⟨by simp[aN.push],aQ,.inl ⟨rfl,hnew,by simp[aN.push]⟩⟩
 obtain⟨l,hl,hb'⟩:=ht;exact⟨l,(hold l b hl hb').1,(hold l b hl hb').2⟩
def Rel.hold {g : aN} {w : World} {σ : ai} (h : Rel g w σ) :
    Rel (g.push 0 none 0) w (σ++[.resv])/\gE σ g w (σ++[.resv]) (g.push 0 none 0) w:=by
 have hm:kH g w (g.push 0 none 0) w:=⟨fun b hb=>⟨hb,rfl⟩,Nat.le_succ _,fun l hl=>by simp[aN.push,gi hl]⟩;have hbase:∀ l,l<g.n->(g.push 0 none 0).base l=g.base l:=fun l hl=>by simp[aN.push,gi hl]
 have hnew:(g.push 0 none 0).base g.n=none:=by simp[aN.push]
 have hold:∀ l b,Live (σ++[.resv]) l->(g.push 0 none 0).base l=some b->Live σ l/\g.base l=some b:=fun l b hl hb=>by
  rcases oH hl with hl|rfl
  ·rw[hbase l (by rw[<-h.len];exact hl.lt)]at hb;exact⟨hl,hb⟩
  rw[h.len,hnew]at hb;cases hb
 refine⟨⟨by simp[aN.push,h.len],h.lt,fun l o' ho=>?_,fun l l' b hl hl' hb hb'=>h.inj l l' b (hold l b hl hb).1 (hold l' b hl' hb').1 (hold l b hl hb).2 (hold l' b hl' hb').2,
  fun l b hl hb hi=>h.qc l b (hold l b hl hb).1 (hold l b hl hb).2 hi,h.glob.mono hm.fN⟩,
  ⟨hm,bg _,rfl,rfl,rfl,fun _ _ _=>rfl,fun b hb hi=> .inl hi,fun b hb ht=>?_⟩⟩
 ·by_cases hl:l < σ.length
  ·rw[aI hl]at ho;have hl':l<g.n:=by rw[<-h.len];exact hl
   exact(h.ok l o' ho).step hm hl' (by simp[aN.push,gi hl']) (fun _ _=>rfl)
  have h1:=(aE.1 ho).1;simp at h1;have h2:l = σ.length:=ae;subst h2;simp at ho;subst ho;rw[h.len];exact⟨by simp[aN.push],hnew,by simp[aN.push]⟩
 obtain⟨l,hl,hb'⟩:=ht;exact⟨l,(hold l b hl hb').1,(hold l b hl hb').2⟩
def Aa(w:World)(b i:Nat)(v:Value){c:Nat}(h:c≠b): (w.setCell ⟨b,i,none⟩ v).heap[c]? = w.heap[c]? :=
 Go.RowKit.Below.heap_setCell w ⟨b,i,none⟩ v c h
def Row.set{w:World}{b:Nat}{vs:Array Value}(h:Row w b vs)(i:Nat)(v:Value): Row (w.setCell ⟨b,i,none⟩ v) b (vs.setIfInBounds i v):=by
 obtain⟨T,fz,h1,h2⟩:=h;refine⟨T,fz,?_,fun j hj=>?_⟩
 ·simp[World.setCell,Array.getElem?_modify,h1]
 rw[World.frozen?_setCell];exact h2 j (by simpa using hj)
def setRow(w:World)(b:Nat): Nat->List Value->World
 | _,[]=>w
 | i,v::vs=>setRow (w.setCell ⟨b,i,none⟩ v) b (i+1) vs
def putRow(vs:Array Value): Nat->List Value->Array Value
 | _,[]=>vs
 | i,u::us=>putRow (vs.setIfInBounds i u) (i+1) us
def qY (w : World) (b i : Nat) (us : List Value) : (setRow w b i us).heap.size = w.heap.size /\ (setRow w b i us).os = w.os /\ (setRow w b i us).tape = w.tape /\
    (setRow w b i us).output=w.output/\ ∀ c,c≠b->(setRow w b i us).heap[c]? = w.heap[c]?:=by
 induction us generalizing w i with
 | nil=>exact⟨rfl,rfl,rfl,rfl,fun _ _=>rfl⟩
 | cons u us ih =>
   obtain⟨h1,h2,h3,h4,h5⟩:=ih (w.setCell ⟨b,i,none⟩ u) (i+1);exact⟨h1.trans (World.size_setCell ..),h2,h3,h4,fun c hc=>(h5 c hc).trans (Aa w b i u hc)⟩
def Row.setRow{w:World}{b:Nat}{vs:Array Value}(h:Row w b vs)(i:Nat)(us:List Value): Row (setRow w b i us) b (putRow vs i us):=by
 induction us generalizing w i vs with
 | nil=>exact h
 | cons u us ih=>exact ih (h.set i u) (i+1)
def Qr(w:World)(b i:Nat)(v:Value)(c:Nat): (w.setCell ⟨b,i,none⟩ v).shape? c=w.shape? c:=by
 by_cases h:c=b
 ·subst h;simp only[World.shape?,World.setCell,Array.getElem?_modify,if_true];cases w.heap[c]? with
  | none=>rfl
  | some o=>cases o<;>simp
 simp only[World.shape?,Aa w b i v h]
def uC(w:World)(b i:Nat)(us:List Value)(c:Nat): (setRow w b i us).shape? c=w.shape? c:=by
 induction us generalizing w i with
 | nil=>rfl
 | cons u us ih=>exact(ih (w.setCell ⟨b,i,none⟩ u) (i+1)).trans (Qr w b i u c)
def size_putRow(vs:Array Value)(i:Nat)(us:List Value): (putRow vs i us).size=vs.size:=by
 induction us generalizing vs i with
 | nil=>rfl
 | cons u us ih=>simp[putRow,ih]
def oI (vs : Array Value) (i : Nat) (us : List Value) (hi : i + us.length <= vs.size) (j : Nat) (d : Value) :
    (putRow vs i us).getD j d=if i<=j/\j<i+us.length then us.getD (j-i) d else vs.getD j d:=by
 induction us generalizing vs i with
 | nil=>simp[putRow];intro h1 h2;omega
 | cons u us ih =>
   simp only[aO]at hi;rw[putRow,ih (vs.setIfInBounds i u) (i+1) (by simp;omega)];by_cases h1:i+1<=j/\j<i+1+us.length
   ·rw[au h1,au (by simp only[aO];omega)];obtain⟨k,rfl⟩:∃ k,j=i+1+k:=⟨j-(i+1),ae⟩;rw[show i+1+k-(i+1)=k by omega,show i+1+k-i=k+1 by omega];simp
   rw[aj h1];by_cases h2:j=i
   ·subst h2;rw[au (by simp only[aO];omega)];have hlt:j<vs.size:=ae;simp[hlt]
   rw[aj (by simp only[aO];omega)];simp[Array.getElem?_setIfInBounds_ne (Ne.symm h2)]
inductive Out where
 | ret (a:AV)
 | panic (a:AV)
def A9(g:aN)(w:World): Out->Ending->Prop
 | .ret a,.returned v=>VR g w a v
 | .panic a,.panicked chain=> ∃ v,chain=[{ v,recovered:=false }]/\VR g w a v
 | _,_=>False
def Has (P : Program) (f : FuncId) : Prop := ∃ fn, P.funcs[f]? = some fn ∧ fn.body.isSome = true ∧ (fn.name == "runtime.NumGoroutine") = false
def cE(P:Program)(f:FuncId)(args:List AV)(σ : ai)(R:Out->ai->Prop): Prop :=
 Has P f/\ ∀(g:aN) (w:World) (vs:Array Value),Rel g w σ->args.length=vs.size->(∀ i,i<args.length->VR g w (args.getD i .undef) (vs.getD i Go.undef)) ->
  Calls P f vs w fun e w'=> ∃ out g' σ',Rel g' w' σ'/\gE σ g w σ' g' w'/\A9 g' w' out e/\R out σ'
def cE.mono{P:Program}{f:FuncId}{args:List AV}{σ : ai}{R R':Out->ai->Prop}(h:cE P f args σ R)(hr:∀ o σ',R o σ'->R' o σ'): cE P f args σ R' :=
 ⟨h.1,fun g w vs h1 h2 h3=>(h.2 g w vs h1 h2 h3).mono fun _ _ ⟨out,g',σ',a,b,c,d⟩=>⟨out,g',σ',a,b,c,hr _ _ d⟩⟩
def wQ(P:Program)(l:Nat)(args:List AV)(σ : ai)(R:Out->ai->Prop): Prop :=
 (∃ nt e ps ca cb st pe, σ[l]? = some (.loop nt e ps ca cb st pe)) /\ ∀ (g : aN) (w : World) (vs : Array Value) (b : Nat), Rel g w σ -> g.base l = some b -> args.length = vs.size -> (∀ i, i < args.length -> VR g w (args.getD i .undef) (vs.getD i Go.undef)) ->
   ∃ fn tmps assign body,(Instr.yield b vs).run P w = .ok (.round b fn tmps assign body) w/\RoundIn Fence.wide 0 P b fn tmps assign body w fun en w'=> ∃ out g' σ',Rel g' w' σ'/\gE σ g w σ' g' w'/\A9 g' w' out en/\R out σ'
def wQ.mono{P:Program}{l:Nat}{args:List AV}{σ : ai}{R R':Out->ai->Prop}(h:wQ P l args σ R)(hr:∀ o σ',R o σ'->R' o σ'): wQ P l args σ R':=by
 refine⟨h.1,fun g w vs b h1 h2 h3 h4=>?_⟩;obtain⟨fn,tmps,ca,cb,r1,r2⟩:=h.2 g w vs b h1 h2 h3 h4;exact⟨fn,tmps,ca,cb,r1,r2.mono fun _ _ ⟨out,g',σ',a,b,c,d⟩=>⟨out,g',σ',a,b,c,hr _ _ d⟩⟩
def kq(P:Program)(f:FuncId)(args:List AV)(σ : ai)(r:AV): Prop:=cE P f args σ fun o σ'=>o = .ret r/\σ' = σ
abbrev Env:=Nat->AV
inductive AX where
 | t (n:Nat)
 | c (a:AV)
def AX.ev(e:Env): AX->AV
 | .t n=>e n
 | .c a=>a
def eV(e:Env)(d:Option Nat)(a:AV): Env :=
 match d with
 | some d=>fun n=>if n=d then a else e n
 | none=>e
def fM: List AV->Nat->List AV->List AV
 | cs,_,[]=>cs
 | cs,i,a::az=>fM (cs.set i a) (i+1) az
inductive Kd where
 | b|i|s
deriving DecidableEq
def Rx: Kd->AV->AV->Option Bool
 | .b,.bool a,.bool b=>some (a==b)
 | .i,.int k a,.int k' b=>if k=k' then some (a==b)else none
 | .s,.str a,.str b=>some (a==b)
 | _,_,_=>none
def jc: List Kd->List AV->List AV->Option Bool
 | [],[],[]=>some true
 | k :: ks, a :: az, b :: bs => match Rx k a b, jc ks az bs with
   | some x,some y=>some (x && y)
   | _,_=>none
 | _,_,_=>none
inductive NK where
 | p|i|f|m
deriving DecidableEq
def qd: NK->AV->Option Bool
 | .p,.gO=>some true
 | .p,.ref .. | .p,.fh .. | .p,.fG ..=>some false
 | .i,.jR=>some true
 | .i,.kZ ..=>some false
 | .f,.nQ=>some true
 | .f,.fn ..=>some false
 | .m,.iS=>some true
 | .m,.mp ..=>some false
 | _,_=>none
def pH(k:NK)(x y:AV): Option Bool :=
 match qd k x,qd k y with
 | some true,some b=>some b
 | some false,some true=>some false
 | _,_=>none
def AV.obj: AV->Option Nat
 | .ref l _=>some l
 | .fG _ l _ _ _=>some l
 | .own _ l _ _ _=>some l
 | .mg _ (.ref l _) _=>some l
 | .mg _ (.fG _ l _ _ _) _=>some l
 | .mp l=>some l
 | _=>none
def AV.adv(d:Nat): AV->AV
 | .ref l o=> .ref l (o+d)
 | .fh el y o=> .fh el y (o+d)
 | .fG el l m i o=> .fG el l m i (o+d)
 | x=>x
def AV.ptr: AV->Bool
 | .ref .. | .fh .. | .fG ..=>true
 | _=>false
def aY.like: aY->aY->Prop
 | .dn T el xs,o=> ∃ ys,o = .dn T el ys/\ys.length=xs.length
 | _,_=>True
def Ht(P:Program)(n:FuncId)(args:List AV)(σ : ai)(K:AV->ai->Prop): Prop:=match args with
 | a::_=> ∃ l ob nO r,a.obj=some l/\σ[l]? = some ob/\ob.like nO/\cE P n args σ (fun o σ'=>o = .ret r/\σ' = σ.set l nO)/\K r (σ.set l nO)
 | []=>False
inductive gG where
 | Ov (el:El) (lo:Bool)
 | C2
 | vM (kd:Option IntKind) (ok:Bool) (zero:AV)
 | wR (kd:Option IntKind)
 | M1
 | ug (el:El) (n:Nat) (lo hi:Bool)
 | copy (el:El)
 | inv (name:String)
 | Eo (el:El)
 | yW (el:El) (lo:Bool)
 | xJ (el:El)
 | cw (n:FuncId) (k:Nat) (jC:List (Bool × Nat))
 | Ry (neg:Bool)
 | Rz (T:TypeId) (ok:Bool) (zero:AV)
 | s2a (n:Nat)
 | ahf (kd:Option IntKind) (zero:AV)
 | ahg
 | clr (el:El) (zero:AV)
 | pc (n:FuncId)
 | ZU
 | A_ (neg:Bool)
inductive bx where
 | ex (o:gG) (xs:List AX)
 | mv (x:AX)
 | pick (c a b:AX)
 | alloc (T:Option TypeId) (cs:List AV)
 | box (x:AX)
 | build (zero:List AV) (parts:List (Nat × Nat × AX))
 | mj (mt:Bool) (el:El) (zero:AV) (n:Nat) (parts:List (Nat × AX))
 | load (ag:Bool) (n:Nat) (x:AX)
 | store (n:Nat) (x v:AX)
 | tG (x:AX)
 | bin (op:BinOp) (x y:AX)
 | nw (neg:Bool) (ag:Bool) (ks:List Kd) (x y:AX)
 | un (op:UnOp) (x:AX)
 | jX (k:IntKind) (x:AX)
 | VQ (x:AX)
 | ZV (x:AX)
 | yX (x:AX)
 | wC (t:TypeId) (x:AX)
 | tU (f:Fn) (first cap:List AX)
 | yY (x:AX) (lo hi:Option AX)
 | pC (el:El) (x:AX) (lo hi:Option AX)
 | rT (off:Nat) (x:AX)
 | field (ag:Bool) (off n:Nat) (x:AX)
 | fA (el:El) (arr:Option Nat) (x i:AX)
 | oW (x i:AX)
 | yZ (el:El) (ln:Nat) (x i:AX)
 | ext (x:AX) (i:Nat)
 | call (q:Bool) (f:AX) (args:List AX)
 | tV (f:AX) (args:List AX)
 | len (s:Bool) (x:AX)
 | app (T:Option TypeId) (el:El) (x y:AX)
 | Ep (el:El) (x:AX)
 | y3 (T:TypeId) (x n:AX)
 | KX (x:AX)
 | KY (u:TypeId) (x:AX)
 | Il (neg:Bool) (x y:AX)
 | Hu (f:FuncId) (x:AX)
 | min (x:AX) (xs:List AX)
 | max (x:AX) (xs:List AX)
 | oX (el:El) (zero:AV) (n c:AX)
 | panic (x:AX)
 | lE (el:El)
 | hold
 | y4 (T:TypeId) (x:AX)
 | lC (k:Nat) (T:Option TypeId) (cs:List AV)
 | rU (k:Nat) (T:Option TypeId) (el:El) (x y:AX)
 | Jj (x:AX)
 | Jk (x:AX)
 | n_ (neg:Bool) (k:NK) (x y:AX)
 | rV (k:Nat) (el:El) (zero:AV) (n c:AX)
def dw(k:IntKind)(n:Int): Int:=k.wrap n
def od(op:BinOp)(k:IntKind)(x y:Int): Int :=
 let a:=BitVec.ofInt k.bits x
 let b:=BitVec.ofInt k.bits y
 match op with
 | .and=>k.wrap (a &&& b).toNat
 | .or=>k.wrap (a ||| b).toNat
 | .xor=>k.wrap (a ^^^ b).toNat
 | _=>k.wrap (a &&& ~~~b).toNat
def kJ(op:BinOp)(x y:AV)(K:AV->Prop): Prop :=
 match op,x,y with
 | .shl,.int k a,.int _ b=>0<=b/\K (.int k (dw k (a*2 ^ (Nat.min b.toNat k.bits))))
 | .shr,.int k a,.int _ b=>0<=b/\K (.int k (a.fdiv (2 ^ (Nat.min b.toNat k.bits))))
 | .add,.int k a,.int k' b=>k=k'/\K (.int k (dw k (a+b)))
 | .sub,.int k a,.int k' b=>k=k'/\K (.int k (dw k (a-b)))
 | .mul,.int k a,.int k' b=>k=k'/\K (.int k (dw k (a*b)))
 | .quo,.int k a,.int k' b=>k=k'/\b≠0/\K (.int k (dw k (a.tdiv b)))
 | .rem,.int k a,.int k' b=>k=k'/\b≠0/\K (.int k (a.tmod b))
 | .and,.int k a,.int k' b=>k=k'/\K (.int k (od .and k a b))
 | .or,.int k a,.int k' b=>k=k'/\K (.int k (od .or k a b))
 | .xor,.int k a,.int k' b=>k=k'/\K (.int k (od .xor k a b))
 | .andNot,.int k a,.int k' b=>k=k'/\K (.int k (od .andNot k a b))
 | .eql,.int k a,.int k' b=>k=k'/\K (.bool (a==b))
 | .neq,.int k a,.int k' b=>k=k'/\K (.bool (!(a==b)))
 | .lss,.int k a,.int k' b=>k=k'/\K (.bool (decide (a<b)))
 | .leq,.int k a,.int k' b=>k=k'/\K (.bool (decide (a<=b)))
 | .gtr,.int k a,.int k' b=>k=k'/\K (.bool (decide (b<a)))
 | .geq,.int k a,.int k' b=>k=k'/\K (.bool (decide (b<=a)))
 | .add,.str a,.str b=>((a.length+b.length:Nat):Int)<=IntKind.i64.max/\K (.str (a++b))
 | .eql,.str a,.str b=>K (.bool (a==b))
 | .neq,.str a,.str b=>K (.bool (!(a==b)))
 | .lss,.str a,.str b=>K (.bool (Op.bytesLess a b))
 | .leq,.str a,.str b=>K (.bool (Op.bytesLess a b || a==b))
 | .gtr,.str a,.str b=>K (.bool (!(Op.bytesLess a b || a==b)))
 | .geq,.str a,.str b=>K (.bool (!Op.bytesLess a b))
 | _,_,_=>False
def Ff(op:UnOp)(x:AV)(K:AV->Prop): Prop :=
 match op,x with
 | .not,.bool b=>K (.bool (!b))
 | .neg,.int k n=>K (.int k (dw k (0-n)))
 | .xor,.int k n=>K (.int k (od .xor k (if k.signed then -1 else k.max) n))
 | _,_=>False
def bound(x:Option AV)(d:Nat)(y:Nat)(K:Nat->Prop): Prop :=
 match x with
 | none=>K d
 | some (.int _ i)=>0<=i/\i<=y/\K i.toNat
 | _=>False
def partOf(el:El)(x:AV)(off:Nat)(ag:Bool)(n:Nat)(K:AV->Prop): Prop :=
 if off=0/\n=el.sz/\ag=el.ag then K x
 else off+n<=el.sz/\match x with
  | .agg cs=>K (if ag then .agg ((cs.drop off).take n)else cs.getD off .undef)/\(ag=false->n=1)
  | _=>False
def ij(σ : ai)(ag:Bool)(n:Nat)(p:AV)(K:AV->Prop): Prop :=
 match p with
 | .ref l off => match σ[l]? with
   | some (.bY _ cs)=>off+n<=cs.length/\(ag=false->n=1)/\K (if ag then .agg ((cs.drop off).take n)else cs.getD off .undef)
   | _=>False
 | .fh el x off=>partOf el x off ag n K
 | .fG el l m i off => match σ[l]? with
   | some (.dn T bD xs)=>bD=el/\m=xs.length/\i<xs.length/\partOf el (xs.getD i .undef) off ag n K
   | _=>False
 | _=>False
def oe(σ : ai)(n:Nat)(p v:AV)(K:ai->Prop): Prop :=
 v.cells.length=n/\v.cells.all AV.scalar=true /\
 match p with
 | .ref l off => match σ[l]? with
   | some (.bY T cs)=>off+n<=cs.length/\K (σ.set l (.bY T (fM cs off v.cells)))
   | _=>False
 | .fG el l m i off => match σ[l]? with
   | some (.dn T bD xs) => bD = el /\ m = xs.length /\ i < xs.length /\ off + n <= el.sz /\ (el.ag = false -> v.fits el = true) /\
      K (σ.set l (.dn T el (xs.set i (if el.ag then .agg (fM (xs.getD i .undef).cells off v.cells)else v))))
   | _=>False
 | _=>False
def gN(σ : ai)(el:El)(x:AV)(K:List AV->Prop): Prop :=
 match x with
 | .aV=>K []
 | .aR _ bD xs=>bD=el/\K xs
 | .own bD l m lo n => bD = el /\ match σ[l]? with
   | some (.dn T bN xs)=>bN=el/\m=xs.length/\K ((xs.drop lo).take n)
   | _=>False
 | .str s=>el=⟨false,1⟩/\K (s.map fun b=> .int .u8 b.toNat)
 | .mg bD p n=>bD=el/\el=⟨false,1⟩/\ij σ true n p fun v=>K v.cells
 | _=>False
def gH(n:Nat)(el:El): Prop:=n*(el.sz+1)<=2^40
def oY(σ : ai)(T:Option TypeId)(el:El)(x y:AV)(K:AV->ai->Prop): Prop :=
 gN σ el y fun ys=>ys.all (fun a=>a.fits el)=true /\
 match x with
 | .aV=>if ys.length=0 then K .aV σ else gH ys.length el/\K (.own el σ.length ys.length 0 ys.length) (σ++[.dn T el ys])
 | .aR true bD xs => bD = el /\ if ys.length = 0 then K (.aR true el xs) σ else
    gH (xs.length+ys.length) el/\K (.own el σ.length (xs.length+ys.length) 0 (xs.length+ys.length)) (σ++[.dn T el (xs++ys)])
 | .own bD l m lo n => bD = el /\ match σ[l]? with
   | some (.dn T' bN xs) => (T' = none \/ T' = T) /\ bN = el /\ m = xs.length /\ lo = 0 /\ n = xs.length /\ gH (xs.length + ys.length) el /\
      K (.own el l (xs.length+ys.length) 0 (xs.length+ys.length)) (σ.set l (.dn T' el (xs++ys)))
   | _=>False
 | _=>False
def Fg(op:Bool)(x y:AV)(K:AV->Prop): Prop :=
 match x,y with
 | .int k a,.int _ b=>K (.int k (if op then(if b<a then b else a)else (if b>a then b else a)))
 | _,_=>False
def tH(op:Bool)(x:AV): List AV->(AV->Prop)->Prop
 | [],K=>K x
 | y::ys,K=>Fg op x y fun z=>tH op z ys K
def nD(zero:List AV)(e:Env): List (Nat × Nat × AX)->(List AV->Prop)->Prop
 | [],K=>K zero
 |(off,n,x)::r,K=>(x.ev e).cells.length=n/\(x.ev e).cells.all AV.scalar=true/\off+n<=zero.length/\nD (fM zero off (x.ev e).cells) e r K
def mI(el:El)(xs:List AV)(e:Env): List (Nat × AX)->(List AV->Prop)->Prop
 | [],K=>K xs
 |(i,x)::r,K=>(x.ev e).fits el=true/\i<xs.length/\mI el (xs.set i (x.ev e)) e r K
def ajD(el:El): AV->Bool
 | .aV=>true
 | .aR true bD xs=>bD==el && xs.isEmpty
 | _=>false
def ajE(el:El): AV->Option (List AV)
 | .aV=>some []
 | .aR _ bD xs=>if bD=el then some xs else none
 | _=>none
def Rc: AV->AV->Option Bool
 | .str a,.str b=>some (a==b)
 | .int k a,.int k' b=>if k=k' then some (a==b)else none
 | _,_=>none
def lM(k:AV): List (AV × AV)->Nat->Option (Option (Nat × AV))
 | [],_=>some none
 | (q, v) :: r, i => match Rc k q with
   | some true=>some (some (i,v))
   | some false=>lM k r (i+1)
   | none=>none
def wS(k v:AV)(es:List (AV × AV)): Option (List (AV × AV)):=match lM k es 0 with
 | some (some (i,_))=>some (es.set i (k,v))
 | some none=>some (es++[(k,v)])
 | none=>none
def AV.pI: Option IntKind->AV->Bool
 | none,.str _=>true
 | some k,.int k' _=>k==k'
 | _,_=>false
def ahh(P:Program)(t:TypeId)(name:String): Option FuncId:=match P.info? t,P.underlying t with
 | some i, some (.pointer _) => match i.methods.find? (·.name == name) with
   | some m => match m.func with
     | some (f,true)=>if m.path.isEmpty then some f else none
     | _=>none
   | none=>none
 | _,_=>none
def mo(lo:Option AV)(hi mx:AV)(cap:Nat)(K:Nat->Nat->Nat->Prop): Prop :=
 bound (some mx) 0 cap fun m=>bound (some hi) 0 m fun h=>bound lo 0 h fun l=>K l h m
def Ba(σ : ai)(el:El)(x:AV)(lo:Option AV)(hi mx:AV)(K:AV->ai->Prop): Prop :=
 match x with
 | .aV=>mo lo hi mx 0 fun _ _ _=>K .aV σ
 | .aR _ bD xs=>bD=el/\mo lo hi mx xs.length fun l h m=>K (.aR (h==m) el ((xs.drop l).take (h-l))) σ
 | .own bD l0 m0 o n => bD = el /\ match σ[l0]? with
   | some (.dn _ bN xs) => bN = el /\ m0 = xs.length /\ o + n <= m0 /\ mo lo hi mx n fun l h m =>
      if m=l then K (.aR true el []) σ else h=m/\K (.aR true el ((xs.drop (o+l)).take (h-l))) (σ.set l0 .dead)
   | _=>False
 | _=>False
def wD(el:El)(x:AV)(lo:Option AV)(hi mx:AV)(K:AV->Prop): Prop :=
 match x with
 | .aV=>mo lo hi mx 0 fun _ _ _=>K .aV
 | .aR _ bD xs=>bD=el/\mo lo hi mx xs.length fun l h m=>K (.aR (h==m) el ((xs.drop l).take (h-l)))
 | .own bD _ _ _ _=>bD=el/\mo lo hi mx 0 fun _ _ _=>K (.aR true el [])
 | _=>False
def BU(σ : ai)(el:El)(x:AV)(ys:List AV)(K:AV->ai->Prop): Prop :=
 match x with
 | .aV=>K (.int .i64 0) σ
 | .aR _ bD []=>bD=el/\K (.int .i64 0) σ
 | .mg bD p n=>bD=el/\el=⟨false,1⟩/\oe σ (min ys.length n) p (.agg (ys.take n)) fun σ'=>K (.int .i64 (min ys.length n:Nat)) σ'
 | .own bD l m o n => bD = el /\ match σ[l]? with
   | some (.dn T bN xs)=>bN=el/\m=xs.length/\o+n<=m/\K (.int .i64 (min ys.length n:Nat)) (σ.set l (.dn T el (fM xs o (ys.take n))))
   | _=>False
 | _=>False
def C4(σ : ai)(el:El)(x y:AV)(K:AV->ai->Prop): Prop :=
 gN σ el y fun ys=>ys.all (fun a=>a.fits el)=true/\BU σ el x ys K
def C5(σ : ai)(el:El)(x y:AV)(K:AV->ai->Prop): Prop :=
 match x with
 | .own bD l m (lo + 1) n => bD = el /\ gN σ el y fun ys => ys.all (fun a => a.fits el) = true /\ match σ[l]? with
   | some (.dn _ bN xs) => bN = el /\ m = xs.length /\ lo + 1 + n = m /\ gH (n + ys.length) el /\
      K (.own el σ.length (n+ys.length) 0 (n+ys.length)) (σ.set l .dead++[.vec el (xs.drop (lo+1)++ys)])
   | _=>False
 | x=>oY σ none el x y K
def Hv(σ : ai)(el:El)(x y:AV)(K:AV->Prop): Prop :=
 gN σ el y fun ys=>ys.all (fun a=>a.fits el)=true/\ys.length≠0/\match x with
  | .aV=>gH ys.length el/\K (.aR false el ys)
  | .aR true bD xs=>bD=el/\gH (xs.length+ys.length) el/\K (.aR false el (xs++ys))
  | _=>False
def C6(el:El)(n:Nat)(p:AV)(lo hi:Option AV)(K:AV->Prop): Prop :=
 p.ptr=true/\bound hi n n fun h=>bound lo 0 h fun l=>K (if h=l then .aR false el []else .mg el (p.adv (l*el.sz)) (h-l))
def uD(σ : ai)(x:AV)(K:Bool->Prop): Prop:=match x with
 | .aV=>K true
 | .aR _ _ (_::_)=>K false
 | .mg ..=>K false
 | .own _ l m _ n => match σ[l]? with
   | some (.dn _ _ xs)=>m=xs.length/\0<n/\K false
   | _=>False
 | _=>False
mutual
def AV.nP(m:Nat): AV->Bool
 | .own _ l _ _ _=> !(l==m)
 | .ref l _=> !(l==m)
 | .fG _ l _ _ _=> !(l==m)
 | .mp l=> !(l==m)
 | .qV l=> !(l==m)
 | .mg _ p _=>AV.nP m p
 | .agg cs=>AV.uE m cs
 | .bU cs=>AV.uE m cs
 | .aR _ _ xs=>AV.uE m xs
 | .fh _ x _=>AV.nP m x
 | .fn _ a b=>AV.uE m a && AV.uE m b
 | .kZ _ v=>AV.nP m v
 | .undef | .bool _ | .int .. | .str _ | .aV | .gO | .nQ | .jR | .iS | .nZ=>true
def AV.uE(m:Nat): List AV->Bool
 | []=>true
 | a::az=>AV.nP m a && AV.uE m az
end
def aY.nP(m:Nat): aY->Bool
 | .bY _ cs=>AV.uE m cs
 | .dn _ _ xs=>AV.uE m xs
 | .map es=>es.all fun p=>p.1.nP m && p.2.nP m
 | .loop nt e ..=>(List.range nt).all fun t=>(e t).nP m
 | .jA .. | .dead | .resv=>true
def KZ(m:Nat)(σ : ai): Bool:=σ.all (aY.nP m)
def Hw(σ : ai)(x:AV)(K:Bool->Prop): Prop:=match x with
 | .aR _ _ []=>K true/\K false
 | x=>uD σ x K
def Xy(az:List AV)(σ σ2:ai)(p:AV): Prop:=match p with
 | .ref m 0=>σ2[m]? = some .resv->σ[m]? = some .resv/\AV.uE m az=true/\KZ m σ = true
 | _=>False
def og(az:List AV)(σ σ2:ai): List (Bool × Nat)->List AV->Prop
 | [],_=>True
 |(ag,n)::r,p::ps=>(p = .gO\/if n=0 then Xy az σ σ2 p else ∃ v,ij σ ag n p (fun u=>u=v)/\ij σ2 ag n p (fun u=>u=v))/\og az σ σ2 r ps
 | _::_,[]=>False
def y5(T:TypeId)(ok:Bool)(z x:AV)(K:AV->Prop): Prop:=match x with
 | .kZ t v=>if t=T then K (if ok then .bU [v,.bool true]else v)else ok=true/\K (.bU [z,.bool false])
 | .jR=>ok=true/\K (.bU [z,.bool false])
 | _=>False
def Jl(σ : ai)(n:Nat)(x:AV)(K:AV->ai->Prop): Prop:=match x with
 | .aR _ bD xs=>bD=⟨false,1⟩/\0<n/\n<=xs.length/\K (.fh ⟨true,n⟩ (.agg (xs.take n)) 0) σ
 | .own bD l m o k => bD = ⟨false, 1⟩ /\ match σ[l]? with
   | some (.dn _ bN xs)=>bN=⟨false,1⟩/\m=xs.length/\o+k<=m/\0<n/\n<=k/\K (.fh ⟨true,n⟩ (.agg ((xs.drop o).take n)) 0) (σ.set l .dead)
   | _=>False
 | _=>False
def C7(σ : ai)(kd:Option IntKind)(zero x k:AV)(K:AV->ai->Prop): Prop:=match x with
 | .mp l => k.pI kd = true /\ match σ[l]? with
   | some (.map es) => match lM k es 0 with
     | some (some (i,v))=>K (.bU [v,.int .i64 i]) σ
     | some none=>K (.bU [zero,.int .i64 es.length]) (σ.set l (.map (es++[(k,zero)])))
     | none=>False
   | _=>False
 | _=>False
def C8(σ : ai)(x s v:AV)(K:ai->Prop): Prop:=match x,s with
 | .mp l, .int .i64 z => match σ[l]? with
   | some (.map es)=>0<=z/\z.toNat<es.length/\K (σ.set l (.map (es.set z.toNat ((es.getD z.toNat default).1,v))))
   | _=>False
 | _,_=>False
def Jm(σ : ai)(el:El)(zero x:AV)(K:ai->Prop): Prop:=match x with
 | .aV=>K σ
 | .aR _ _ []=>K σ
 | .own bD l m o n => bD = el /\ zero.fits el = true /\ match σ[l]? with
   | some (.dn T bN xs)=>bN=el/\m=xs.length/\o+n<=m/\K (σ.set l (.dn T el (fM xs o (List.replicate n zero))))
   | _=>False
 | _=>False
def y6(σ : ai)(x:AV)(K:AV->ai->Prop): Prop:=match x with
 | .aV=>K .aV σ
 | .aR f el xs=>K (.aR f el xs) σ
 | .own el l m lo n => match σ[l]? with
   | some (.dn _ bD xs)=>bD=el/\m=xs.length/\lo+n<=m/\K (.aR false el ((xs.drop lo).take n)) (σ.set l .dead)
   | _=>False
 | _=>False
def pcK(K Kp:AV->Prop): Out->Prop
 | .ret r=>K r
 | .panic v=>Kp v
def gG.run(P:Program)(o:gG)(vs:List AV)(σ : ai)(K Kp:AV->ai->Prop): Prop :=
 match o,vs with
 | .Ov el false,[x,hi,mx]=>Ba σ el x none hi mx K
 | .Ov el true,[x,lo,hi,mx]=>Ba σ el x (some lo) hi mx K
 | .C2,[]=>K (.mp σ.length) (σ++[.map []])
 | .vM kd ok zero,[.iS,k]=>k.pI kd=true/\K (if ok then .bU [zero,.bool false]else zero) σ
 | .vM kd ok zero, [.mp l, k] => k.pI kd = true /\ match σ[l]? with
   | some (.map es) => match lM k es 0 with
     | some (some (_,v))=>K (if ok then .bU [v,.bool true]else v) σ
     | some none=>K (if ok then .bU [zero,.bool false]else zero) σ
     | none=>False
   | _=>False
 | .wR kd, [.mp l, k, v] => k.pI kd = true /\ match σ[l]? with
   | some (.map es) => match wS k v es with
     | some es'=>K (.bU []) (σ.set l (.map es'))
     | none=>False
   | _=>False
 | .M1,[.iS]=>K (.int .i64 0) σ
 | .M1, [.mp l] => match σ[l]? with
   | some (.map es)=>K (.int .i64 es.length) σ
   | _=>False
 | .ug el n false false,[p]=>C6 el n p none none fun v=>K v σ
 | .ug el n true false,[p,a]=>C6 el n p (some a) none fun v=>K v σ
 | .ug el n false true,[p,b]=>C6 el n p none (some b) fun v=>K v σ
 | .ug el n true true,[p,a,b]=>C6 el n p (some a) (some b) fun v=>K v σ
 | .copy el,[x,y]=>C4 σ el x y K
 | .Eo el,[x,y]=>C5 σ el x y K
 | .xJ el,[x,y]=>Hv σ el x y fun v=>K v σ
 | .Ry neg,[x]=>uD σ x fun r=>K (.bool (if neg then !r else r)) σ
 | .cw n k jC,x::vs=> ∃ r σ2,cE P n ((x::vs).take k) σ (fun o σ'=>o = .ret r/\σ' = σ2)/\og ((x::vs).take k) σ σ2 jC ((x::vs).drop k)/\K r σ2
 | .yW el false,[x,hi,mx]=>wD el x none hi mx fun v=>K v σ
 | .yW el true,[x,lo,hi,mx]=>wD el x (some lo) hi mx fun v=>K v σ
 | .inv name, .kZ t v :: r => match ahh P t name with
   | some f => cE P f (v :: r) σ fun
     | .ret r,σ'=>K r σ'
     | .panic r,σ'=>Kp r σ'
   | none=>False
 | .Rz T ok z,[x]=>y5 T ok z x fun v=>K v σ
 | .s2a n,[x]=>Jl σ n x K
 | .ahf kd z,[x,k]=>C7 σ kd z x k K
 | .ahg,[x,s,v]=>C8 σ x s v fun σ'=>K (.bU []) σ'
 | .clr el z,[x]=>Jm σ el z x fun σ'=>K (.bU []) σ'
 | .pc n,vs=> ∃ o,(∀ s,cE P n vs s fun o' s'=>o'=o/\s'=s)/\pcK (fun r=>K r σ) (fun v=> ∀ s,Kp v s) o
 | .ZU,[x]=>y6 σ x K
 | .A_ neg,[x]=>Hw σ x fun r=>K (.bool (if neg then !r else r)) σ
 | _,_=>False
def bx.run(P:Program)(o:bx)(e:Env)(σ : ai)(K:AV->ai->Prop)(Kp:AV->ai->Prop): Prop :=
 match o with
 | .ex o xs=>o.run P (xs.map (AX.ev e)) σ K Kp
 | .mv x=>K (x.ev e) σ
 | .pick c a b => match c.ev e with
   | .bool t=>K (if t then a.ev e else b.ev e) σ
   | _=>False
 | .alloc T cs=>K (.ref σ.length 0) (σ++[.bY T cs])
 | .box x=>(x.ev e).cells.all AV.scalar=true/\K (.ref σ.length 0) (σ++[.cells (x.ev e).cells])
 | .build zero parts=>nD zero e parts fun cs=>K (.agg cs) σ
 | .mj mt el zero n parts => mI el (List.replicate n zero) e parts fun xs =>
    if mt then K (.own el σ.length n 0 n) (σ++[.vec el xs])else K (.aR true el xs) σ
 | .load ag n x=>ij σ ag n (x.ev e) fun v=>K v σ
 | .store n x v=>oe σ n (x.ev e) (v.ev e) fun σ'=>K (.bU []) σ'
 | .tG x => match x.ev e with
   | .ref .. | .fh .. | .fG .. | .kZ .. | .fn (.func _) _ _ | .qV _=>K (x.ev e) σ
   | _=>False
 | .bin op x y=>kJ op (x.ev e) (y.ev e) fun v=>K v σ
 | .nw neg ag ks x y => match (if ag then (match x.ev e, y.ev e with | .agg az, .agg bs => jc ks az bs | _, _ => none) else jc ks [x.ev e] [y.ev e]) with
   | some b=>K (.bool (if neg then !b else b)) σ
   | none=>False
 | .un op x=>Ff op (x.ev e) fun v=>K v σ
 | .jX k x => match x.ev e with
   | .int _ n=>K (.int k (dw k n)) σ
   | _=>False
 | .VQ x => match x.ev e with
   | .str s=>K (.str s) σ
   | _=>False
 | .ZV x => match x.ev e with
   | .str s=>s.length<=2^40/\K (.own ⟨false,1⟩ σ.length s.length 0 s.length) (σ++[.vec ⟨false,1⟩ (s.map fun b=> .int .u8 b.toNat)])
   | _=>False
 | .yX x=>(match x.ev e with | .str _=>False|_=>True)/\gN σ ⟨false,1⟩ (x.ev e) fun xs=> ∃ s:List UInt8,xs=s.map (fun b=>AV.int .u8 b.toNat)/\K (.str s) σ
 | .wC t x=>K (.kZ t (x.ev e)) σ
 | .tU f first cap=>K (.fn f (first.map (AX.ev e)) (cap.map (AX.ev e))) σ
 | .yY x lo hi => match x.ev e with
   | .str s=>bound (hi.map (AX.ev e)) s.length s.length fun h=>bound (lo.map (AX.ev e)) 0 h fun l=>K (.str ((s.drop l).take (h-l))) σ
   | _=>False
 | .pC el x lo hi => match x.ev e with
   | .aV=>bound (hi.map (AX.ev e)) 0 0 fun h=>bound (lo.map (AX.ev e)) 0 h fun _=>K .aV σ
   | .aR _ bD xs=>bD=el/\bound (hi.map (AX.ev e)) xs.length xs.length fun h=>bound (lo.map (AX.ev e)) 0 h fun l=>K (.aR false el ((xs.drop l).take (h-l))) σ
   | .own bD l m o n => bD = el /\ match σ[l]? with
     | some (.dn T bN xs)=>bN=el/\m=xs.length/\o+n<=m/\bound (hi.map (AX.ev e)) n n fun h=>bound (lo.map (AX.ev e)) 0 h fun k=>K (.own el l m (o+k) (h-k)) σ
     | _=>False
   | _=>False
 | .rT off x => match x.ev e with
   | .ref l o=>K (.ref l (o+off)) σ
   | .fh el y o=>K (.fh el y (o+off)) σ
   | .fG el l m i o=>K (.fG el l m i (o+off)) σ
   | _=>False
 | .field ag off n x => match x.ev e with
   | .agg cs=>off+n<=cs.length/\(ag=false->n=1)/\K (if ag then .agg ((cs.drop off).take n)else cs.getD off .undef) σ
   | _=>False
 | .fA el arr x i => match i.ev e with
   | .int _ k => match arr, x.ev e with
     | none,.aR _ bD xs=>bD=el/\0<=k/\k<xs.length/\K (.fh el (xs.getD k.toNat .undef) 0) σ
     | none, .own bD l m o n => bD = el /\ 0 <= k /\ k < n /\ match σ[l]? with
       | some (.dn T bN xs)=>bN=el/\m=xs.length/\K (.fG el l m (o+k.toNat) 0) σ
       | _=>False
     | some n,.ref l o=>0<=k/\k<n/\K (.ref l (o+k.toNat*el.sz)) σ
     | some n,.fh bD y o=>0<=k/\k<n/\K (.fh bD y (o+k.toNat*el.sz)) σ
     | some n,.fG bD l m j o=>0<=k/\k<n/\K (.fG bD l m j (o+k.toNat*el.sz)) σ
     | _,_=>False
   | _=>False
 | .oW x i => match x.ev e, i.ev e with
   | .str s,.int _ k=>0<=k/\k<s.length/\K (.int .u8 (s.getD k.toNat 0).toNat) σ
   | _,_=>False
 | .yZ el ln x i => match x.ev e, i.ev e with
   | .agg cs, .int _ k => 0 <= k /\ k < ln /\ (k.toNat * el.sz + el.sz <= cs.length) /\ (el.ag = false -> el.sz = 1) /\
      K (if el.ag then .agg ((cs.drop (k.toNat*el.sz)).take el.sz)else cs.getD (k.toNat*el.sz) .undef) σ
   | _,_=>False
 | .ext x i => match x.ev e with
   | .bU vs=>i<vs.length/\K (vs.getD i .undef) σ
   | _=>False
 | .call q f args => match f.ev e with
   | .fn (.func n) first cap =>
     if q then ∃ r,(∀ τ,kq P n (first++args.map (AX.ev e)++cap) (σ++ τ) r)/\K r σ
     else cE P n (first++args.map (AX.ev e)++cap) σ fun
      | .ret r,σ'=>K r σ'
      | .panic r,σ'=>Kp r σ'
   | .qV l => if q then False else wQ P l (args.map (AX.ev e)) σ fun
      | .ret r,σ'=>K r σ'
      | .panic r,σ'=>Kp r σ'
   | _=>False
 | .tV f args => match f.ev e with
   | .fn (.func n) [] []=>Ht P n (args.map (AX.ev e)) σ K
   | _=>False
 | .len s x => match s, x.ev e with
   | true,.str s=>K (.int .i64 s.length) σ
   | false,.aV=>K (.int .i64 0) σ
   | false,.aR _ _ xs=>K (.int .i64 xs.length) σ
   | false,.own _ _ _ _ n=>K (.int .i64 n) σ
   | _,_=>False
 | .app T el x y=>oY σ T el (x.ev e) (y.ev e) K
 | .Ep el x => match x.ev e with
   | .aV=>K .gO σ
   | .own bD l m lo n => bD = el /\ match σ[l]? with
     | some (.dn _ bN xs)=>bN=el/\m=xs.length/\0<n/\K (.fG el l m lo 0) σ
     | _=>False
   | _=>False
 | .y3 T x n => match x.ev e, n.ev e with
   | .gO,.int .i64 k=>k=0/\K (.str []) σ
   | .fG el l m lo off, .int .i64 k => lo = 0 /\ off = 0 /\ el = ⟨false, 1⟩ /\ match σ[l]? with
     | some (.dn T' _ xs)=>T'=some T/\m=xs.length/\0<k/\k<=xs.length/\xs.length<=2^62/\ ∃ s:List UInt8,xs.take k.toNat=s.map (fun b=>AV.int .u8 b.toNat)/\K (.str s) (σ.set l .dead)
     | _=>False
   | _,_=>False
 | .KX x => match x.ev e with
   | .ref l off => match σ[l]? with
     | some (.bY _ cs)=>off<cs.length/\K (.ref l off) σ
     | _=>False
   | _=>False
 | .KY u x => match x.ev e with
   | .ref l off => match σ[l]? with
     | some (.bY (some T) cs)=>liesAt P P.depth T (cs.length / P.cellsOf T) off u 1=true/\K (.ref l off) σ
     | _=>False
   | _=>False
 | .Il neg x y => match x.ev e, y.ev e with
   | .ref l o, .ref l' o' => l = l' /\ o = o' /\ match σ[l]? with
     | some (.bY _ _)=>K (.bool neg.not) σ
     | _=>False
   | _,_=>False
 | .Hu f x => (∃ fn, P.funcs[f]? = some fn ∧ (fn.name == "runtime.NumGoroutine") = false ∧ fn.body.isNone = true ∧ Extern.findNext fn = none ∧ Extern.find fn = some Extern.AbiNoEscape.same) ∧ K (x.ev e) σ
 | .min x xs=>tH true (x.ev e) (xs.map (AX.ev e)) fun v=>K v σ
 | .max x xs=>tH false (x.ev e) (xs.map (AX.ev e)) fun v=>K v σ
 | .oX el zero n c => match n.ev e, c.ev e with
   | .int .i64 k,.int .i64 m=>zero.fits el=true/\0<=k/\k<=m/\m*(el.sz+1)<=2^40/\K (.own el σ.length k.toNat 0 k.toNat) (σ++[.vec el (List.replicate k.toNat zero)])
   | _,_=>False
 | .panic x => match x.ev e with
   | .kZ t v=>Kp (.kZ t v) σ
   | _=>False
 | .lE el=>K (.own el σ.length 0 0 0) (σ++[.vec el []])
 | .hold=>K (.ref σ.length 0) (σ++[.resv])
 | .y4 T x=>(x.ev e).cells.all AV.scalar=true/\K (.ref σ.length 0) (σ++[.bY (some T) (x.ev e).cells])
 | .lC k T cs => match e k with
   | .ref n 0 => match σ[n]? with
     | some .resv=>K (.ref n 0) (σ.set n (.bY T cs))
     | _=>False
   | _=>False
 | .rU k T el x y => match e k with
   | .ref n 0 => match σ[n]? with
     | some .resv => match ajE el (y.ev e) with
       | some ys=>ajD el (x.ev e)=true/\ys.all (fun a=>a.fits el)=true/\gH ys.length el/\K (.own el n ys.length 0 ys.length) (σ.set n (.dn T el ys))
       | none=>False
     | _=>False
   | _=>False
 | .rV k el zero n c => match e k with
   | .ref l 0 => match σ[l]? with
     | some .resv => match n.ev e, c.ev e with
       | .int .i64 i,.int .i64 m=>zero.fits el=true/\0<i/\i<=m/\m*(el.sz+1)<=2^40/\K (.own el l i.toNat 0 i.toNat) (σ.set l (.vec el (List.replicate i.toNat zero)))
       | _,_=>False
     | _=>False
   | _=>False
 | .Jj x => match x.ev e with
   | .str s=>K (.ref σ.length 0) (σ++[.jA s 0])
   | _=>False
 | .Jk x => match x.ev e with
   | .ref l 0 => match σ[l]? with
     | some (.jA s pos) =>
       if pos<s.length then K (.bU [.bool true,.int .i64 pos,.int .i32 (Utf8.decode ⟨s.toArray⟩ pos).1]) (σ.set l (.jA s (pos+(Utf8.decode ⟨s.toArray⟩ pos).2)))
       else K (.bU [.bool false]) σ
     | _=>False
   | _=>False
 | .n_ neg k x y => match pH k (x.ev e) (y.ev e) with
   | some b=>K (.bool (if neg then !b else b)) σ
   | none=>False
