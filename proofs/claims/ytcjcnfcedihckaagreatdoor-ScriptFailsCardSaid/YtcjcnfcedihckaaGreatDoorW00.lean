/- Part. -/
import Derived.Test.YtcjcnfcedihckaaGreatDoorProg
import Derived.Lib.ItoaMem
import Derived.KernelRfl
import Derived.Calls
import Derived.Orders
import Derived.Below
set_option linter.all false
namespace Go.Proofs
noncomputable abbrev aK:=Tryz.prog
end Go.Proofs
namespace Go
def aq:=@Bool.and_eq_true
def aA:=@List.length_append
def aj:=@List.getD_eq_getElem?_getD
def aB:=@Bool.false_eq_true
def aH:=@List.getElem?_append_left
def aU:=@List.map_cons
def aT:=@Option.map_some
def bf:=@List.map_nil
def aX:=@List.all_eq_true
def aN:=@List.getElem?_eq_getElem
def aP:=@List.getElem?_eq_some_iff
def a_:=@Bool.eq_iff_iff
def bE:=@Nat.add_mul
def bJ:=@Nat.zero_le
def aV:=@List.getD_cons_zero
def bF:=@List.set_set
def bt:=@List.length_map
def aY:=@Nat.mul_le_mul_right
def aW:=@Option.map_eq_some_iff
def bA:=@Option.getD_some
def bx:=@List.append_assoc
def bD:=@List.cons_append
def b_:=@Nat.zero_add
def bO:=@Option.map_none
def bp:=@List.take_of_length_le
def cy:=@List.mem_map
def bz:=@List.getElem_of_mem
def bY:=@List.append_nil
def cE:=@Nat.le_trans
def bI:=@List.mem_cons_of_mem
def cM:=@Nat.succ_mul
def bR:=@List.mem_singleton
def cQ:=@Nat.add_zero
def cG:=@Nat.not_lt_zero
def cF:=@Bool.not_eq_true'
def bL:=@List.getElem?_append_right
def cY:=@List.mem_range
def cq:=@List.getD_cons_succ
def cS:=@List.nil_append
def cU:=@List.getElem_mem
def dm:=@Bool.or_eq_true
def eG:=@Nat.ne_of_lt
def dw:=@List.flatMap_cons
def ew:=@Bool.true_and
def dW:=@List.find?_some
def dA:=@List.find?_eq_none
def dL:=@Nat.lt_of_lt_of_le
def dn:=@List.mem_of_mem_take
def dB:=@Array.getElem_eq_getD
def fW:=@Bool.and_true
def dP:=@List.length_replicate
def dR:=@Array.toArray_toList
def ek:=@List.takeWhile_cons
def dz:=@Array.getElem?_eq_some_iff
def gN:=@Nat.lt_irrefl
def eF:=@Array.length_toList
def dQ:=@List.getElem?_cons_succ
def fZ:=@Bool.not_false
def f_:=@Bool.and_false
def fG:=@List.flatMap_nil
def gD:=@List.map_append
def gY:=@Bool.false_and
def gW:=@Option.bind_some
def iz:=@List.mem_append
def iA:=@List.length_set
def fx:=@List.singleton_append
def eo:=@Array.getElem?_append_left
def fy:=@List.getElem?_toArray
def eO:=@List.getElem?_cons_zero
def fJ:=@Array.getElem_modify
def fK:=@List.mem_append_left
def gE:=@List.any_eq_false
def fA:=@Option.isSome_iff_exists
def eZ:=@List.drop_eq_getElem_cons
def eH:=@Array.getD_eq_getD_getElem?
def iG:=@Int.toNat_natCast
def fH:=@Option.bind_eq_some_iff
def gw:=@List.mem_of_getElem?
def fc:=@List.eq_nil_of_length_eq_zero
def eR:=@Array.eq_empty_of_size_eq_zero
def fS:=@List.mem_of_find?_eq_some
def iY:=@List.drop_eq_nil_of_le
def iN:=@Int.eq_ofNat_of_zero_le
def iZ:=@List.drop_of_length_le
end Go
namespace Go.AM
def DH: List Nat:=[3,6,7]
def MB (w : World) : Prop := Lib.TabIs Go.Proofs.Tryz.prog w "internal/strconv.uint64pow10" .u64 Lib.pow10Tab
def wR(w:World)(s:String): Prop:= ∃ t p,w.var? Go.Proofs.Tryz.prog s=some #[.iface t p]
def Gn (w : World) : Prop := MB w ∧ wR w "strconv.ErrSyntax" ∧ wR w "strconv.ErrRange"
def J3 : Go.Proofs.Tryz.prog.globalNamed "internal/strconv.uint64pow10" = some 3 := by kernel_rfl
def J4 : Go.Proofs.Tryz.prog.globalNamed "strconv.ErrSyntax" = some 6 := by kernel_rfl
def J5 : Go.Proofs.Tryz.prog.globalNamed "strconv.ErrRange" = some 7 := by kernel_rfl
def wR.of_heap{w w':World}{s:String}{g:Nat}(hg:Go.Proofs.Tryz.prog.globalNamed s=some g)(h:wR w s)(hb:w'.heap[g]? = w.heap[g]?): wR w' s:=by
 unfold wR World.var? at *;simp only[hg,gW]at h ⊢;rw[hb];exact h
def Gn.of_heap{w w':World}(h:Gn w)(hb:∀ b ∈ DH,w'.heap[b]? = w.heap[b]?): Gn w':=by
 obtain⟨h1,h2,h3⟩:=h;refine⟨?_,h2.of_heap J4 (hb 6 (by simp[DH])),h3.of_heap J5 (hb 7 (by simp[DH]))⟩;unfold MB Lib.TabIs World.var? at *;simp only[J3,gW]at h1 ⊢;rw[hb 3 (by simp[DH])];exact h1
structure El where
 ag:Bool
 sz:Nat
deriving DecidableEq,Inhabited,Repr
inductive AV where
 | undef
 | bool (b:Bool)
 | int (k:IntKind) (n:Int)
 | str (s:List UInt8)
 | agg (cs:List AV)
 | bU (vs:List AV)
 | au
 | aO (full:Bool) (el:El) (xs:List AV)
 | own (el:El) (l m lo n:Nat)
 | ref (l off:Nat)
 | dY (el:El) (x:AV) (off:Nat)
 | eJ (el:El) (l m i off:Nat)
 | iX
 | rK
 | jn
 | fn (f:Fn) (first cap:List AV)
 | kP (t:TypeId) (v:AV)
 | lG
 | mp (l:Nat)
 | qS (l:Nat)
 | sK (el:El) (p:AV) (n:Nat)
 | qC
deriving Inhabited
def AV.scalar: AV->Bool
 | .agg _ | .bU _ | .undef=>false
 | _=>true
def AV.cell: AV->Nat->AV
 | .agg cs,i=>cs.getD i .undef
 | v,_=>v
def AV.cells: AV->List AV
 | .agg cs=>cs
 | v=>[v]
def AV.fits(el:El): AV->Bool
 | .agg cs=>el.ag && cs.length==el.sz && cs.all AV.scalar
 | .bU _ | .undef=>false
 | _=> !el.ag && el.sz==1
structure aJ where
 fL:Nat->Prop
 n:Nat
 ver:Nat->Nat
 base:Nat->Option Nat
 cap:Nat->Nat
 off:Nat->Nat
def dD(w:World)(a:Addr): Value:=(w.cell? a).getD undef
def afg(g:aJ)(el:El)(l m lo n:Nat)(v:Value): Prop :=
 l < g.n /\ m <= g.ver l /\ ∃ A cap, v = .slice A n cap /\ (m = g.ver l -> lo + n <= m /\ cap + lo = g.cap l /\
   (lo<g.cap l->A=(g.base l).map fun b=>⟨b,g.off l+lo*el.sz,none⟩))
def afh(g:aJ)(l off:Nat)(v:Value): Prop :=
 (l<g.n/\1<=g.ver l)/\ ∃ A,v = .pointer (some A)/\(g.ver l=1->g.base l=some A.block/\A=⟨A.block,off,none⟩)
def adP(g:aJ)(el:El)(l m i off:Nat)(v:Value): Prop :=
 l<g.n/\m<=g.ver l/\ ∃ A,v = .pointer (some A)/\(m=g.ver l->g.base l=some A.block/\A=⟨A.block,g.off l+i*el.sz+off,none⟩)
def MpP(g:aJ)(l:Nat)(v:Value): Prop :=
 l<g.n/\ ∃ b,v = .map (some b)/\(g.ver l=0->g.base l=some b)
def afi(g:aJ)(l:Nat)(v:Value): Prop :=
 l<g.n/\ ∃ b,v = .func (.yield b) #[] #[]/\(g.ver l=0->g.base l=some b)
inductive VR (g:aJ) (w:World):AV->Value->Prop where
 | undef (v:Value):VR g w .undef v
 | bool (b:Bool):VR g w (.bool b) (.bool b)
 | int (k:IntKind) (n:Int):VR g w (.int k n) (.int k n)
 | str (s:List UInt8):VR g w (.str s) (.string ⟨s.toArray⟩)
 | agg (cs : List AV) (vs : Array Value) (hl : cs.length = vs.size) (hs : cs.all AV.scalar = true)
    (h:∀ i,i<cs.length->VR g w (cs.getD i .undef) (vs.getD i Go.undef)):VR g w (.agg cs) (.agg vs)
 | bU (cs : List AV) (vs : Array Value) (hl : cs.length = vs.size)
    (h:∀ i,i<cs.length->VR g w (cs.getD i .undef) (vs.getD i Go.undef)):VR g w (.bU cs) (.tuple vs)
 | au:VR g w .au (.slice none 0 0)
 | iO (f:Bool) (el:El) (b:Option Addr) (cap:Nat) (hf:f=true->cap=0):VR g w (.aO f el []) (.slice b 0 cap)
 | aO (f : Bool) (el : El) (xs : List AV) (b off cap : Nat) (hi : g.fL b) (hf : f = true -> cap = xs.length) (hx : xs.length <= cap)
    (ft:∀ i,i<xs.length->(xs.getD i .undef).fits el=true)
    (hc:∀ i c,i<xs.length->c<el.sz->(w.cell? ⟨b,off+(i*el.sz+c),none⟩).isSome=true)
    (h:∀ i c,i<xs.length->c<el.sz->VR g w ((xs.getD i .undef).cell c) (dD w ⟨b,off+(i*el.sz+c),none⟩)) :
    VR g w (.aO f el xs) (.slice (some ⟨b,off,none⟩) xs.length cap)
 | own (el:El) (l m lo n:Nat) (v:Value) (h:afg g el l m lo n v):VR g w (.own el l m lo n) v
 | ref (l off:Nat) (v:Value) (h:afh g l off v):VR g w (.ref l off) v
 | dY (el : El) (x : AV) (off b o : Nat) (hi : g.fL b) (ft : x.fits el = true)
    (hc:∀ c,c<el.sz->(w.cell? ⟨b,o+c,none⟩).isSome=true)
    (h:∀ c,c<el.sz->VR g w (x.cell c) (dD w ⟨b,o+c,none⟩)) :
    VR g w (.dY el x off) (.pointer (some ⟨b,o+off,none⟩))
 | eJ (el:El) (l m i off:Nat) (v:Value) (h:adP g el l m i off v):VR g w (.eJ el l m i off) v
 | iX:VR g w .iX (.pointer none)
 | rK:VR g w .rK .nilFunc
 | jn:VR g w .jn .nilIface
 | fn (f : Fn) (first cap : List AV) (first' cap' : Array Value) (hl : first.length = first'.size) (hl' : cap.length = cap'.size)
    (h:∀ i,i<first.length->VR g w (first.getD i .undef) (first'.getD i Go.undef))
    (h':∀ i,i<cap.length->VR g w (cap.getD i .undef) (cap'.getD i Go.undef)):VR g w (.fn f first cap) (.func f first' cap')
 | kP (t:TypeId) (a:AV) (v:Value) (h:VR g w a v):VR g w (.kP t a) (.iface t v)
 | lG:VR g w .lG (.map none)
 | mp (l:Nat) (v:Value) (h:MpP g l v):VR g w (.mp l) v
 | qS (l:Nat) (v:Value) (h:afi g l v):VR g w (.qS l) v
 | qC (v:Value) (h:v.oneCell'=true):VR g w .qC v
 | sK (el:El) (p:AV) (n:Nat) (A:Addr) (cap:Nat) (hn:0<n) (hc:n<=cap) (h:VR g w p (.pointer (some A))):VR g w (.sK el p n) (.slice (some A) n cap)
structure kK (g:aJ) (w:World) (g':aJ) (w':World):Prop where
 fL:∀ b,g.fL b->g'.fL b/\w'.heap[b]? = w.heap[b]?
 n:g.n<=g'.n
 ver:∀ l,l<g.n->g.ver l<=g'.ver l/\(g'.ver l=g.ver l->g'.base l=g.base l/\g'.cap l=g.cap l/\g'.off l=g.off l)
def kK.refl(g:aJ)(w:World): kK g w g w:=⟨fun _ h=>⟨h,rfl⟩,Nat.le_refl _,fun _ _=>⟨Nat.le_refl _,fun _=>⟨rfl,rfl,rfl⟩⟩⟩
def kK.trans{g1 g2 g3:aJ}{w1 w2 w3:World}(h:kK g1 w1 g2 w2)(k:kK g2 w2 g3 w3): kK g1 w1 g3 w3:=by
 refine⟨fun b hb=>?_,cE h.n k.n,fun l hl=>?_⟩
 ·obtain⟨h1,h2⟩:=h.fL b hb;obtain⟨h3,h4⟩:=k.fL b h1;exact⟨h3,h4.trans h2⟩
 ·obtain⟨a1,a2⟩:=h.ver l hl;obtain⟨b1,b2⟩:=k.ver l (dL hl h.n);refine⟨cE a1 b1,fun e=>?_⟩;have e1:g2.ver l=g1.ver l:=by omega
  have e2:g3.ver l=g2.ver l:=by omega
  exact⟨(b2 e2).1.trans (a2 e1).1,(b2 e2).2.1.trans (a2 e1).2.1,(b2 e2).2.2.trans (a2 e1).2.2⟩
def mJ{w w':World}{b:Nat}(h:w'.heap[b]? = w.heap[b]?)(o:Nat)(s:Option Nat): w'.cell? ⟨b,o,s⟩=w.cell? ⟨b,o,s⟩:=by
 simp only[World.cell?,h]
def Gp{w w':World}{b:Nat}(h:w'.heap[b]? = w.heap[b]?)(o:Nat)(s:Option Nat): w'.frozen? ⟨b,o,s⟩=w.frozen? ⟨b,o,s⟩:=by
 simp only[World.frozen?,h]
def rD{w w':World}{b:Nat}(h:w'.heap[b]? = w.heap[b]?)(o:Nat)(s:Option Nat): dD w' ⟨b,o,s⟩=dD w ⟨b,o,s⟩:=by
 simp only[dD,mJ h]
def VR.mono{g g':aJ}{w w':World}(hm:kK g w g' w'){a:AV}{v:Value}(h:VR g w a v): VR g' w' a v:=by
 induction h with
 | undef v=>exact .undef v
 | bool b=>exact .bool b
 | int k n=>exact .int k n
 | str s=>exact .str s
 | agg cs vs hl hs _ ih=>exact .agg cs vs hl hs ih
 | bU cs vs hl _ ih=>exact .bU cs vs hl ih
 | au=>exact .au
 | iO f el b cap hf=>exact .iO f el b cap hf
 | aO f el xs b off cap hi hf hx ft hc _ ih =>
   obtain⟨hi',he⟩:=hm.fL b hi;refine .aO f el xs b off cap hi' hf hx ft (fun i c h1 h2=>?_) (fun i c h1 h2=>?_)
   ·rw[mJ he];exact hc i c h1 h2
   ·rw[rD he];exact ih i c h1 h2
 | own el l m lo n v h =>
   obtain⟨h1,h2,A,cap,h3,h4⟩:=h;obtain⟨v1,v2⟩:=hm.ver l h1;refine .own el l m lo n v ⟨dL h1 hm.n,cE h2 v1,A,cap,h3,fun e=>?_⟩;have e1:g'.ver l=g.ver l:=by omega
   obtain⟨b1,b2,b3⟩:=v2 e1;rw[b1,b2,b3];exact h4 (by omega)
 | ref l off v h =>
   obtain⟨⟨h1,h0⟩,A,h2,h3⟩:=h;obtain⟨v1,v2⟩:=hm.ver l h1;refine .ref l off v ⟨⟨dL h1 hm.n,cE h0 v1⟩,A,h2,fun e=>?_⟩;have e1:g'.ver l=g.ver l:=by omega
   rw[(v2 e1).1];exact h3 (by omega)
 | dY el x off b o hi ft hc _ ih =>
   obtain⟨hi',he⟩:=hm.fL b hi;refine .dY el x off b o hi' ft (fun c h2=>?_) (fun c h2=>?_)
   ·rw[mJ he];exact hc c h2
   ·rw[rD he];exact ih c h2
 | eJ el l m i off v h =>
   obtain⟨h1,h2,A,h3,h4⟩:=h;obtain⟨v1,v2⟩:=hm.ver l h1;refine .eJ el l m i off v ⟨dL h1 hm.n,cE h2 v1,A,h3,fun e=>?_⟩;have e1:g'.ver l=g.ver l:=by omega
   rw[(v2 e1).1,(v2 e1).2.2];exact h4 (by omega)
 | iX=>exact .iX
 | rK=>exact .rK
 | jn=>exact .jn
 | fn f first cap first' cap' hl hl' _ _ ih Gq=>exact .fn f first cap first' cap' hl hl' ih Gq
 | kP t a v _ ih=>exact .kP t a v ih
 | lG=>exact .lG
 | qC v h=>exact .qC v h
 | mp l v h =>
   obtain⟨h1,b,h2,h3⟩:=h;obtain⟨v1,v2⟩:=hm.ver l h1;refine .mp l v ⟨dL h1 hm.n,b,h2,fun e=>?_⟩;have e1:g'.ver l=g.ver l:=by omega
   rw[(v2 e1).1];exact h3 (by omega)
 | qS l v h =>
   obtain⟨h1,b,h2,h3⟩:=h;obtain⟨v1,v2⟩:=hm.ver l h1;refine .qS l v ⟨dL h1 hm.n,b,h2,fun e=>?_⟩;have e1:g'.ver l=g.ver l:=by omega
   rw[(v2 e1).1];exact h3 (by omega)
 | sK el p n A cap hn hc _ ih=>exact .sK el p n A cap hn hc ih
def VR.DI{g:aJ}{w:World}{a:AV}{v:Value}(h:VR g w a v)(hs:a.scalar=true): v.oneCell'=true:=by
 cases h<;>first
  | rfl
  |(simp[AV.scalar]at hs;done)
  | skip
 case own h=>obtain⟨_,_,A,cap,rfl,_⟩:=h;rfl
 case ref h=>obtain⟨_,A,rfl,_⟩:=h;rfl
 case eJ h=>obtain⟨_,_,A,rfl,_⟩:=h;rfl
 case mp h=>obtain⟨_,A,rfl,_⟩:=h;rfl
 case qC h=>exact h
 case qS h=>obtain⟨_,A,rfl,_⟩:=h;rfl
inductive aZ where
 | cg (T:Option TypeId) (cs:List AV)
 | cz (T:Option TypeId) (el:El) (xs:List AV)
 | jc (s:List UInt8) (pos:Nat)
 | map (es:List (AV × AV))
 | loop (nt:Nat) (e:Nat->AV) (ps:Array Tmp) (assign body:Code) (st:LoopState) (ahJ:Option Code)
 | dead
 | resv
deriving Inhabited
abbrev aZ.cells(cs:List AV): aZ:= .cg none cs
abbrev aZ.vec(el:El)(xs:List AV): aZ:= .cz none el xs
def uc(w:World)(b n:Nat): Option TypeId->Prop
 | none=>True
 | some T=>w.shape? b=some (T,n)
def uc.of_heap{w w':World}{b n:Nat}{T:Option TypeId}(h:uc w b n T)(he:w'.heap[b]? = w.heap[b]?): uc w' b n T:=by
 cases T with
 | none=>trivial
 | some T=>simp only[uc,World.shape?]at *;rw[he];exact h
def QJ(w:World)(b n o:Nat): Option TypeId->Prop
 | none=>True
 | some T=>w.shape? b=some (T,n)/\o=0
def QJ.of_heap{w w':World}{b n o:Nat}{T:Option TypeId}(h:QJ w b n o T)(he:w'.heap[b]? = w.heap[b]?): QJ w' b n o T:=by
 cases T with
 | none=>trivial
 | some T=>simp only[QJ,World.shape?]at *;rw[he];exact h
def uc.v{w:World}{b n:Nat}{T:Option TypeId}(h:uc w b n T): QJ w b n 0 T:=by
 cases T with
 | none=>trivial
 | some T=>exact⟨h,rfl⟩
abbrev ae:=List aZ
def aZ.live: aZ->Bool
 | .dead=>false
 | _=>true
def Live(σ : ae)(l:Nat): Prop:= ∃ o,σ[l]? = some o/\o.live=true
def mh(σ : ae)(g:aJ)(b:Nat): Prop:= ∃ l,Live σ l/\g.base l=some b
def Row(w:World)(b:Nat)(vs:Array Value): Prop :=
 ∃ T fz,w.heap[b]? = some (.cells vs T fz)/\ ∀ i,i<vs.size->w.frozen? ⟨b,i,none⟩=false
def aZ.Ok(g:aJ)(w:World)(l:Nat): aZ->Prop
 | .cg T cs => g.ver l = 1 /\ cs.all AV.scalar = true /\ ∃ b vs, g.base l = some b /\ Row w b vs /\ vs.size = cs.length /\
    (∀ i,i<cs.length->VR g w (cs.getD i .undef) (vs.getD i Go.undef))/\uc w b cs.length T
 | .cz T el xs => g.ver l = xs.length /\ (∀ i, i < xs.length -> (xs.getD i .undef).fits el = true) /\
    ((xs = [] /\ g.base l = none /\ g.cap l = 0 /\ g.off l = 0) \/
      ∃ b vs, g.base l = some b /\ Row w b vs /\ vs.size = g.off l + g.cap l * el.sz /\ xs.length <= g.cap l /\
        (∀ i c,i<xs.length->c<el.sz->VR g w ((xs.getD i .undef).cell c) (vs.getD (g.off l+i*el.sz+c) Go.undef))/\QJ w b vs.size (g.off l) T)
 | .jc s pos=>g.ver l=1/\ ∃ b,g.base l=some b/\w.heap[b]? = some (.stringIter ⟨s.toArray⟩ pos)
 | .map es => g.ver l = 0 /\ ∃ b ms clock, g.base l = some b /\ w.heap[b]? = some (.map ms clock) /\ ms.size = es.length /\ (clock = es.length /\ ∀ i, i < es.length -> (ms.getD i default).born = i) /\
    ∀ i,i<es.length->VR g w (es.getD i default).1 (ms.getD i default).key/\VR g w (es.getD i default).2 (ms.getD i default).val
 | .loop nt e ps ca cb st pe => g.ver l = 0 /\ ∃ b rec, g.base l = some b /\ w.heap[b]? = some (.loop rec) /\ rec.params = ps /\ rec.assign = ca /\ rec.body = cb /\ rec.state = st /\ rec.pending = pe /\
    rec.tmps.size=nt/\ ∀ t,t<nt->VR g w (e t) (rec.tmps.getD t Go.undef)
 | .dead=>True
 | .resv=>g.ver l=0/\g.base l=none/\g.cap l=0/\g.off l=0
def xR(g:aJ)(w:World): Prop:=(∀ b ∈ DH,g.fL b)/\Gn w
def xR.mono{g g':aJ}{w w':World}(h:xR g w)(hm:∀ b,g.fL b->g'.fL b/\w'.heap[b]? = w.heap[b]?): xR g' w' :=
 ⟨fun b hb=>(hm b (h.1 b hb)).1,h.2.of_heap fun b hb=>(hm b (h.1 b hb)).2⟩
structure Rel (g:aJ) (w:World) (σ : ae):Prop where
 len : σ.length=g.n
 lt:∀ b,g.fL b->b<w.heap.size
 ok:∀ (l:Nat) (o:aZ),σ[l]? = some o->o.Ok g w l
 inj:∀ l l' b,Live σ l->Live σ l'->g.base l=some b->g.base l'=some b->l=l'
 sL:∀ l b,Live σ l->g.base l=some b->¬ g.fL b
 glob:xR g w
structure fC (σ : ae) (g:aJ) (w:World) (σ':ae) (g':aJ) (w':World):Prop where
 mono:kK g w g' w'
 size:w.heap.size<=w'.heap.size
 os:w'.os=w.os
 tape:w'.tape=w.tape
 output:w'.output=w.output
 frame:∀ b,b<w.heap.size->¬ mh σ g b->w'.heap[b]? = w.heap[b]?
 y7:∀ b,b<w.heap.size->g'.fL b->g.fL b\/mh σ g b
 J6:∀ b,b<w.heap.size->mh σ' g' b->mh σ g b
def fC.refl(σ : ae)(g:aJ)(w:World): fC σ g w σ g w :=
 ⟨.refl _ _,Nat.le_refl _,rfl,rfl,rfl,fun _ _ _=>rfl,fun _ _ h=> .inl h,fun _ _ h=>h⟩
def fC.trans{σ1 σ2 σ3:ae}{g1 g2 g3:aJ}{w1 w2 w3:World}(h:fC σ1 g1 w1 σ2 g2 w2)(k:fC σ2 g2 w2 σ3 g3 w3): fC σ1 g1 w1 σ3 g3 w3:=by
 refine⟨h.mono.trans k.mono,cE h.size k.size,k.os.trans h.os,k.tape.trans h.tape,k.output.trans h.output,fun b hb ht=>?_,fun b hb hi=>?_,fun b hb ht=>?_⟩
 ·rw[k.frame b (dL hb h.size) (fun t=>ht (h.J6 b hb t)),h.frame b hb ht]
 ·rcases k.y7 b (Nat.lt_of_lt_of_le hb h.size) hi with h1|h1
  ·exact h.y7 b hb h1
  ·exact .inr (h.J6 b hb h1)
 ·exact h.J6 b hb (k.J6 b (dL hb h.size) ht)
def fC.drew(σ : ae)(g:aJ)(w:World)(d:Nat): fC σ g w σ g { w with drawn:=d } :=
 ⟨⟨fun _ h=>⟨h,rfl⟩,Nat.le_refl _,fun _ _=>⟨Nat.le_refl _,fun _=>⟨rfl,rfl,rfl⟩⟩⟩,Nat.le_refl _,rfl,rfl,rfl,fun _ _ _=>rfl,fun _ _ h=> .inl h,fun _ _ h=>h⟩
def Row.lt{w:World}{b:Nat}{vs:Array Value}(h:Row w b vs): b<w.heap.size:=by
 obtain⟨T,fz,h,_⟩:=h;exact(dz.1 h).1
def Row.of_heap{w w':World}{b:Nat}{vs:Array Value}(h:Row w b vs)(he:w'.heap[b]? = w.heap[b]?): Row w' b vs:=by
 obtain⟨T,fz,h,hf⟩:=h;exact⟨T,fz,he.trans h,fun i hi=>(Gp he i none).trans (hf i hi)⟩
def Row.cell{w:World}{b:Nat}{vs:Array Value}(h:Row w b vs){i:Nat}(hi:i<vs.size): w.cell? ⟨b,i,none⟩=some (vs.getD i Go.undef):=by
 obtain⟨T,fz,h,_⟩:=h;simp[World.cell?,h,hi]
def aZ.Ok.step {g g' : aJ} {w w' : World} {l : Nat} {o : aZ} (h : o.Ok g w l) (hm : kK g w g' w') (hl : l < g.n)
    (hv:g'.ver l=g.ver l) (hb:∀ b,g.base l=some b->w'.heap[b]? = w.heap[b]?):o.Ok g' w' l:=by
 obtain⟨e1,e2,e3⟩:=(hm.ver l hl).2 hv;cases o with
 | cg T cs =>
   obtain⟨h1,hs,b,vs,h2,h3,h4,h5,h6⟩:=h;exact⟨hv.trans h1,hs,b,vs,e1.trans h2,h3.of_heap (hb b h2),h4,fun i hi=>(h5 i hi).mono hm,h6.of_heap (hb b h2)⟩
 | cz T el xs =>
   obtain⟨h1,hf,h2⟩:=h;refine⟨hv.trans h1,hf,?_⟩;rcases h2 with⟨h2,h3,h4⟩|⟨b,vs,h2,h3,h4,h5,h6,h7⟩
   ·exact .inl ⟨h2,e1.trans h3,e2.trans h4.1,e3.trans h4.2⟩
   ·exact .inr ⟨b,vs,e1.trans h2,h3.of_heap (hb b h2),by rw[e2,e3];exact h4,by rw[e2];exact h5,fun i c hi hc=>by rw[e3];exact(h6 i c hi hc).mono hm,by rw[e3];exact h7.of_heap (hb b h2)⟩
 | jc s pos =>
   obtain⟨h1,b,h2,h3⟩:=h;exact⟨hv.trans h1,b,e1.trans h2,(hb b h2).trans h3⟩
 | map es =>
   obtain⟨h1,b,ms,clock,h2,h3,h4,h6,h5⟩:=h;exact⟨hv.trans h1,b,ms,clock,e1.trans h2,(hb b h2).trans h3,h4,h6,fun i hi=>⟨(h5 i hi).1.mono hm,(h5 i hi).2.mono hm⟩⟩
 | loop nt e ps ca cb st pe =>
   obtain⟨h1,b,rec,h2,h3,h4,h5,h6,h7,h8,h9,h10⟩:=h;exact⟨hv.trans h1,b,rec,e1.trans h2,(hb b h2).trans h3,h4,h5,h6,h7,h8,h9,fun t ht=>(h10 t ht).mono hm⟩
 | dead=>trivial
 | resv=>exact⟨hv.trans h.1,e1.trans h.2.1,e2.trans h.2.2.1,e3.trans h.2.2.2⟩
def Rel.kL{g:aJ}{w:World}{σ : ae}(h:Rel g w σ){l b:Nat}(hl:Live σ l)(hb:g.base l=some b): b<w.heap.size:=by
 obtain⟨o,ho,hv⟩:=hl;have:=h.ok l o ho;cases o with
 | cg T cs=>obtain⟨_,_,b',vs,h2,h3,_⟩:=this;rw[hb]at h2;cases h2;exact h3.lt
 | cz T el xs =>
   obtain⟨_,_,h2⟩:=this;rcases h2 with⟨_,h3,_⟩|⟨b',vs,h2,h3,_⟩
   ·rw[hb]at h3;cases h3
   ·rw[hb]at h2;cases h2;exact h3.lt
 | jc s pos=>obtain⟨_,b',h2,h3⟩:=this;rw[hb]at h2;cases h2;exact(Array.getElem?_eq_some_iff.1 h3).1
 | map es=>obtain⟨_,b',_,_,h2,h3,_⟩:=this;rw[hb]at h2;cases h2;exact(Array.getElem?_eq_some_iff.1 h3).1
 | loop nt e ps ca cb st pe=>obtain⟨_,b',_,h2,h3,_⟩:=this;rw[hb]at h2;cases h2;exact(Array.getElem?_eq_some_iff.1 h3).1
 | dead=>simp[aZ.live]at hv
 | resv=>rw[this.2.1]at hb;cases hb
def Rel.zR{g:aJ}{w:World}{σ : ae}(h:Rel g w σ){b:Nat}(ht:mh σ g b): b<w.heap.size :=
 let ⟨_,hl,hb⟩:=ht;h.kL hl hb
def Live.lt{σ : ae}{l:Nat}(h:Live σ l): l < σ.length:=by
 obtain⟨o,ho,_⟩:=h;exact(aP.1 ho).1
def heap_alloc_old(w:World)(o:Obj){b:Nat}(h:b<w.heap.size): (w.alloc o).heap[b]? = w.heap[b]?:=by
 exact Go.RowKit.Below.heap_alloc w o b h
def heap_alloc_new(w:World)(o:Obj): (w.alloc o).heap[w.heap.size]? = some o:=by
 show(w.heap.push o)[w.heap.size]? = _;simp
def Rel.drew{g:aJ}{w:World}{σ : ae}(h:Rel g w σ)(d:Nat): Rel g { w with drawn:=d } σ :=
 ⟨h.len,h.lt,fun l o ho=>(h.ok l o ho).step (fC.drew σ g w d).mono (by rw[<-h.len];exact(aP.1 ho).1) rfl (fun _ _=>rfl),h.inj,h.sL,h.glob.mono fun _ hb=>⟨hb,rfl⟩⟩
def aJ.iB(g:aJ)(b:Nat): aJ:= { g with fL:=fun c=>g.fL c\/c=b }
def aJ.push(g:aJ)(v:Nat)(b:Option Nat)(c:Nat)(o:Nat:=0): aJ :=
 { g with n:=g.n+1,off:=fun l=>if l=g.n then o else g.off l,ver:=fun l=>if l=g.n then v else g.ver l,base:=fun l=>if l=g.n then b else g.base l,cap:=fun l=>if l=g.n then c else g.cap l }
def ud(g:aJ)(w:World)(o:Obj)(hlt:∀ b,g.fL b->b<w.heap.size): kK g w (g.iB w.heap.size) (w.alloc o) :=
 ⟨fun b h=>⟨.inl h,heap_alloc_old w o (hlt b h)⟩,Nat.le_refl _,fun _ _=>⟨Nat.le_refl _,fun _=>⟨rfl,rfl,rfl⟩⟩⟩
def kj(g:aJ)(w:World)(o:Obj)(v:Nat)(b:Option Nat)(c:Nat)(hlt:∀ b,g.fL b->b<w.heap.size): kK g w (g.push v b c) (w.alloc o) :=
 ⟨fun b h => ⟨h, heap_alloc_old w o (hlt b h)⟩, Nat.le_succ _, fun l hl => by
   have:l≠g.n:=eG hl;simp[aJ.push,this]⟩
def Rel.MK{g:aJ}{w:World}{σ : ae}(h:Rel g w σ)(o:Obj): Rel (g.iB w.heap.size) (w.alloc o) σ/\fC σ g w σ (g.iB w.heap.size) (w.alloc o):=by
 have hm:=ud g w o h.lt;refine⟨⟨h.len,fun b hb=>?_,fun l o' ho=>?_,h.inj,fun l b hl hb hi=>?_,h.glob.mono hm.fL⟩,⟨hm,by simp,rfl,rfl,rfl,fun b hb _=>heap_alloc_old w o hb,fun b hb hi=>?_,fun b _ ht=>ht⟩⟩
 ·rcases hb with hb|rfl
  ·have:=h.lt b hb;simp;omega
  ·simp
 ·have hl:l<g.n:=by rw[<-h.len];exact(aP.1 ho).1
  by_cases hv:o'.live=true
  ·exact(h.ok l o' ho).step hm hl rfl (fun b hb=>heap_alloc_old w o (h.kL ⟨o',ho,hv⟩ hb))
  ·cases o'<;>simp[aZ.live]at hv;trivial
 ·rcases hi with hi|rfl
  ·exact h.sL l b hl hb hi
  ·exact absurd (h.kL hl hb) (gN _)
 ·rcases hi with hi|rfl
  ·exact .inl hi
  ·exact absurd hb (gN _)
def nu{σ : ae}{o:aZ}{l:Nat}(h:Live (σ++[o]) l): Live σ l\/l = σ.length:=by
 obtain⟨o',ho,hv⟩:=h;by_cases hl:l < σ.length
 ·exact .inl ⟨o',by rwa[aH hl]at ho,hv⟩
 ·have:=(aP.1 ho).1;simp at this;exact .inr (by omega)
def Rel.Xm{g:aJ}{w:World}{σ : ae}(h:Rel g w σ)(o:Obj): Rel g (w.alloc o) σ/\fC σ g w σ g (w.alloc o):=by
 have hm:kK g w g (w.alloc o):=⟨fun b hb=>⟨hb,heap_alloc_old w o (h.lt b hb)⟩,Nat.le_refl _,fun _ _=>⟨Nat.le_refl _,fun _=>⟨rfl,rfl,rfl⟩⟩⟩
 refine⟨⟨h.len,fun b hb=>by have:=h.lt b hb;simp;omega,fun l o' ho=>?_,h.inj,h.sL,h.glob.mono hm.fL⟩,
  ⟨hm,by simp,rfl,rfl,rfl,fun b hb _=>heap_alloc_old w o hb,fun b hb hi=> .inl hi,fun b hb ht=>ht⟩⟩
 have hl:l<g.n:=by rw[<-h.len];exact(aP.1 ho).1
 by_cases hv:o'.live=true
 ·exact(h.ok l o' ho).step hm hl rfl (fun b hb=>heap_alloc_old w o (h.kL ⟨o',ho,hv⟩ hb))
 ·cases o'<;>simp[aZ.live]at hv;trivial
def Rel.abD {g0 g : aJ} {w0 w w' : World} {r9 σ : ae} {D : Nat} (h : Rel g w σ) (hev : fC r9 g0 w0 σ g w) (hD : w0.heap.size <= D) (ht : ¬ mh σ g D) (hi : ¬ g.fL D)
    (hsz:w'.heap.size=w.heap.size) (hos:w'.os=w.os) (v7:w'.tape=w.tape) (hout:w'.output=w.output) (qc:∀ c,c≠D->w'.heap[c]? = w.heap[c]?) :
    Rel g w' σ/\fC r9 g0 w0 σ g w'/\kK g w g w':=by
 have hm:kK g w g w':=⟨fun b hb=>⟨hb,qc b (fun e=>hi (e ▸ hb))⟩,Nat.le_refl _,fun _ _=>⟨Nat.le_refl _,fun _=>⟨rfl,rfl,rfl⟩⟩⟩
 refine⟨⟨h.len,fun b hb=>by rw[hsz];exact h.lt b hb,fun l o' ho=>?_,h.inj,h.sL,h.glob.mono hm.fL⟩,
  ⟨hev.mono.trans hm,by rw[hsz];exact hev.size,hos.trans hev.os,v7.trans hev.tape,hout.trans hev.output,fun b hb hnt=>(qc b (by omega)).trans (hev.frame b hb hnt),hev.y7,hev.J6⟩,hm⟩
 have hl:l<g.n:=by rw[<-h.len];exact(aP.1 ho).1
 by_cases hv:o'.live=true
 ·exact(h.ok l o' ho).step hm hl rfl (fun b hb=>qc b (fun e=>ht ⟨l,⟨o',ho,hv⟩,e ▸ hb⟩))
 ·cases o'<;>simp[aZ.live]at hv;trivial
def Rel.pF {g : aJ} {w : World} {σ : ae} (h : Rel g w σ) (o : Obj) (ao : aZ) (v c : Nat)
    (hok:ao.Ok (g.push v (some w.heap.size) c) (w.alloc o) g.n) :
    Rel (g.push v (some w.heap.size) c) (w.alloc o) (σ++[ao])/\fC σ g w (σ++[ao]) (g.push v (some w.heap.size) c) (w.alloc o):=by
 have hm:=kj g w o v (some w.heap.size) c h.lt;have hbase:∀ l,l<g.n->(g.push v (some w.heap.size) c).base l=g.base l:=fun l hl=>by simp[aJ.push,eG hl]
 have hnew:(g.push v (some w.heap.size) c).base g.n=some w.heap.size:=by simp[aJ.push]
 have hold:∀ l b,Live σ l->(g.push v (some w.heap.size) c).base l=some b->g.base l=some b/\b<w.heap.size:=fun l b hl hb=>by
  rw[hbase l (by rw[<-h.len];exact hl.lt)]at hb;exact⟨hb,h.kL hl hb⟩
 refine⟨⟨by simp[aJ.push,h.len],fun b hb=>by have:=h.lt b hb;simp;omega,fun l o' ho=>?_,fun l l' b hl hl' hb hb'=>?_,fun l b hl hb hi=>?_,h.glob.mono hm.fL⟩,
  ⟨hm,by simp,rfl,rfl,rfl,fun b hb _=>heap_alloc_old w o hb,fun b hb hi=> .inl hi,fun b hb ht=>?_⟩⟩
 ·by_cases hl:l < σ.length
  ·rw[aH hl]at ho;have hl':l<g.n:=by rw[<-h.len];exact hl
   by_cases hv:o'.live=true
   ·refine(h.ok l o' ho).step hm hl' (by simp[aJ.push,eG hl']) (fun b hb=>heap_alloc_old w o (h.kL ⟨o',ho,hv⟩ hb))
   ·cases o'<;>simp[aZ.live]at hv;trivial
  ·have h1:=(aP.1 ho).1;simp at h1;have h2:l = σ.length:=by omega
   subst h2;simp at ho;subst ho;rw[h.len];exact hok
 ·rcases nu hl with hl|rfl<;>rcases nu hl' with hl'|rfl
  ·exact h.inj l l' b hl hl' (hold l b hl hb).1 (hold l' b hl' hb').1
  ·have:=(hold l b hl hb).2;rw[h.len,hnew]at hb';cases hb';exact absurd this (gN _)
  ·have:=(hold l' b hl' hb').2;rw[h.len,hnew]at hb;cases hb;exact absurd this (gN _)
  ·rfl
 ·rcases nu hl with hl|rfl
  ·exact h.sL l b hl (hold l b hl hb).1 hi
  ·rw[h.len,hnew]at hb;cases hb;exact absurd (h.lt _ hi) (gN _)
 ·obtain⟨l,hl,hb'⟩:=ht;rcases nu hl with hl|rfl
  ·exact⟨l,hl,(hold l b hl hb').1⟩
  ·rw[h.len,hnew]at hb';cases hb';exact absurd hb (gN _)
def aJ.reset(g:aJ)(l v:Nat)(b:Option Nat)(c:Nat)(o:Nat:=0): aJ :=
 { g with off:=fun k=>if k=l then o else g.off k,ver:=fun k=>if k=l then v else g.ver k,base:=fun k=>if k=l then b else g.base k,cap:=fun k=>if k=l then c else g.cap k }
def kM{σ : ae}{l k:Nat}{o:aZ}(h:Live (σ.set l o) k): (k=l/\l < σ.length/\o.live=true)\/(k≠l/\Live σ k):=by
 obtain⟨o',ho,hv⟩:=h;by_cases hk:k=l
 ·subst hk;have hlt:=(aP.1 ho).1;simp at hlt;simp[hlt]at ho;exact .inl ⟨rfl,hlt,ho ▸ hv⟩
 ·rw[List.getElem?_set_ne (Ne.symm hk)]at ho;exact .inr ⟨hk,o',ho,hv⟩
def Rel.change {g : aJ} {w w' : World} {σ : ae} {l : Nat} {o o' : aZ} (h : Rel g w σ) (hl : σ[l]? = some o) (ho : o.live = true)
    (v:Nat) (nb:Option Nat) (c:Nat) (fo:Nat) (hv:g.ver l<=v) (hvb:v=g.ver l->nb=g.base l/\c=g.cap l/\fo=g.off l)
    (hsz:w.heap.size<=w'.heap.size) (hos:w'.os=w.os) (v7:w'.tape=w.tape) (hout:w'.output=w.output)
    (qc:∀ b,b<w.heap.size->g.base l≠some b->w'.heap[b]? = w.heap[b]?)
    (hnb:∀ b,nb=some b->g.base l=some b\/w.heap.size<=b)
    (hok:kK g w (g.reset l v nb c fo) w'->o'.Ok (g.reset l v nb c fo) w' l) :
    Rel (g.reset l v nb c fo) w' (σ.set l o')/\fC σ g w (σ.set l o') (g.reset l v nb c fo) w':=by
 have jQ:Live σ l:=⟨o,hl,ho⟩;have hbase:∀ k,k≠l->(g.reset l v nb c fo).base k=g.base k:=fun k hk=>by simp[aJ.reset,hk]
 have MC:(g.reset l v nb c fo).base l=nb:=by simp[aJ.reset]
 have hm:kK g w (g.reset l v nb c fo) w':=by
  refine⟨fun b hb=>⟨hb,qc b (h.lt b hb) (fun e=>h.sL l b jQ e hb)⟩,Nat.le_refl _,fun k _=>?_⟩;by_cases hk:k=l
  ·subst hk;simp only[aJ.reset,if_true];exact⟨hv,hvb⟩
  ·simp[aJ.reset,hk]
 refine⟨⟨by simp[aJ.reset,h.len],fun b hb=>dL (h.lt b hb) hsz,fun k ok hk=>?_,fun k k' b hk hk' hb hb'=>?_,fun k b hk hb hi=>?_,h.glob.mono hm.fL⟩,
  ⟨hm,hsz,hos,v7,hout,fun b hb ht=>qc b hb (fun e=>ht ⟨l,jQ,e⟩),fun b _ hi=> .inl hi,fun b hb ht=>?_⟩⟩
 ·by_cases e:k=l
  ·subst e;have hlt:=(aP.1 hk).1;simp at hlt;simp[hlt]at hk;subst hk;exact hok hm
  ·rw[List.getElem?_set_ne (Ne.symm e)]at hk;have hkn:k<g.n:=by rw[<-h.len];exact(aP.1 hk).1
   by_cases hvk:ok.live=true
   ·refine(h.ok k ok hk).step hm hkn (by simp[aJ.reset,e]) (fun b hb=>qc b (h.kL ⟨ok,hk,hvk⟩ hb) (fun e'=>e (h.inj k l b ⟨ok,hk,hvk⟩ jQ hb e')))
   ·cases ok<;>simp[aZ.live]at hvk;trivial
 ·rcases kM hk with⟨e,_,_⟩|⟨e,lj⟩<;>rcases kM hk' with⟨e',_,_⟩|⟨e',Xn⟩
  ·exact e.trans e'.symm
  ·subst e;rw[MC]at hb;rw[hbase k' e']at hb';rcases hnb b hb with h1|h1
   ·exact h.inj _ _ b jQ Xn h1 hb'
   ·have:=h.kL Xn hb';omega
  ·subst e';rw[MC]at hb';rw[hbase k e]at hb;rcases hnb b hb' with h1|h1
   ·exact h.inj _ _ b lj jQ hb h1
   ·have:=h.kL lj hb;omega
  ·rw[hbase k e]at hb;rw[hbase k' e']at hb';exact h.inj k k' b lj Xn hb hb'
 ·rcases kM hk with⟨rfl,_,_⟩|⟨e,hk⟩
  ·rw[MC]at hb;rcases hnb b hb with h1|h1
   ·exact h.sL _ b jQ h1 hi
   ·have:=h.lt b hi;omega
  ·rw[hbase k e]at hb;exact h.sL k b hk hb hi
 ·obtain⟨k,hk,hb'⟩:=ht;rcases kM hk with⟨rfl,_,_⟩|⟨e,hk⟩
  ·rw[MC]at hb';rcases hnb b hb' with h1|h1
   ·exact⟨_,jQ,h1⟩
   ·omega
  ·exact⟨k,hk,by rw[hbase k e]at hb';exact hb'⟩
def aJ.v8(g:aJ)(l:Nat): g.reset l (g.ver l) (g.base l) (g.cap l) (g.off l)=g:=by
 simp only[aJ.reset]
 congr 1<;>(funext k;split<;>simp_all)
def Rel.update {g : aJ} {w w' : World} {σ : ae} {l b : Nat} {o o' : aZ} (h : Rel g w σ) (hl : σ[l]? = some o) (ho : o.live = true) (hb : g.base l = some b)
    (hsz:w'.heap.size=w.heap.size) (hos:w'.os=w.os) (v7:w'.tape=w.tape) (hout:w'.output=w.output)
    (qc:∀ c,c≠b->w'.heap[c]? = w.heap[c]?) (hok:kK g w g w'->o'.Ok g w' l) :
    Rel g w' (σ.set l o')/\fC σ g w (σ.set l o') g w':=by
 have:=Rel.change (o':=o') (w':=w') h hl ho (g.ver l) (g.base l) (g.cap l) (g.off l) (Nat.le_refl _) (fun _=>⟨rfl,rfl,rfl⟩) (Nat.le_of_eq hsz.symm) hos v7 hout
  (fun c _ hc=>qc c (fun e=>hc (e ▸ hb))) (fun c hc=> .inl hc)
 rw[g.v8 l]at this;exact this hok
def Rel.freeze {g : aJ} {w : World} {σ : ae} {l b : Nat} {o : aZ} (h : Rel g w σ) (hl : σ[l]? = some o) (ho : o.live = true) (hb : g.base l = some b) :
    Rel (g.iB b) w (σ.set l .dead)/\fC σ g w (σ.set l .dead) (g.iB b) w:=by
 have jQ:Live σ l:=⟨o,hl,ho⟩;have hm:kK g w (g.iB b) w:=⟨fun c hc=>⟨.inl hc,rfl⟩,Nat.le_refl _,fun _ _=>⟨Nat.le_refl _,fun _=>⟨rfl,rfl,rfl⟩⟩⟩
 refine⟨⟨by simp[aJ.iB,h.len],fun c hc=>?_,fun k ok hk=>?_,fun k k' c hk hk' hc ko=>?_,fun k c hk hc hi=>?_,h.glob.mono hm.fL⟩,
  ⟨hm,Nat.le_refl _,rfl,rfl,rfl,fun _ _ _=>rfl,fun c _ hi=>?_,fun c _ ht=>?_⟩⟩
 ·rcases hc with hc|rfl
  ·exact h.lt c hc
  ·exact h.kL jQ hb
 ·by_cases e:k=l
  ·subst e;have hlt:=(aP.1 hk).1;simp at hlt;simp[hlt]at hk;subst hk;trivial
  ·rw[List.getElem?_set_ne (Ne.symm e)]at hk;have hkn:k<g.n:=by rw[<-h.len];exact(aP.1 hk).1
   exact(h.ok k ok hk).step hm hkn rfl (fun _ _=>rfl)
 ·rcases kM hk with⟨_,_,e⟩|⟨_,hk⟩
  ·simp[aZ.live]at e
  ·rcases kM hk' with⟨_,_,e⟩|⟨_,hk'⟩
   ·simp[aZ.live]at e
   ·exact h.inj k k' c hk hk' hc ko
 ·rcases kM hk with⟨_,_,e⟩|⟨e,hk⟩
  ·simp[aZ.live]at e
  ·rcases hi with hi|rfl
   ·exact h.sL k c hk hc hi
   ·exact e (h.inj k l c hk jQ hc hb)
 ·rcases hi with hi|rfl
  ·exact .inl hi
  ·exact .inr ⟨l,jQ,hb⟩
 ·obtain⟨k,hk,hc⟩:=ht;rcases kM hk with⟨_,_,e⟩|⟨_,hk⟩
  ·simp[aZ.live]at e
  ·exact⟨k,hk,hc⟩
def Rel.lp {g : aJ} {w : World} {σ : ae} (h : Rel g w σ) (el : El) :
    Rel (g.push 0 none 0) w (σ++[.vec el []])/\fC σ g w (σ++[.vec el []]) (g.push 0 none 0) w:=by
 have hm:kK g w (g.push 0 none 0) w:=⟨fun b hb=>⟨hb,rfl⟩,Nat.le_succ _,fun l hl=>by simp[aJ.push,eG hl]⟩;have hbase:∀ l,l<g.n->(g.push 0 none 0).base l=g.base l:=fun l hl=>by simp[aJ.push,eG hl]
 have hnew:(g.push 0 none 0).base g.n=none:=by simp[aJ.push]
 have hold:∀ l b,Live (σ++[.vec el []]) l->(g.push 0 none 0).base l=some b->Live σ l/\g.base l=some b:=fun l b hl hb=>by
  rcases nu hl with hl|rfl
  ·rw[hbase l (by rw[<-h.len];exact hl.lt)]at hb;exact⟨hl,hb⟩
  ·rw[h.len,hnew]at hb;cases hb
 refine⟨⟨by simp[aJ.push,h.len],h.lt,fun l o' ho=>?_,fun l l' b hl hl' hb hb'=>h.inj l l' b (hold l b hl hb).1 (hold l' b hl' hb').1 (hold l b hl hb).2 (hold l' b hl' hb').2,
  fun l b hl hb hi=>h.sL l b (hold l b hl hb).1 (hold l b hl hb).2 hi,h.glob.mono hm.fL⟩,
  ⟨hm,Nat.le_refl _,rfl,rfl,rfl,fun _ _ _=>rfl,fun b hb hi=> .inl hi,fun b hb ht=>?_⟩⟩
 ·by_cases hl:l < σ.length
  ·rw[aH hl]at ho;have hl':l<g.n:=by rw[<-h.len];exact hl
   exact(h.ok l o' ho).step hm hl' (by simp[aJ.push,eG hl']) (fun _ _=>rfl)
  ·have h1:=(aP.1 ho).1;simp at h1;have h2:l = σ.length:=by omega
   subst h2;simp at ho;subst ho;rw[h.len];exact⟨by simp[aJ.push],by simp,.inl ⟨rfl,hnew,by simp[aJ.push]⟩⟩
 ·obtain⟨l,hl,hb'⟩:=ht;exact⟨l,(hold l b hl hb').1,(hold l b hl hb').2⟩
def Rel.hold {g : aJ} {w : World} {σ : ae} (h : Rel g w σ) :
    Rel (g.push 0 none 0) w (σ++[.resv])/\fC σ g w (σ++[.resv]) (g.push 0 none 0) w:=by
 have hm:kK g w (g.push 0 none 0) w:=⟨fun b hb=>⟨hb,rfl⟩,Nat.le_succ _,fun l hl=>by simp[aJ.push,eG hl]⟩;have hbase:∀ l,l<g.n->(g.push 0 none 0).base l=g.base l:=fun l hl=>by simp[aJ.push,eG hl]
 have hnew:(g.push 0 none 0).base g.n=none:=by simp[aJ.push]
 have hold:∀ l b,Live (σ++[.resv]) l->(g.push 0 none 0).base l=some b->Live σ l/\g.base l=some b:=fun l b hl hb=>by
  rcases nu hl with hl|rfl
  ·rw[hbase l (by rw[<-h.len];exact hl.lt)]at hb;exact⟨hl,hb⟩
  ·rw[h.len,hnew]at hb;cases hb
 refine⟨⟨by simp[aJ.push,h.len],h.lt,fun l o' ho=>?_,fun l l' b hl hl' hb hb'=>h.inj l l' b (hold l b hl hb).1 (hold l' b hl' hb').1 (hold l b hl hb).2 (hold l' b hl' hb').2,
  fun l b hl hb hi=>h.sL l b (hold l b hl hb).1 (hold l b hl hb).2 hi,h.glob.mono hm.fL⟩,
  ⟨hm,Nat.le_refl _,rfl,rfl,rfl,fun _ _ _=>rfl,fun b hb hi=> .inl hi,fun b hb ht=>?_⟩⟩
 ·by_cases hl:l < σ.length
  ·rw[aH hl]at ho;have hl':l<g.n:=by rw[<-h.len];exact hl
   exact(h.ok l o' ho).step hm hl' (by simp[aJ.push,eG hl']) (fun _ _=>rfl)
  ·have h1:=(aP.1 ho).1;simp at h1;have h2:l = σ.length:=by omega
   subst h2;simp at ho;subst ho;rw[h.len];exact⟨by simp[aJ.push],hnew,by simp[aJ.push]⟩
 ·obtain⟨l,hl,hb'⟩:=ht;exact⟨l,(hold l b hl hb').1,(hold l b hl hb').2⟩
def Rel.Z8 {g : aJ} {w : World} {σ : ae} (h : Rel g w σ) {n : Nat} (hn : σ[n]? = some .resv) (T : Option TypeId) (el : El) :
    Rel g w (σ.set n (.cz T el []))/\fC σ g w (σ.set n (.cz T el [])) g w:=by
 obtain⟨h1,h2,h3⟩:=h.ok n _ hn
 have:=h.change (w':=w) (o':= .cz T el []) hn rfl (g.ver n) (g.base n) (g.cap n) (g.off n) (Nat.le_refl _) (fun _=>⟨rfl,rfl,rfl⟩) (Nat.le_refl _) rfl rfl rfl (fun _ _ _=>rfl) (fun b hb=> .inl hb)
  (fun _=>by rw[aJ.v8];exact⟨h1,by simp,.inl ⟨rfl,h2,h3⟩⟩)
 rwa[aJ.v8]at this
def xS(w:World)(b i:Nat)(v:Value){c:Nat}(h:c≠b): (w.setCell ⟨b,i,none⟩ v).heap[c]? = w.heap[c]? :=
 Go.RowKit.Below.heap_setCell w ⟨b,i,none⟩ v c h
def Row.set{w:World}{b:Nat}{vs:Array Value}(h:Row w b vs)(i:Nat)(v:Value): Row (w.setCell ⟨b,i,none⟩ v) b (vs.setIfInBounds i v):=by
 obtain⟨T,fz,h1,h2⟩:=h;refine⟨T,fz,?_,fun j hj=>?_⟩
 ·simp[World.setCell,Array.getElem?_modify,h1]
 ·rw[World.frozen?_setCell];exact h2 j (by simpa using hj)
def setRow(w:World)(b:Nat): Nat->List Value->World
 | _,[]=>w
 | i,v::vs=>setRow (w.setCell ⟨b,i,none⟩ v) b (i+1) vs
def putRow(vs:Array Value): Nat->List Value->Array Value
 | _,[]=>vs
 | i,u::us=>putRow (vs.setIfInBounds i u) (i+1) us
def nR (w : World) (b i : Nat) (us : List Value) : (setRow w b i us).heap.size = w.heap.size /\ (setRow w b i us).os = w.os /\ (setRow w b i us).tape = w.tape /\
    (setRow w b i us).output=w.output/\ ∀ c,c≠b->(setRow w b i us).heap[c]? = w.heap[c]?:=by
 induction us generalizing w i with
 | nil=>exact⟨rfl,rfl,rfl,rfl,fun _ _=>rfl⟩
 | cons u us ih =>
   obtain⟨h1,h2,h3,h4,h5⟩:=ih (w.setCell ⟨b,i,none⟩ u) (i+1);exact⟨h1.trans (World.size_setCell ..),h2,h3,h4,fun c hc=>(h5 c hc).trans (xS w b i u hc)⟩
def Row.setRow{w:World}{b:Nat}{vs:Array Value}(h:Row w b vs)(i:Nat)(us:List Value): Row (setRow w b i us) b (putRow vs i us):=by
 induction us generalizing w i vs with
 | nil=>exact h
 | cons u us ih=>exact ih (h.set i u) (i+1)
def L7(w:World)(b i:Nat)(v:Value)(c:Nat): (w.setCell ⟨b,i,none⟩ v).shape? c=w.shape? c:=by
 by_cases h:c=b
 ·subst h;simp only[World.shape?,World.setCell,Array.getElem?_modify,if_true];cases w.heap[c]? with
  | none=>rfl
  | some o=>cases o<;>simp
 ·simp only[World.shape?,xS w b i v h]
def pG(w:World)(b i:Nat)(us:List Value)(c:Nat): (setRow w b i us).shape? c=w.shape? c:=by
 induction us generalizing w i with
 | nil=>rfl
 | cons u us ih=>exact(ih (w.setCell ⟨b,i,none⟩ u) (i+1)).trans (L7 w b i u c)
def size_putRow(vs:Array Value)(i:Nat)(us:List Value): (putRow vs i us).size=vs.size:=by
 induction us generalizing vs i with
 | nil=>rfl
 | cons u us ih=>simp[putRow,ih]
def lX (vs : Array Value) (i : Nat) (us : List Value) (hi : i + us.length <= vs.size) (j : Nat) (d : Value) :
    (putRow vs i us).getD j d=if i<=j/\j<i+us.length then us.getD (j-i) d else vs.getD j d:=by
 induction us generalizing vs i with
 | nil=>simp[putRow];intro h1 h2;omega
 | cons u us ih =>
   simp only[List.length_cons]at hi;rw[putRow,ih (vs.setIfInBounds i u) (i+1) (by simp;omega)];by_cases h1:i+1<=j/\j<i+1+us.length
   ·rw[if_pos h1,if_pos (by simp only[List.length_cons];omega)];obtain⟨k,rfl⟩:∃ k,j=i+1+k:=⟨j-(i+1),by omega⟩;rw[show i+1+k-(i+1)=k by omega,show i+1+k-i=k+1 by omega];simp
   ·rw[if_neg h1];by_cases h2:j=i
    ·subst h2;rw[if_pos (by simp only[List.length_cons];omega)];have hlt:j<vs.size:=by omega
     simp[hlt]
    ·rw[if_neg (by simp only[List.length_cons];omega)];simp[Array.getElem?_setIfInBounds_ne (Ne.symm h2)]
