/- Part. -/
import Derived.Test.YtcjcnfcedihckaaGreatDoorProg
import Derived.Lib.ItoaMem
import Derived.KernelRfl
import Derived.Calls
import Derived.Orders
import Derived.Below
set_option linter.all false
namespace Go.Proofs
noncomputable abbrev aE:=Tryz.prog
end Go.Proofs
namespace Go
def aD:=@Bool.and_eq_true
def aC:=@List.length_append
def aj:=@List.getD_eq_getElem?_getD
def aR:=@List.map_cons
def aK:=@List.getElem?_eq_getElem
def aS:=@Bool.eq_iff_iff
def aN:=@List.getElem?_append_left
def bu:=@List.map_nil
def bD:=@Nat.zero_le
def aP:=@List.getElem?_eq_some_iff
def bq:=@List.all_eq_true
def aT:=@List.take_of_length_le
def aW:=@Option.map_eq_some_iff
def bB:=@Option.getD_some
def bA:=@List.getElem_of_mem
def bY:=@Nat.le_trans
def cj:=@Nat.zero_add
def bS:=@List.length_map
def bE:=@Nat.mul_le_mul_right
def cY:=@Nat.add_mul
def bR:=@List.getD_cons_zero
def bW:=@Bool.not_eq_true'
def cV:=@Nat.succ_mul
def cz:=@Bool.or_eq_true
def cW:=@List.mem_map
def de:=@Nat.add_zero
def c8:=@Nat.add_assoc
def cF:=@List.cons_append
def c_:=@Bool.true_and
def cS:=@Option.map_some
def dA:=@Bool.false_and
def cE:=@List.mem_cons_of_mem
def dB:=@List.nil_append
def dI:=@List.mem_range
def dJ:=@Bool.and_false
def cZ:=@Nat.lt_of_lt_of_le
def dD:=@List.getElem_mem
def dL:=@Nat.not_lt_zero
def cN:=@Array.getElem_eq_getD
def ek:=@List.map_append
def dy:=@List.find?_eq_none
def cB:=@List.getElem?_append_right
def ff:=@List.take_zero
def eL:=@List.find?_some
def fA:=@Int.toNat_one
def fJ:=@Bool.not_false
def eY:=@List.length_take
def eZ:=@List.flatMap_nil
def g_:=@Bool.and_true
def eF:=@List.takeWhile_cons
def dN:=@List.drop_of_length_le
def gk:=@Option.bind_some
def dG:=@Array.getElem?_eq_some_iff
def fQ:=@List.flatMap_cons
def fR:=@Int.toNat_natCast
def e6:=@Array.toArray_toList
def e7:=@List.mem_append_left
def fm:=@List.getD_cons_succ
def fS:=@List.any_eq_false
def eM:=@Option.isSome_iff_exists
def ez:=@List.drop_eq_getElem_cons
def gy:=@Bool.true_eq_false
def iz:=@Array.length_toList
def fj:=@Array.getElem?_append_left
def gC:=@List.getElem?_toArray
def fO:=@List.getElem?_cons_zero
def fP:=@List.getElem?_cons_succ
def gD:=@List.length_replicate
def gZ:=@List.mem_of_getElem?
def fx:=@List.mem_of_find?_eq_some
def iF:=@List.drop_eq_nil_of_le
def fT:=@Array.getD_eq_getD_getElem?
def f_:=@List.isPrefixOf_iff_prefix
def hY:=@List.eq_nil_of_length_eq_zero
end Go
namespace Go.AM
def CJ: List Nat:=[3,6,7]
def Lu (w : World) : Prop := Lib.TabIs Go.Proofs.Tryz.prog w "internal/strconv.uint64pow10" .u64 Lib.pow10Tab
def vf(w:World)(s:String): Prop:= ∃ t p,w.var? Go.Proofs.Tryz.prog s=some #[.iface t p]
def Fy (w : World) : Prop := Lu w ∧ vf w "strconv.ErrSyntax" ∧ vf w "strconv.ErrRange"
def Jm : Go.Proofs.Tryz.prog.globalNamed "internal/strconv.uint64pow10" = some 3 := by kernel_rfl
def Jn : Go.Proofs.Tryz.prog.globalNamed "strconv.ErrSyntax" = some 6 := by kernel_rfl
def Jo : Go.Proofs.Tryz.prog.globalNamed "strconv.ErrRange" = some 7 := by kernel_rfl
def vf.of_heap{w w':World}{s:String}{g:Nat}(hg:Go.Proofs.Tryz.prog.globalNamed s=some g)(h:vf w s)(hb:w'.heap[g]? = w.heap[g]?): vf w' s:=by
 unfold vf World.var? at *;simp only[hg,gk]at h ⊢;rw[hb];exact h
def Fy.of_heap{w w':World}(h:Fy w)(hb:∀ b ∈ CJ,w'.heap[b]? = w.heap[b]?): Fy w':=by
 obtain⟨h1,h2,h3⟩:=h;refine⟨?_,h2.of_heap Jn (hb 6 (by simp[CJ])),h3.of_heap Jo (hb 7 (by simp[CJ]))⟩;unfold Lu Lib.TabIs World.var? at *;simp only[Jm,gk]at h1 ⊢;rw[hb 3 (by simp[CJ])];exact h1
structure El where
 ag:Bool
 sz:Nat
deriving DecidableEq,Inhabited,Repr
inductive AV where
 | undef
 | bool (b:Bool)
 | int (k:IntKind) (n:Int)
 | str (s:List UInt8)
 | agg (cs:List AV)
 | bJ (vs:List AV)
 | ai
 | aF (full:Bool) (el:El) (xs:List AV)
 | own (el:El) (l m lo n:Nat)
 | ref (l off:Nat)
 | eA (el:El) (x:AV) (off:Nat)
 | eG (el:El) (l m i off:Nat)
 | iE
 | qo
 | ja
 | fn (f:Fn) (first cap:List AV)
 | j6 (t:TypeId) (v:AV)
 | mg
 | mp (l:Nat)
 | si (l:Nat)
 | vg (el:El) (p:AV) (n:Nat)
 | pC
deriving Inhabited
def AV.scalar: AV->Bool
 | .agg _ | .bJ _ | .undef=>false
 | _=>true
def AV.cell: AV->Nat->AV
 | .agg cs,i=>cs.getD i .undef
 | v,_=>v
def AV.cells: AV->List AV
 | .agg cs=>cs
 | v=>[v]
def AV.fits(el:El): AV->Bool
 | .agg cs=>el.ag && cs.length==el.sz && cs.all AV.scalar
 | .bJ _ | .undef=>false
 | _=> !el.ag && el.sz==1
structure aM where
 fH:Nat->Prop
 n:Nat
 ver:Nat->Nat
 base:Nat->Option Nat
 cap:Nat->Nat
 off:Nat->Nat
def dP(w:World)(a:Addr): Value:=(w.cell? a).getD undef
def acu(g:aM)(el:El)(l m lo n:Nat)(v:Value): Prop :=
 l < g.n /\ m <= g.ver l /\ ∃ A cap, v = .slice A n cap /\ (m = g.ver l -> lo + n <= m /\ cap + lo = g.cap l /\
   (lo<g.cap l->A=(g.base l).map fun b=>⟨b,g.off l+lo*el.sz,none⟩))
def acv(g:aM)(l off:Nat)(v:Value): Prop :=
 (l<g.n/\1<=g.ver l)/\ ∃ A,v = .pointer (some A)/\(g.ver l=1->g.base l=some A.block/\A=⟨A.block,off,none⟩)
def aaS(g:aM)(el:El)(l m i off:Nat)(v:Value): Prop :=
 l<g.n/\m<=g.ver l/\ ∃ A,v = .pointer (some A)/\(m=g.ver l->g.base l=some A.block/\A=⟨A.block,g.off l+i*el.sz+off,none⟩)
def MpP(g:aM)(l:Nat)(v:Value): Prop :=
 l<g.n/\ ∃ b,v = .map (some b)/\(g.ver l=0->g.base l=some b)
def acw(g:aM)(l:Nat)(v:Value): Prop :=
 l<g.n/\ ∃ b,v = .func (.yield b) #[] #[]/\(g.ver l=0->g.base l=some b)
inductive VR (g:aM) (w:World):AV->Value->Prop where
 | undef (v:Value):VR g w .undef v
 | bool (b:Bool):VR g w (.bool b) (.bool b)
 | int (k:IntKind) (n:Int):VR g w (.int k n) (.int k n)
 | str (s:List UInt8):VR g w (.str s) (.string ⟨s.toArray⟩)
 | agg (cs : List AV) (vs : Array Value) (hl : cs.length = vs.size) (hs : cs.all AV.scalar = true)
    (h:∀ i,i<cs.length->VR g w (cs.getD i .undef) (vs.getD i Go.undef)):VR g w (.agg cs) (.agg vs)
 | bJ (cs : List AV) (vs : Array Value) (hl : cs.length = vs.size)
    (h:∀ i,i<cs.length->VR g w (cs.getD i .undef) (vs.getD i Go.undef)):VR g w (.bJ cs) (.tuple vs)
 | ai:VR g w .ai (.slice none 0 0)
 | kg (f:Bool) (el:El) (b:Option Addr) (cap:Nat) (hf:f=true->cap=0):VR g w (.aF f el []) (.slice b 0 cap)
 | aF (f : Bool) (el : El) (xs : List AV) (b off cap : Nat) (hi : g.fH b) (hf : f = true -> cap = xs.length) (hx : xs.length <= cap)
    (ft:∀ i,i<xs.length->(xs.getD i .undef).fits el=true)
    (hc:∀ i c,i<xs.length->c<el.sz->(w.cell? ⟨b,off+(i*el.sz+c),none⟩).isSome=true)
    (h:∀ i c,i<xs.length->c<el.sz->VR g w ((xs.getD i .undef).cell c) (dP w ⟨b,off+(i*el.sz+c),none⟩)) :
    VR g w (.aF f el xs) (.slice (some ⟨b,off,none⟩) xs.length cap)
 | own (el:El) (l m lo n:Nat) (v:Value) (h:acu g el l m lo n v):VR g w (.own el l m lo n) v
 | ref (l off:Nat) (v:Value) (h:acv g l off v):VR g w (.ref l off) v
 | eA (el : El) (x : AV) (off b o : Nat) (hi : g.fH b) (ft : x.fits el = true)
    (hc:∀ c,c<el.sz->(w.cell? ⟨b,o+c,none⟩).isSome=true)
    (h:∀ c,c<el.sz->VR g w (x.cell c) (dP w ⟨b,o+c,none⟩)) :
    VR g w (.eA el x off) (.pointer (some ⟨b,o+off,none⟩))
 | eG (el:El) (l m i off:Nat) (v:Value) (h:aaS g el l m i off v):VR g w (.eG el l m i off) v
 | iE:VR g w .iE (.pointer none)
 | qo:VR g w .qo .nilFunc
 | ja:VR g w .ja .nilIface
 | fn (f : Fn) (first cap : List AV) (first' cap' : Array Value) (hl : first.length = first'.size) (hl' : cap.length = cap'.size)
    (h:∀ i,i<first.length->VR g w (first.getD i .undef) (first'.getD i Go.undef))
    (h':∀ i,i<cap.length->VR g w (cap.getD i .undef) (cap'.getD i Go.undef)):VR g w (.fn f first cap) (.func f first' cap')
 | j6 (t:TypeId) (a:AV) (v:Value) (h:VR g w a v):VR g w (.j6 t a) (.iface t v)
 | mg:VR g w .mg (.map none)
 | mp (l:Nat) (v:Value) (h:MpP g l v):VR g w (.mp l) v
 | si (l:Nat) (v:Value) (h:acw g l v):VR g w (.si l) v
 | pC (v:Value) (h:v.oneCell'=true):VR g w .pC v
 | vg (el:El) (p:AV) (n:Nat) (A:Addr) (cap:Nat) (hn:0<n) (hc:n<=cap) (h:VR g w p (.pointer (some A))):VR g w (.vg el p n) (.slice (some A) n cap)
structure kH (g:aM) (w:World) (g':aM) (w':World):Prop where
 fH:∀ b,g.fH b->g'.fH b/\w'.heap[b]? = w.heap[b]?
 n:g.n<=g'.n
 ver:∀ l,l<g.n->g.ver l<=g'.ver l/\(g'.ver l=g.ver l->g'.base l=g.base l/\g'.cap l=g.cap l/\g'.off l=g.off l)
def kH.refl(g:aM)(w:World): kH g w g w:=⟨fun _ h=>⟨h,rfl⟩,Nat.le_refl _,fun _ _=>⟨Nat.le_refl _,fun _=>⟨rfl,rfl,rfl⟩⟩⟩
def kH.trans{g1 g2 g3:aM}{w1 w2 w3:World}(h:kH g1 w1 g2 w2)(k:kH g2 w2 g3 w3): kH g1 w1 g3 w3:=by
 refine⟨fun b hb=>?_,bY h.n k.n,fun l hl=>?_⟩
 ·obtain⟨h1,h2⟩:=h.fH b hb;obtain⟨h3,h4⟩:=k.fH b h1;exact⟨h3,h4.trans h2⟩
 ·obtain⟨a1,a2⟩:=h.ver l hl;obtain⟨b1,b2⟩:=k.ver l (cZ hl h.n);refine⟨bY a1 b1,fun e=>?_⟩;have e1:g2.ver l=g1.ver l:=by omega
  have e2:g3.ver l=g2.ver l:=by omega
  exact⟨(b2 e2).1.trans (a2 e1).1,(b2 e2).2.1.trans (a2 e1).2.1,(b2 e2).2.2.trans (a2 e1).2.2⟩
def lN{w w':World}{b:Nat}(h:w'.heap[b]? = w.heap[b]?)(o:Nat)(s:Option Nat): w'.cell? ⟨b,o,s⟩=w.cell? ⟨b,o,s⟩:=by
 simp only[World.cell?,h]
def FA{w w':World}{b:Nat}(h:w'.heap[b]? = w.heap[b]?)(o:Nat)(s:Option Nat): w'.frozen? ⟨b,o,s⟩=w.frozen? ⟨b,o,s⟩:=by
 simp only[World.frozen?,h]
def qd{w w':World}{b:Nat}(h:w'.heap[b]? = w.heap[b]?)(o:Nat)(s:Option Nat): dP w' ⟨b,o,s⟩=dP w ⟨b,o,s⟩:=by
 simp only[dP,lN h]
def VR.mono{g g':aM}{w w':World}(hm:kH g w g' w'){a:AV}{v:Value}(h:VR g w a v): VR g' w' a v:=by
 induction h with
 | undef v=>exact .undef v
 | bool b=>exact .bool b
 | int k n=>exact .int k n
 | str s=>exact .str s
 | agg cs vs hl hs _ ih=>exact .agg cs vs hl hs ih
 | bJ cs vs hl _ ih=>exact .bJ cs vs hl ih
 | ai=>exact .ai
 | kg f el b cap hf=>exact .kg f el b cap hf
 | aF f el xs b off cap hi hf hx ft hc _ ih =>
   obtain⟨hi',he⟩:=hm.fH b hi;refine .aF f el xs b off cap hi' hf hx ft (fun i c h1 h2=>?_) (fun i c h1 h2=>?_)
   ·rw[lN he];exact hc i c h1 h2
   ·rw[qd he];exact ih i c h1 h2
 | own el l m lo n v h =>
   obtain⟨h1,h2,A,cap,h3,h4⟩:=h;obtain⟨v1,v2⟩:=hm.ver l h1;refine .own el l m lo n v ⟨cZ h1 hm.n,bY h2 v1,A,cap,h3,fun e=>?_⟩;have e1:g'.ver l=g.ver l:=by omega
   obtain⟨b1,b2,b3⟩:=v2 e1;rw[b1,b2,b3];exact h4 (by omega)
 | ref l off v h =>
   obtain⟨⟨h1,h0⟩,A,h2,h3⟩:=h;obtain⟨v1,v2⟩:=hm.ver l h1;refine .ref l off v ⟨⟨cZ h1 hm.n,bY h0 v1⟩,A,h2,fun e=>?_⟩;have e1:g'.ver l=g.ver l:=by omega
   rw[(v2 e1).1];exact h3 (by omega)
 | eA el x off b o hi ft hc _ ih =>
   obtain⟨hi',he⟩:=hm.fH b hi;refine .eA el x off b o hi' ft (fun c h2=>?_) (fun c h2=>?_)
   ·rw[lN he];exact hc c h2
   ·rw[qd he];exact ih c h2
 | eG el l m i off v h =>
   obtain⟨h1,h2,A,h3,h4⟩:=h;obtain⟨v1,v2⟩:=hm.ver l h1;refine .eG el l m i off v ⟨cZ h1 hm.n,bY h2 v1,A,h3,fun e=>?_⟩;have e1:g'.ver l=g.ver l:=by omega
   rw[(v2 e1).1,(v2 e1).2.2];exact h4 (by omega)
 | iE=>exact .iE
 | qo=>exact .qo
 | ja=>exact .ja
 | fn f first cap first' cap' hl hl' _ _ ih FB=>exact .fn f first cap first' cap' hl hl' ih FB
 | j6 t a v _ ih=>exact .j6 t a v ih
 | mg=>exact .mg
 | pC v h=>exact .pC v h
 | mp l v h =>
   obtain⟨h1,b,h2,h3⟩:=h;obtain⟨v1,v2⟩:=hm.ver l h1;refine .mp l v ⟨cZ h1 hm.n,b,h2,fun e=>?_⟩;have e1:g'.ver l=g.ver l:=by omega
   rw[(v2 e1).1];exact h3 (by omega)
 | si l v h =>
   obtain⟨h1,b,h2,h3⟩:=h;obtain⟨v1,v2⟩:=hm.ver l h1;refine .si l v ⟨cZ h1 hm.n,b,h2,fun e=>?_⟩;have e1:g'.ver l=g.ver l:=by omega
   rw[(v2 e1).1];exact h3 (by omega)
 | vg el p n A cap hn hc _ ih=>exact .vg el p n A cap hn hc ih
def VR.CK{g:aM}{w:World}{a:AV}{v:Value}(h:VR g w a v)(hs:a.scalar=true): v.oneCell'=true:=by
 cases h<;>first
  | rfl
  |(simp[AV.scalar]at hs;done)
  | skip
 case own h=>obtain⟨_,_,A,cap,rfl,_⟩:=h;rfl
 case ref h=>obtain⟨_,A,rfl,_⟩:=h;rfl
 case eG h=>obtain⟨_,_,A,rfl,_⟩:=h;rfl
 case mp h=>obtain⟨_,A,rfl,_⟩:=h;rfl
 case pC h=>exact h
 case si h=>obtain⟨_,A,rfl,_⟩:=h;rfl
inductive bx where
 | bM (T:Option TypeId) (cs:List AV)
 | cy (T:Option TypeId) (el:El) (xs:List AV)
 | iO (s:List UInt8) (pos:Nat)
 | map (es:List (AV × AV))
 | loop (nt:Nat) (e:Nat->AV) (ps:Array Tmp) (assign body:Code) (st:LoopState) (ae0:Option Code)
 | dead
 | resv
deriving Inhabited
abbrev bx.cells(cs:List AV): bx:= .bM none cs
abbrev bx.vec(el:El)(xs:List AV): bx:= .cy none el xs
def vi(w:World)(b n:Nat): Option TypeId->Prop
 | none=>True
 | some T=>w.shape? b=some (T,n)
def vi.of_heap{w w':World}{b n:Nat}{T:Option TypeId}(h:vi w b n T)(he:w'.heap[b]? = w.heap[b]?): vi w' b n T:=by
 cases T with
 | none=>trivial
 | some T=>simp only[vi,World.shape?]at *;rw[he];exact h
def Ps(w:World)(b n o:Nat): Option TypeId->Prop
 | none=>True
 | some T=>w.shape? b=some (T,n)/\o=0
def Ps.of_heap{w w':World}{b n o:Nat}{T:Option TypeId}(h:Ps w b n o T)(he:w'.heap[b]? = w.heap[b]?): Ps w' b n o T:=by
 cases T with
 | none=>trivial
 | some T=>simp only[Ps,World.shape?]at *;rw[he];exact h
def vi.v{w:World}{b n:Nat}{T:Option TypeId}(h:vi w b n T): Ps w b n 0 T:=by
 cases T with
 | none=>trivial
 | some T=>exact⟨h,rfl⟩
abbrev ae:=List bx
def bx.live: bx->Bool
 | .dead=>false
 | _=>true
def Live(σ : ae)(l:Nat): Prop:= ∃ o,σ[l]? = some o/\o.live=true
def lO(σ : ae)(g:aM)(b:Nat): Prop:= ∃ l,Live σ l/\g.base l=some b
def Row(w:World)(b:Nat)(vs:Array Value): Prop :=
 ∃ T fz,w.heap[b]? = some (.cells vs T fz)/\ ∀ i,i<vs.size->w.frozen? ⟨b,i,none⟩=false
def bx.Ok(g:aM)(w:World)(l:Nat): bx->Prop
 | .bM T cs => g.ver l = 1 /\ cs.all AV.scalar = true /\ ∃ b vs, g.base l = some b /\ Row w b vs /\ vs.size = cs.length /\
    (∀ i,i<cs.length->VR g w (cs.getD i .undef) (vs.getD i Go.undef))/\vi w b cs.length T
 | .cy T el xs => g.ver l = xs.length /\ (∀ i, i < xs.length -> (xs.getD i .undef).fits el = true) /\
    ((xs = [] /\ g.base l = none /\ g.cap l = 0 /\ g.off l = 0) \/
      ∃ b vs, g.base l = some b /\ Row w b vs /\ vs.size = g.off l + g.cap l * el.sz /\ xs.length <= g.cap l /\
        (∀ i c,i<xs.length->c<el.sz->VR g w ((xs.getD i .undef).cell c) (vs.getD (g.off l+i*el.sz+c) Go.undef))/\Ps w b vs.size (g.off l) T)
 | .iO s pos=>g.ver l=1/\ ∃ b,g.base l=some b/\w.heap[b]? = some (.stringIter ⟨s.toArray⟩ pos)
 | .map es => g.ver l = 0 /\ ∃ b ms clock, g.base l = some b /\ w.heap[b]? = some (.map ms clock) /\ ms.size = es.length /\ (clock = es.length /\ ∀ i, i < es.length -> (ms.getD i default).born = i) /\
    ∀ i,i<es.length->VR g w (es.getD i default).1 (ms.getD i default).key/\VR g w (es.getD i default).2 (ms.getD i default).val
 | .loop nt e ps ca cb st pe => g.ver l = 0 /\ ∃ b rec, g.base l = some b /\ w.heap[b]? = some (.loop rec) /\ rec.params = ps /\ rec.assign = ca /\ rec.body = cb /\ rec.state = st /\ rec.pending = pe /\
    rec.tmps.size=nt/\ ∀ t,t<nt->VR g w (e t) (rec.tmps.getD t Go.undef)
 | .dead=>True
 | .resv=>g.ver l=0/\g.base l=none/\g.cap l=0/\g.off l=0
def wz(g:aM)(w:World): Prop:=(∀ b ∈ CJ,g.fH b)/\Fy w
def wz.mono{g g':aM}{w w':World}(h:wz g w)(hm:∀ b,g.fH b->g'.fH b/\w'.heap[b]? = w.heap[b]?): wz g' w' :=
 ⟨fun b hb=>(hm b (h.1 b hb)).1,h.2.of_heap fun b hb=>(hm b (h.1 b hb)).2⟩
structure Rel (g:aM) (w:World) (σ : ae):Prop where
 len : σ.length=g.n
 lt:∀ b,g.fH b->b<w.heap.size
 ok:∀ (l:Nat) (o:bx),σ[l]? = some o->o.Ok g w l
 inj:∀ l l' b,Live σ l->Live σ l'->g.base l=some b->g.base l'=some b->l=l'
 ug:∀ l b,Live σ l->g.base l=some b->¬ g.fH b
 glob:wz g w
structure ik (σ : ae) (g:aM) (w:World) (σ':ae) (g':aM) (w':World):Prop where
 mono:kH g w g' w'
 size:w.heap.size<=w'.heap.size
 os:w'.os=w.os
 tape:w'.tape=w.tape
 output:w'.output=w.output
 frame:∀ b,b<w.heap.size->¬ lO σ g b->w'.heap[b]? = w.heap[b]?
 xL:∀ b,b<w.heap.size->g'.fH b->g.fH b\/lO σ g b
 Jp:∀ b,b<w.heap.size->lO σ' g' b->lO σ g b
def ik.refl(σ : ae)(g:aM)(w:World): ik σ g w σ g w :=
 ⟨.refl _ _,Nat.le_refl _,rfl,rfl,rfl,fun _ _ _=>rfl,fun _ _ h=> .inl h,fun _ _ h=>h⟩
def ik.trans{σ1 σ2 σ3:ae}{g1 g2 g3:aM}{w1 w2 w3:World}(h:ik σ1 g1 w1 σ2 g2 w2)(k:ik σ2 g2 w2 σ3 g3 w3): ik σ1 g1 w1 σ3 g3 w3:=by
 refine⟨h.mono.trans k.mono,bY h.size k.size,k.os.trans h.os,k.tape.trans h.tape,k.output.trans h.output,fun b hb ht=>?_,fun b hb hi=>?_,fun b hb ht=>?_⟩
 ·rw[k.frame b (cZ hb h.size) (fun t=>ht (h.Jp b hb t)),h.frame b hb ht]
 ·rcases k.xL b (Nat.lt_of_lt_of_le hb h.size) hi with h1|h1
  ·exact h.xL b hb h1
  ·exact .inr (h.Jp b hb h1)
 ·exact h.Jp b hb (k.Jp b (cZ hb h.size) ht)
def ik.drew(σ : ae)(g:aM)(w:World)(d:Nat): ik σ g w σ g { w with drawn:=d } :=
 ⟨⟨fun _ h=>⟨h,rfl⟩,Nat.le_refl _,fun _ _=>⟨Nat.le_refl _,fun _=>⟨rfl,rfl,rfl⟩⟩⟩,Nat.le_refl _,rfl,rfl,rfl,fun _ _ _=>rfl,fun _ _ h=> .inl h,fun _ _ h=>h⟩
def Row.lt{w:World}{b:Nat}{vs:Array Value}(h:Row w b vs): b<w.heap.size:=by
 obtain⟨T,fz,h,_⟩:=h;exact(dG.1 h).1
def Row.of_heap{w w':World}{b:Nat}{vs:Array Value}(h:Row w b vs)(he:w'.heap[b]? = w.heap[b]?): Row w' b vs:=by
 obtain⟨T,fz,h,hf⟩:=h;exact⟨T,fz,he.trans h,fun i hi=>(FA he i none).trans (hf i hi)⟩
def Row.cell{w:World}{b:Nat}{vs:Array Value}(h:Row w b vs){i:Nat}(hi:i<vs.size): w.cell? ⟨b,i,none⟩=some (vs.getD i Go.undef):=by
 obtain⟨T,fz,h,_⟩:=h;simp[World.cell?,h,hi]
def bx.Ok.step {g g' : aM} {w w' : World} {l : Nat} {o : bx} (h : o.Ok g w l) (hm : kH g w g' w') (hl : l < g.n)
    (hv:g'.ver l=g.ver l) (hb:∀ b,g.base l=some b->w'.heap[b]? = w.heap[b]?):o.Ok g' w' l:=by
 obtain⟨e1,e2,e3⟩:=(hm.ver l hl).2 hv;cases o with
 | bM T cs =>
   obtain⟨h1,hs,b,vs,h2,h3,h4,h5,h6⟩:=h;exact⟨hv.trans h1,hs,b,vs,e1.trans h2,h3.of_heap (hb b h2),h4,fun i hi=>(h5 i hi).mono hm,h6.of_heap (hb b h2)⟩
 | cy T el xs =>
   obtain⟨h1,hf,h2⟩:=h;refine⟨hv.trans h1,hf,?_⟩;rcases h2 with⟨h2,h3,h4⟩|⟨b,vs,h2,h3,h4,h5,h6,h7⟩
   ·exact .inl ⟨h2,e1.trans h3,e2.trans h4.1,e3.trans h4.2⟩
   ·exact .inr ⟨b,vs,e1.trans h2,h3.of_heap (hb b h2),by rw[e2,e3];exact h4,by rw[e2];exact h5,fun i c hi hc=>by rw[e3];exact(h6 i c hi hc).mono hm,by rw[e3];exact h7.of_heap (hb b h2)⟩
 | iO s pos =>
   obtain⟨h1,b,h2,h3⟩:=h;exact⟨hv.trans h1,b,e1.trans h2,(hb b h2).trans h3⟩
 | map es =>
   obtain⟨h1,b,ms,clock,h2,h3,h4,h6,h5⟩:=h;exact⟨hv.trans h1,b,ms,clock,e1.trans h2,(hb b h2).trans h3,h4,h6,fun i hi=>⟨(h5 i hi).1.mono hm,(h5 i hi).2.mono hm⟩⟩
 | loop nt e ps ca cb st pe =>
   obtain⟨h1,b,rec,h2,h3,h4,h5,h6,h7,h8,h9,h10⟩:=h;exact⟨hv.trans h1,b,rec,e1.trans h2,(hb b h2).trans h3,h4,h5,h6,h7,h8,h9,fun t ht=>(h10 t ht).mono hm⟩
 | dead=>trivial
 | resv=>exact⟨hv.trans h.1,e1.trans h.2.1,e2.trans h.2.2.1,e3.trans h.2.2.2⟩
def Rel.kq{g:aM}{w:World}{σ : ae}(h:Rel g w σ){l b:Nat}(hl:Live σ l)(hb:g.base l=some b): b<w.heap.size:=by
 obtain⟨o,ho,hv⟩:=hl;have:=h.ok l o ho;cases o with
 | bM T cs=>obtain⟨_,_,b',vs,h2,h3,_⟩:=this;rw[hb]at h2;cases h2;exact h3.lt
 | cy T el xs =>
   obtain⟨_,_,h2⟩:=this;rcases h2 with⟨_,h3,_⟩|⟨b',vs,h2,h3,_⟩
   ·rw[hb]at h3;cases h3
   ·rw[hb]at h2;cases h2;exact h3.lt
 | iO s pos=>obtain⟨_,b',h2,h3⟩:=this;rw[hb]at h2;cases h2;exact(Array.getElem?_eq_some_iff.1 h3).1
 | map es=>obtain⟨_,b',_,_,h2,h3,_⟩:=this;rw[hb]at h2;cases h2;exact(Array.getElem?_eq_some_iff.1 h3).1
 | loop nt e ps ca cb st pe=>obtain⟨_,b',_,h2,h3,_⟩:=this;rw[hb]at h2;cases h2;exact(Array.getElem?_eq_some_iff.1 h3).1
 | dead=>simp[bx.live]at hv
 | resv=>rw[this.2.1]at hb;cases hb
def Rel.FC{g:aM}{w:World}{σ : ae}(h:Rel g w σ){b:Nat}(ht:lO σ g b): b<w.heap.size :=
 let ⟨_,hl,hb⟩:=ht;h.kq hl hb
def Live.lt{σ : ae}{l:Nat}(h:Live σ l): l < σ.length:=by
 obtain⟨o,ho,_⟩:=h;exact(aP.1 ho).1
def heap_alloc_old(w:World)(o:Obj){b:Nat}(h:b<w.heap.size): (w.alloc o).heap[b]? = w.heap[b]?:=by
 exact Go.RowKit.Below.heap_alloc w o b h
def heap_alloc_new(w:World)(o:Obj): (w.alloc o).heap[w.heap.size]? = some o:=by
 show(w.heap.push o)[w.heap.size]? = _;simp
def Rel.drew{g:aM}{w:World}{σ : ae}(h:Rel g w σ)(d:Nat): Rel g { w with drawn:=d } σ :=
 ⟨h.len,h.lt,fun l o ho=>(h.ok l o ho).step (ik.drew σ g w d).mono (by rw[<-h.len];exact(aP.1 ho).1) rfl (fun _ _=>rfl),h.inj,h.ug,h.glob.mono fun _ hb=>⟨hb,rfl⟩⟩
def aM.k_(g:aM)(b:Nat): aM:= { g with fH:=fun c=>g.fH c\/c=b }
def aM.push(g:aM)(v:Nat)(b:Option Nat)(c:Nat)(o:Nat:=0): aM :=
 { g with n:=g.n+1,off:=fun l=>if l=g.n then o else g.off l,ver:=fun l=>if l=g.n then v else g.ver l,base:=fun l=>if l=g.n then b else g.base l,cap:=fun l=>if l=g.n then c else g.cap l }
def xM(g:aM)(w:World)(o:Obj)(hlt:∀ b,g.fH b->b<w.heap.size): kH g w (g.k_ w.heap.size) (w.alloc o) :=
 ⟨fun b h=>⟨.inl h,heap_alloc_old w o (hlt b h)⟩,Nat.le_refl _,fun _ _=>⟨Nat.le_refl _,fun _=>⟨rfl,rfl,rfl⟩⟩⟩
def nY(g:aM)(w:World)(o:Obj)(v:Nat)(b:Option Nat)(c:Nat)(hlt:∀ b,g.fH b->b<w.heap.size): kH g w (g.push v b c) (w.alloc o) :=
 ⟨fun b h => ⟨h, heap_alloc_old w o (hlt b h)⟩, Nat.le_succ _, fun l hl => by
   have:l≠g.n:=Nat.ne_of_lt hl;simp[aM.push,this]⟩
def Rel.U0{g:aM}{w:World}{σ : ae}(h:Rel g w σ)(o:Obj): Rel (g.k_ w.heap.size) (w.alloc o) σ/\ik σ g w σ (g.k_ w.heap.size) (w.alloc o):=by
 have hm:=xM g w o h.lt;refine⟨⟨h.len,fun b hb=>?_,fun l o' ho=>?_,h.inj,fun l b hl hb hi=>?_,h.glob.mono hm.fH⟩,⟨hm,by simp,rfl,rfl,rfl,fun b hb _=>heap_alloc_old w o hb,fun b hb hi=>?_,fun b _ ht=>ht⟩⟩
 ·rcases hb with hb|rfl
  ·have:=h.lt b hb;simp;omega
  ·simp
 ·have hl:l<g.n:=by rw[<-h.len];exact(aP.1 ho).1
  by_cases hv:o'.live=true
  ·exact(h.ok l o' ho).step hm hl rfl (fun b hb=>heap_alloc_old w o (h.kq ⟨o',ho,hv⟩ hb))
  ·cases o'<;>simp[bx.live]at hv;trivial
 ·rcases hi with hi|rfl
  ·exact h.ug l b hl hb hi
  ·exact absurd (h.kq hl hb) (Nat.lt_irrefl _)
 ·rcases hi with hi|rfl
  ·exact .inl hi
  ·exact absurd hb (Nat.lt_irrefl _)
def nL{σ : ae}{o:bx}{l:Nat}(h:Live (σ++[o]) l): Live σ l\/l = σ.length:=by
 obtain⟨o',ho,hv⟩:=h;by_cases hl:l < σ.length
 ·exact .inl ⟨o',by rwa[aN hl]at ho,hv⟩
 ·have:=(aP.1 ho).1;simp at this;exact .inr (by omega)
def Rel.YB {g0 g : aM} {w0 w w' : World} {qC σ : ae} {D : Nat} (h : Rel g w σ) (hev : ik qC g0 w0 σ g w) (hD : w0.heap.size <= D) (ht : ¬ lO σ g D) (hi : ¬ g.fH D)
    (hsz:w'.heap.size=w.heap.size) (hos:w'.os=w.os) (yJ:w'.tape=w.tape) (hout:w'.output=w.output) (uw:∀ c,c≠D->w'.heap[c]? = w.heap[c]?) :
    Rel g w' σ/\ik qC g0 w0 σ g w'/\kH g w g w':=by
 have hm:kH g w g w':=⟨fun b hb=>⟨hb,uw b (fun e=>hi (e ▸ hb))⟩,Nat.le_refl _,fun _ _=>⟨Nat.le_refl _,fun _=>⟨rfl,rfl,rfl⟩⟩⟩
 refine⟨⟨h.len,fun b hb=>by rw[hsz];exact h.lt b hb,fun l o' ho=>?_,h.inj,h.ug,h.glob.mono hm.fH⟩,
  ⟨hev.mono.trans hm,by rw[hsz];exact hev.size,hos.trans hev.os,yJ.trans hev.tape,hout.trans hev.output,fun b hb hnt=>(uw b (by omega)).trans (hev.frame b hb hnt),hev.xL,hev.Jp⟩,hm⟩
 have hl:l<g.n:=by rw[<-h.len];exact(aP.1 ho).1
 by_cases hv:o'.live=true
 ·exact(h.ok l o' ho).step hm hl rfl (fun b hb=>uw b (fun e=>ht ⟨l,⟨o',ho,hv⟩,e ▸ hb⟩))
 ·cases o'<;>simp[bx.live]at hv;trivial
def Rel.yK {g : aM} {w : World} {σ : ae} (h : Rel g w σ) (o : Obj) (ao : bx) (v c : Nat)
    (hok:ao.Ok (g.push v (some w.heap.size) c) (w.alloc o) g.n) :
    Rel (g.push v (some w.heap.size) c) (w.alloc o) (σ++[ao])/\ik σ g w (σ++[ao]) (g.push v (some w.heap.size) c) (w.alloc o):=by
 have hm:=nY g w o v (some w.heap.size) c h.lt;have hbase:∀ l,l<g.n->(g.push v (some w.heap.size) c).base l=g.base l:=fun l hl=>by simp[aM.push,Nat.ne_of_lt hl]
 have hnew:(g.push v (some w.heap.size) c).base g.n=some w.heap.size:=by simp[aM.push]
 have hold:∀ l b,Live σ l->(g.push v (some w.heap.size) c).base l=some b->g.base l=some b/\b<w.heap.size:=fun l b hl hb=>by
  rw[hbase l (by rw[<-h.len];exact hl.lt)]at hb;exact⟨hb,h.kq hl hb⟩
 refine⟨⟨by simp[aM.push,h.len],fun b hb=>by have:=h.lt b hb;simp;omega,fun l o' ho=>?_,fun l l' b hl hl' hb hb'=>?_,fun l b hl hb hi=>?_,h.glob.mono hm.fH⟩,
  ⟨hm,by simp,rfl,rfl,rfl,fun b hb _=>heap_alloc_old w o hb,fun b hb hi=> .inl hi,fun b hb ht=>?_⟩⟩
 ·by_cases hl:l < σ.length
  ·rw[aN hl]at ho;have hl':l<g.n:=by rw[<-h.len];exact hl
   by_cases hv:o'.live=true
   ·refine(h.ok l o' ho).step hm hl' (by simp[aM.push,Nat.ne_of_lt hl']) (fun b hb=>heap_alloc_old w o (h.kq ⟨o',ho,hv⟩ hb))
   ·cases o'<;>simp[bx.live]at hv;trivial
  ·have h1:=(aP.1 ho).1;simp at h1;have h2:l = σ.length:=by omega
   subst h2;simp at ho;subst ho;rw[h.len];exact hok
 ·rcases nL hl with hl|rfl<;>rcases nL hl' with hl'|rfl
  ·exact h.inj l l' b hl hl' (hold l b hl hb).1 (hold l' b hl' hb').1
  ·have:=(hold l b hl hb).2;rw[h.len,hnew]at hb';cases hb';exact absurd this (Nat.lt_irrefl _)
  ·have:=(hold l' b hl' hb').2;rw[h.len,hnew]at hb;cases hb;exact absurd this (Nat.lt_irrefl _)
  ·rfl
 ·rcases nL hl with hl|rfl
  ·exact h.ug l b hl (hold l b hl hb).1 hi
  ·rw[h.len,hnew]at hb;cases hb;exact absurd (h.lt _ hi) (Nat.lt_irrefl _)
 ·obtain⟨l,hl,hb'⟩:=ht;rcases nL hl with hl|rfl
  ·exact⟨l,hl,(hold l b hl hb').1⟩
  ·rw[h.len,hnew]at hb';cases hb';exact absurd hb (Nat.lt_irrefl _)
def aM.reset(g:aM)(l v:Nat)(b:Option Nat)(c:Nat)(o:Nat:=0): aM :=
 { g with off:=fun k=>if k=l then o else g.off k,ver:=fun k=>if k=l then v else g.ver k,base:=fun k=>if k=l then b else g.base k,cap:=fun k=>if k=l then c else g.cap k }
def kC{σ : ae}{l k:Nat}{o:bx}(h:Live (σ.set l o) k): (k=l/\l < σ.length/\o.live=true)\/(k≠l/\Live σ k):=by
 obtain⟨o',ho,hv⟩:=h;by_cases hk:k=l
 ·subst hk;have hlt:=(aP.1 ho).1;simp at hlt;simp[hlt]at ho;exact .inl ⟨rfl,hlt,ho ▸ hv⟩
 ·rw[List.getElem?_set_ne (Ne.symm hk)]at ho;exact .inr ⟨hk,o',ho,hv⟩
def Rel.change {g : aM} {w w' : World} {σ : ae} {l : Nat} {o o' : bx} (h : Rel g w σ) (hl : σ[l]? = some o) (ho : o.live = true)
    (v:Nat) (nb:Option Nat) (c:Nat) (fo:Nat) (hv:g.ver l<=v) (hvb:v=g.ver l->nb=g.base l/\c=g.cap l/\fo=g.off l)
    (hsz:w.heap.size<=w'.heap.size) (hos:w'.os=w.os) (yJ:w'.tape=w.tape) (hout:w'.output=w.output)
    (uw:∀ b,b<w.heap.size->g.base l≠some b->w'.heap[b]? = w.heap[b]?)
    (hnb:∀ b,nb=some b->g.base l=some b\/w.heap.size<=b)
    (hok:kH g w (g.reset l v nb c fo) w'->o'.Ok (g.reset l v nb c fo) w' l) :
    Rel (g.reset l v nb c fo) w' (σ.set l o')/\ik σ g w (σ.set l o') (g.reset l v nb c fo) w':=by
 have lC:Live σ l:=⟨o,hl,ho⟩;have hbase:∀ k,k≠l->(g.reset l v nb c fo).base k=g.base k:=fun k hk=>by simp[aM.reset,hk]
 have Lw:(g.reset l v nb c fo).base l=nb:=by simp[aM.reset]
 have hm:kH g w (g.reset l v nb c fo) w':=by
  refine⟨fun b hb=>⟨hb,uw b (h.lt b hb) (fun e=>h.ug l b lC e hb)⟩,Nat.le_refl _,fun k _=>?_⟩;by_cases hk:k=l
  ·subst hk;simp only[aM.reset,if_true];exact⟨hv,hvb⟩
  ·simp[aM.reset,hk]
 refine⟨⟨by simp[aM.reset,h.len],fun b hb=>cZ (h.lt b hb) hsz,fun k ok hk=>?_,fun k k' b hk hk' hb hb'=>?_,fun k b hk hb hi=>?_,h.glob.mono hm.fH⟩,
  ⟨hm,hsz,hos,yJ,hout,fun b hb ht=>uw b hb (fun e=>ht ⟨l,lC,e⟩),fun b _ hi=> .inl hi,fun b hb ht=>?_⟩⟩
 ·by_cases e:k=l
  ·subst e;have hlt:=(aP.1 hk).1;simp at hlt;simp[hlt]at hk;subst hk;exact hok hm
  ·rw[List.getElem?_set_ne (Ne.symm e)]at hk;have hkn:k<g.n:=by rw[<-h.len];exact(aP.1 hk).1
   by_cases YC:ok.live=true
   ·refine(h.ok k ok hk).step hm hkn (by simp[aM.reset,e]) (fun b hb=>uw b (h.kq ⟨ok,hk,YC⟩ hb) (fun e'=>e (h.inj k l b ⟨ok,hk,YC⟩ lC hb e')))
   ·cases ok<;>simp[bx.live]at YC;trivial
 ·rcases kC hk with⟨e,_,_⟩|⟨e,i_⟩<;>rcases kC hk' with⟨e',_,_⟩|⟨e',U1⟩
  ·exact e.trans e'.symm
  ·subst e;rw[Lw]at hb;rw[hbase k' e']at hb';rcases hnb b hb with h1|h1
   ·exact h.inj _ _ b lC U1 h1 hb'
   ·have:=h.kq U1 hb';omega
  ·subst e';rw[Lw]at hb';rw[hbase k e]at hb;rcases hnb b hb' with h1|h1
   ·exact h.inj _ _ b i_ lC hb h1
   ·have:=h.kq i_ hb;omega
  ·rw[hbase k e]at hb;rw[hbase k' e']at hb';exact h.inj k k' b i_ U1 hb hb'
 ·rcases kC hk with⟨rfl,_,_⟩|⟨e,hk⟩
  ·rw[Lw]at hb;rcases hnb b hb with h1|h1
   ·exact h.ug _ b lC h1 hi
   ·have:=h.lt b hi;omega
  ·rw[hbase k e]at hb;exact h.ug k b hk hb hi
 ·obtain⟨k,hk,hb'⟩:=ht;rcases kC hk with⟨rfl,_,_⟩|⟨e,hk⟩
  ·rw[Lw]at hb';rcases hnb b hb' with h1|h1
   ·exact⟨_,lC,h1⟩
   ·omega
  ·exact⟨k,hk,by rw[hbase k e]at hb';exact hb'⟩
def aM.FD(g:aM)(l:Nat): g.reset l (g.ver l) (g.base l) (g.cap l) (g.off l)=g:=by
 simp only[aM.reset]
 congr 1<;>(funext k;split<;>simp_all)
def Rel.update {g : aM} {w w' : World} {σ : ae} {l b : Nat} {o o' : bx} (h : Rel g w σ) (hl : σ[l]? = some o) (ho : o.live = true) (hb : g.base l = some b)
    (hsz:w'.heap.size=w.heap.size) (hos:w'.os=w.os) (yJ:w'.tape=w.tape) (hout:w'.output=w.output)
    (uw:∀ c,c≠b->w'.heap[c]? = w.heap[c]?) (hok:kH g w g w'->o'.Ok g w' l) :
    Rel g w' (σ.set l o')/\ik σ g w (σ.set l o') g w':=by
 have:=Rel.change (o':=o') (w':=w') h hl ho (g.ver l) (g.base l) (g.cap l) (g.off l) (Nat.le_refl _) (fun _=>⟨rfl,rfl,rfl⟩) (Nat.le_of_eq hsz.symm) hos yJ hout
  (fun c _ hc=>uw c (fun e=>hc (e ▸ hb))) (fun c hc=> .inl hc)
 rw[g.FD l]at this;exact this hok
def Rel.freeze {g : aM} {w : World} {σ : ae} {l b : Nat} {o : bx} (h : Rel g w σ) (hl : σ[l]? = some o) (ho : o.live = true) (hb : g.base l = some b) :
    Rel (g.k_ b) w (σ.set l .dead)/\ik σ g w (σ.set l .dead) (g.k_ b) w:=by
 have lC:Live σ l:=⟨o,hl,ho⟩;have hm:kH g w (g.k_ b) w:=⟨fun c hc=>⟨.inl hc,rfl⟩,Nat.le_refl _,fun _ _=>⟨Nat.le_refl _,fun _=>⟨rfl,rfl,rfl⟩⟩⟩
 refine⟨⟨by simp[aM.k_,h.len],fun c hc=>?_,fun k ok hk=>?_,fun k k' c hk hk' hc kR=>?_,fun k c hk hc hi=>?_,h.glob.mono hm.fH⟩,
  ⟨hm,Nat.le_refl _,rfl,rfl,rfl,fun _ _ _=>rfl,fun c _ hi=>?_,fun c _ ht=>?_⟩⟩
 ·rcases hc with hc|rfl
  ·exact h.lt c hc
  ·exact h.kq lC hb
 ·by_cases e:k=l
  ·subst e;have hlt:=(aP.1 hk).1;simp at hlt;simp[hlt]at hk;subst hk;trivial
  ·rw[List.getElem?_set_ne (Ne.symm e)]at hk;have hkn:k<g.n:=by rw[<-h.len];exact(aP.1 hk).1
   exact(h.ok k ok hk).step hm hkn rfl (fun _ _=>rfl)
 ·rcases kC hk with⟨_,_,e⟩|⟨_,hk⟩
  ·simp[bx.live]at e
  ·rcases kC hk' with⟨_,_,e⟩|⟨_,hk'⟩
   ·simp[bx.live]at e
   ·exact h.inj k k' c hk hk' hc kR
 ·rcases kC hk with⟨_,_,e⟩|⟨e,hk⟩
  ·simp[bx.live]at e
  ·rcases hi with hi|rfl
   ·exact h.ug k c hk hc hi
   ·exact e (h.inj k l c hk lC hc hb)
 ·rcases hi with hi|rfl
  ·exact .inl hi
  ·exact .inr ⟨l,lC,hb⟩
 ·obtain⟨k,hk,hc⟩:=ht;rcases kC hk with⟨_,_,e⟩|⟨_,hk⟩
  ·simp[bx.live]at e
  ·exact⟨k,hk,hc⟩
def Rel.jI {g : aM} {w : World} {σ : ae} (h : Rel g w σ) (el : El) :
    Rel (g.push 0 none 0) w (σ++[.vec el []])/\ik σ g w (σ++[.vec el []]) (g.push 0 none 0) w:=by
 have hm:kH g w (g.push 0 none 0) w:=⟨fun b hb=>⟨hb,rfl⟩,Nat.le_succ _,fun l hl=>by simp[aM.push,Nat.ne_of_lt hl]⟩;have hbase:∀ l,l<g.n->(g.push 0 none 0).base l=g.base l:=fun l hl=>by simp[aM.push,Nat.ne_of_lt hl]
 have hnew:(g.push 0 none 0).base g.n=none:=by simp[aM.push]
 have hold:∀ l b,Live (σ++[.vec el []]) l->(g.push 0 none 0).base l=some b->Live σ l/\g.base l=some b:=fun l b hl hb=>by
  rcases nL hl with hl|rfl
  ·rw[hbase l (by rw[<-h.len];exact hl.lt)]at hb;exact⟨hl,hb⟩
  ·rw[h.len,hnew]at hb;cases hb
 refine⟨⟨by simp[aM.push,h.len],h.lt,fun l o' ho=>?_,fun l l' b hl hl' hb hb'=>h.inj l l' b (hold l b hl hb).1 (hold l' b hl' hb').1 (hold l b hl hb).2 (hold l' b hl' hb').2,
  fun l b hl hb hi=>h.ug l b (hold l b hl hb).1 (hold l b hl hb).2 hi,h.glob.mono hm.fH⟩,
  ⟨hm,Nat.le_refl _,rfl,rfl,rfl,fun _ _ _=>rfl,fun b hb hi=> .inl hi,fun b hb ht=>?_⟩⟩
 ·by_cases hl:l < σ.length
  ·rw[aN hl]at ho;have hl':l<g.n:=by rw[<-h.len];exact hl
   exact(h.ok l o' ho).step hm hl' (by simp[aM.push,Nat.ne_of_lt hl']) (fun _ _=>rfl)
  ·have h1:=(aP.1 ho).1;simp at h1;have h2:l = σ.length:=by omega
   subst h2;simp at ho;subst ho;rw[h.len];exact⟨by simp[aM.push],by simp,.inl ⟨rfl,hnew,by simp[aM.push]⟩⟩
 ·obtain⟨l,hl,hb'⟩:=ht;exact⟨l,(hold l b hl hb').1,(hold l b hl hb').2⟩
def Rel.hold {g : aM} {w : World} {σ : ae} (h : Rel g w σ) :
    Rel (g.push 0 none 0) w (σ++[.resv])/\ik σ g w (σ++[.resv]) (g.push 0 none 0) w:=by
 have hm:kH g w (g.push 0 none 0) w:=⟨fun b hb=>⟨hb,rfl⟩,Nat.le_succ _,fun l hl=>by simp[aM.push,Nat.ne_of_lt hl]⟩;have hbase:∀ l,l<g.n->(g.push 0 none 0).base l=g.base l:=fun l hl=>by simp[aM.push,Nat.ne_of_lt hl]
 have hnew:(g.push 0 none 0).base g.n=none:=by simp[aM.push]
 have hold:∀ l b,Live (σ++[.resv]) l->(g.push 0 none 0).base l=some b->Live σ l/\g.base l=some b:=fun l b hl hb=>by
  rcases nL hl with hl|rfl
  ·rw[hbase l (by rw[<-h.len];exact hl.lt)]at hb;exact⟨hl,hb⟩
  ·rw[h.len,hnew]at hb;cases hb
 refine⟨⟨by simp[aM.push,h.len],h.lt,fun l o' ho=>?_,fun l l' b hl hl' hb hb'=>h.inj l l' b (hold l b hl hb).1 (hold l' b hl' hb').1 (hold l b hl hb).2 (hold l' b hl' hb').2,
  fun l b hl hb hi=>h.ug l b (hold l b hl hb).1 (hold l b hl hb).2 hi,h.glob.mono hm.fH⟩,
  ⟨hm,Nat.le_refl _,rfl,rfl,rfl,fun _ _ _=>rfl,fun b hb hi=> .inl hi,fun b hb ht=>?_⟩⟩
 ·by_cases hl:l < σ.length
  ·rw[aN hl]at ho;have hl':l<g.n:=by rw[<-h.len];exact hl
   exact(h.ok l o' ho).step hm hl' (by simp[aM.push,Nat.ne_of_lt hl']) (fun _ _=>rfl)
  ·have h1:=(aP.1 ho).1;simp at h1;have h2:l = σ.length:=by omega
   subst h2;simp at ho;subst ho;rw[h.len];exact⟨by simp[aM.push],hnew,by simp[aM.push]⟩
 ·obtain⟨l,hl,hb'⟩:=ht;exact⟨l,(hold l b hl hb').1,(hold l b hl hb').2⟩
def wA(w:World)(b i:Nat)(v:Value){c:Nat}(h:c≠b): (w.setCell ⟨b,i,none⟩ v).heap[c]? = w.heap[c]? :=
 Go.RowKit.Below.heap_setCell w ⟨b,i,none⟩ v c h
def Row.set{w:World}{b:Nat}{vs:Array Value}(h:Row w b vs)(i:Nat)(v:Value): Row (w.setCell ⟨b,i,none⟩ v) b (vs.setIfInBounds i v):=by
 obtain⟨T,fz,h1,h2⟩:=h;refine⟨T,fz,?_,fun j hj=>?_⟩
 ·simp[World.setCell,Array.getElem?_modify,h1]
 ·rw[World.frozen?_setCell];exact h2 j (by simpa using hj)
def setRow(w:World)(b:Nat): Nat->List Value->World
 | _,[]=>w
 | i,v::vs=>setRow (w.setCell ⟨b,i,none⟩ v) b (i+1) vs
def putRow(vs:Array Value): Nat->List Value->Array Value
 | _,[]=>vs
 | i,u::us=>putRow (vs.setIfInBounds i u) (i+1) us
def vm (w : World) (b i : Nat) (us : List Value) : (setRow w b i us).heap.size = w.heap.size /\ (setRow w b i us).os = w.os /\ (setRow w b i us).tape = w.tape /\
    (setRow w b i us).output=w.output/\ ∀ c,c≠b->(setRow w b i us).heap[c]? = w.heap[c]?:=by
 induction us generalizing w i with
 | nil=>exact⟨rfl,rfl,rfl,rfl,fun _ _=>rfl⟩
 | cons u us ih =>
   obtain⟨h1,h2,h3,h4,h5⟩:=ih (w.setCell ⟨b,i,none⟩ u) (i+1);exact⟨h1.trans (World.size_setCell ..),h2,h3,h4,fun c hc=>(h5 c hc).trans (wA w b i u hc)⟩
def Row.setRow{w:World}{b:Nat}{vs:Array Value}(h:Row w b vs)(i:Nat)(us:List Value): Row (setRow w b i us) b (putRow vs i us):=by
 induction us generalizing w i vs with
 | nil=>exact h
 | cons u us ih=>exact ih (h.set i u) (i+1)
def KB(w:World)(b i:Nat)(v:Value)(c:Nat): (w.setCell ⟨b,i,none⟩ v).shape? c=w.shape? c:=by
 by_cases h:c=b
 ·subst h;simp only[World.shape?,World.setCell,Array.getElem?_modify,if_true];cases w.heap[c]? with
  | none=>rfl
  | some o=>cases o<;>simp
 ·simp only[World.shape?,wA w b i v h]
def vo(w:World)(b i:Nat)(us:List Value)(c:Nat): (setRow w b i us).shape? c=w.shape? c:=by
 induction us generalizing w i with
 | nil=>rfl
 | cons u us ih=>exact(ih (w.setCell ⟨b,i,none⟩ u) (i+1)).trans (KB w b i u c)
def size_putRow(vs:Array Value)(i:Nat)(us:List Value): (putRow vs i us).size=vs.size:=by
 induction us generalizing vs i with
 | nil=>rfl
 | cons u us ih=>simp[putRow,ih]
def pM (vs : Array Value) (i : Nat) (us : List Value) (hi : i + us.length <= vs.size) (j : Nat) (d : Value) :
    (putRow vs i us).getD j d=if i<=j/\j<i+us.length then us.getD (j-i) d else vs.getD j d:=by
 induction us generalizing vs i with
 | nil=>simp[putRow];intro h1 h2;omega
 | cons u us ih =>
   simp only[List.length_cons]at hi;rw[putRow,ih (vs.setIfInBounds i u) (i+1) (by simp;omega)];by_cases h1:i+1<=j/\j<i+1+us.length
   ·rw[if_pos h1,if_pos (by simp only[List.length_cons];omega)];obtain⟨k,rfl⟩:∃ k,j=i+1+k:=⟨j-(i+1),by omega⟩;rw[show i+1+k-(i+1)=k by omega,show i+1+k-i=k+1 by omega];simp
   ·rw[if_neg h1];by_cases h2:j=i
    ·subst h2;rw[if_pos (by simp only[List.length_cons];omega)];have hlt:j<vs.size:=by omega
     simp[hlt]
    ·rw[if_neg (by simp only[List.length_cons];omega)];simp[Array.getElem?_setIfInBounds_ne (Ne.symm h2)]
