/- Part of a proof: see Root. -/
import Derived.Test.YtlmpjjelildedaaGreatDoorW14
import Derived.Test.YtlmpjjelildedaaGreatDoorChecked
import Derived.KernelRfl
import Derived.Shelf.Strings.OnBuilder
import Derived.Shelf.Strings.Repeat
import Derived.Shelf.Small.Strs
import Derived.Shelf.Small.Wraps
import Derived.Shelf.LaysM
import Derived.Shelf.Strconv.Itoa3
import Derived.Test.YtlmpjjelildedaaGreatDoorProg
set_option linter.unnecessarySimpa false
set_option linter.unusedSectionVars false
set_option linter.unusedSimpArgs false
set_option linter.unusedVariables false
namespace Go.AM
variable {P : Program}
section
variable {σ : Store} {K Kp : AV → Store → Prop} {l m n lo off : Nat} {cs xs : List AV} {el : El} {T : Option TypeId}
end
@[go_sem] theorem partT_fs (sz off : Nat) (cs : List AV) (K : AV → Prop) : partT false ⟨true, sz⟩ (.agg cs) off false 1 (.mk : Tg K) = req (off + 1 ≤ sz) (.mk : Tg (K (cs.getD off .undef))) := by
  rw [partT_f _ _ _ _ _ (by simp)]; simp [req]
section
variable {α : Type} (ρ τ : List α) (c d x : α)
@[go_sem] theorem getApp0 : (ρ ++ c :: τ)[ρ.length]? = some c := by simp
@[go_sem] theorem setApp0 : (ρ ++ c :: τ).set ρ.length x = ρ ++ x :: τ := by simp
end
def methT (P : Program) (n : FuncId) (args : List AV) (σ : Store) {K : AV → Store → Prop} (_ : Tg K) : Prop := methA P n args σ K
theorem methT_m {n : FuncId} {k off : Nat} {args cs ds : List AV} {r : AV} {σ : Store} {K : AV → Store → Prop} (h : CallM P n off args cs ds r) (hσ : σ[k]? = some (.cells cs)) (hk : bindV r (.mk : Tg fun r => bindS (σ.set k (.cells ds)) (.mk : Tg fun σ => K r σ))) :
    methT P n (.ref k off :: args) σ (.mk : Tg K) := ⟨k, _, .cells ds, r, rfl, hσ, trivial, h σ k hσ, hk⟩
theorem callD_q {n : FuncId} {k off : Nat} {args cs : List AV} {r : AV} {σ : Store} {K Kp : AV → Store → Prop} (h : CallM P n off args cs cs r) (hσ : σ[k]? = some (.cells cs)) (hk : bindV r (.mk : Tg fun r => K r σ)) :
    callD P n (.ref k off :: args) σ (.mk : Tg (K, Kp)) := by
  have same : ∀ s : Store, s[k]? = some (.cells cs) → s.set k (.cells cs) = s := fun s hs => by
    refine List.ext_getElem? fun i => ?_
    by_cases hi : k = i
    · subst hi; rw [getElem?_set_eq hs, hs]
    · rw [List.getElem?_set_ne hi]
  refine ⟨r, fun τ => ?_, hk⟩
  have hs : (σ ++ τ)[k]? = some (.cells cs) := by rw [List.getElem?_append_left (List.getElem?_eq_some_iff.1 hσ).1]; exact hσ
  exact (h (σ ++ τ) k hs).mono fun o s ⟨h1, h2⟩ => ⟨h1, h2.trans (same _ hs)⟩
attribute [go_sem] Int.tdiv_eq_ediv_of_nonneg Int.tmod_eq_emod_of_nonneg x_get0 x_set0 x_setS x_getD0 x_getDS x_lenC x_lenN x_drop0 x_take0 x_takeS x_mapC x_mapN x_appC x_appN x_appE x_rep0 x_repS x_many0 x_manyS x_cellsA x_nil2 x_contC x_contN boolbeq2 getD_map Bool.or_false Bool.or_true Bool.true_or Bool.false_or beq_self_eq_true Bool.and_true Bool.true_and Bool.and_false Bool.false_and Int.toNat_natCast Int.toNat_natCast_add_one Int.toNat_zero List.length_map List.length_append Nat.zero_add Bool.not_true Bool.not_false
attribute [simp] AV.fits AV.scalar AV.cells apartAll apartA AV.obj roomOk
end Go.AM
namespace Go.AM
variable {P : Program}
theorem ab_ {p : Prop} (h : False := by first | omega | (simp_all; done) | (simp_all; omega)) : p := h.elim
theorem at_ {p : Prop} (h : p := by simp (disch := omega) only [at_nil, at_cons, and_true, go_sem, wrapK_i64, wrapK_u8, wrapK_u64, Nat.reduceAdd, Nat.reduceBEq, ↓reduceIte, Int.natCast_add, Int.cast_ofNat_Int] <;> (try trivial) <;> (try omega) <;> (try (repeat (first | trivial | (refine And.intro ?_ ?_) | (congr 1; omega))))) : p := h
theorem ou_ {p : Prop} (h : p := by repeat (first | exact out_ovl _ _ _ | refine out_upd rfl ?_ | refine out_ovl2 rfl ?_ | (simp only [puts_cons, puts_nil]))) : p := h
theorem bs_ {K : AV → Prop} {xs : List AV} {m n : Nat} {s : List UInt8} (hk : K (.str s)) (hx : xs = s.map fun b => AV.int .u8 b.toNat) (hm : m = xs.length) (hn : n = xs.length) : b2sO (some (.vec ⟨false, 1⟩ xs)) m 0 n (.mk : Tg K) := b2sO_whole s hx hm hn hk
theorem go_ {G K : Prop} (k : K) (h : K → G := by
    first
    | (intro k; simp (disch := omega) only [go_sem, hQr, hQn, hQp, wrapK_i64, wrapK_u8, wrapK_u64, Nat.reduceAdd, Nat.reduceBEq, ↓reduceIte]; exact k)
    | (intro k; with_reducible refine req_d ?_ k; first | omega | (simp; done) | (simp; omega) | assumption)
    | (intro k; with_reducible exact scope_no k)
    | (intro k; with_reducible exact bs_ k rfl (by simp) (by simp))) : G := h k
theorem cc_ {t : Bool} {T E p q : Prop} (h : p → T) (h' : q → E) (hp : (t = true) = p) (hq : (t = false) = q) : condA (.bool t) (.mk : Tg (T, E)) := by
  subst hp hq; exact condA_i h h'
theorem gk_ {t b : Bool} {T E U p q : Prop} (h : p → T) (h' : q → E) (hp : (t = b) = p) (hq : (t = !b) = q) : guardK (.bool t) b (.mk : Tg (T, E, U)) := by
  subst hp hq; exact guardK_i h h'
theorem br_ {p q T E G : Prop} (h : p → T) (h' : q → E) (hg : (p → T) → (q → E) → G := by
    intro h h'
    with_reducible first | refine cc_ h h' ?_ ?_ | refine gk_ h h' ?_ ?_
    all_goals
      (try simp only [decide_eq_true_eq, decide_eq_false_iff_not, beq_iff_eq, beq_eq_false_iff_ne, Bool.not_eq_true', Bool.not_eq_false', Bool.not_true, Bool.not_false, Int.not_lt, Int.not_le, ne_eq, Int.ofNat_lt, Int.ofNat_le, not_true_eq_false, reduceCtorEq, Int.toNat_zero])
      exact rfl) : G := hg h h'
theorem cf_ {n : FuncId} {args : List AV} {r : AV} {K G : Prop} (h : CallF P n args r) (k : K) (hg : CallF P n args r → K → G := by
    intro h k; with_reducible first | exact callL_f h k | exact callD_f h k) : G := hg h k
theorem cm_ {f : FuncId} {off : Nat} {args cs ds : List AV} {r : AV} {K G : Prop} (h : CallM P f off args cs ds r) (k : K) (hg : CallM P f off args cs ds r → K → G := by
    intro h k; with_reducible first | exact callL_m h rfl k | exact methT_m h rfl k | exact callD_q h rfl k) : G := hg h k
end Go.AM
namespace Go.Proofs.YtlmpjjelildedaaGreatDoor
open Go.AM
abbrev Str := List UInt8
structure Val where
  kind : Int
  n : Int
  s : Str
deriving DecidableEq, Inhabited
structure Tok where
  kind : Int
  s : Str
  n : Int
  pos : Int
deriving DecidableEq, Inhabited
inductive Expr where
  | mk (op : Int) (v : Val) (s : Str) (l : List Expr)
instance : Inhabited Expr := ⟨.mk 0 ⟨0, 0, []⟩ [] []⟩
def Expr.op : Expr → Int | .mk op _ _ _ => op
def Expr.v : Expr → Val | .mk _ v _ _ => v
def Expr.s : Expr → Str | .mk _ _ s _ => s
def Expr.l : Expr → List Expr | .mk _ _ _ l => l
structure Test where
  kind : Int
  a : Expr
  b : Expr
  lo : Bool
  hi : Bool
deriving Inhabited
structure Cell where
  any : Bool
  neg : Bool
  tests : List Test
deriving Inhabited
structure Col where
  name : Str
  kind : Int
  order : List Val
deriving Inhabited
structure Rule where
  cells : List Str
  outs : List Str
deriving Inhabited
structure Table where
  name : Str
  ins : List Col
  outs : List Col
  policy : Int
  agg : Int
  rules : List Rule
deriving Inhabited
structure Line where
  cells : List Cell
  outs : List Expr
deriving Inhabited
structure Ready where
  table : Table
  lines : List Line
deriving Inhabited
abbrev I (n : Int) : AV := .int .i64 n
abbrev E1 : El := ⟨false, 1⟩
def eVal (v : Val) : AV := .agg [I v.kind, I v.n, .str v.s]
def eTok (t : Tok) : AV := .agg [I t.kind, .str t.s, I t.n, I t.pos]
attribute [go_sem] eVal eTok
theorem pur_eVal (v : Val) : (eVal v).pur = true := rfl
theorem pur_eTok (t : Tok) : (eTok t).pur = true := rfl
attribute [simp] AV.pur AV.purL pur_eVal pur_eTok
theorem getD_mem {α : Type} [Inhabited α] {l : List α} {i : Nat} (h : i < l.length) : l.getD i default ∈ l := by
  rw [List.getD_eq_getElem?_getD, List.getElem?_eq_getElem h]; exact List.getElem_mem h
end Go.Proofs.YtlmpjjelildedaaGreatDoor
namespace Go.Proofs.YtlmpjjelildedaaGreatDoor
open Go.AM
set_option maxRecDepth 10000
abbrev n_law10_TreeNil : FuncId := 3
abbrev n_law10_Acts_Few : FuncId := 4
abbrev n_law10_lives : FuncId := 5
abbrev n_tree_Open : FuncId := 6
abbrev n_tree_Tree_Get : FuncId := 7
abbrev n_tree_Tree_Scan : FuncId := 8
abbrev n_tree_Tree_Snap : FuncId := 9
abbrev n_tree_Tree_At : FuncId := 10
abbrev n_tree_Tree_Apply : FuncId := 11
abbrev n_tree_Tree_Sync : FuncId := 12
abbrev n_tree_Tree_Release : FuncId := 13
abbrev n_tree_Tree_Len : FuncId := 14
abbrev n_tree_Tree_Note : FuncId := 15
abbrev n_tree_Tree_Used : FuncId := 16
abbrev n_strings_Compare : FuncId := 53
end Go.Proofs.YtlmpjjelildedaaGreatDoor
namespace Go.Proofs.YtlmpjjelildedaaGreatDoor
open Go.AM
set_option maxRecDepth 10000
def h_law10_TreeNil : Hints := ⟨[], [], [], [], [], []⟩
def b_law10_TreeNil : ACode := .seq (.region [⟨.box (.t 0), (some 2), none⟩, ⟨.mv (.c (.bool false)), (some 4), none⟩]) <|
  .seq (.seq (.region [⟨.load true 7 (.t 2), (some 16), none⟩, ⟨.bslice false ⟨true, 7⟩ (.agg [(.int .i64 0), (.int .i64 0), .nils, (.str []), (.str []), (.str []), .nils]) 1 [(0, (.t 16))], (some 17), none⟩, ⟨.call false (.c (.fn (.func n_law10_Acts_Few) [] [])) [(.t 17)], (some 18), none⟩, ⟨.un .not (.t 18), (some 19), none⟩]) <|
  .cond (.t 19) (.seq (.region [⟨.call false (.c (.fn (.func n_law10_lives) [] [])) [], (some 20), none⟩, ⟨.mv (.t 20), (some 4), none⟩]) <|
  .ret) (.skip)) <|
  .seq (.region [⟨.mv (.c .nilp), (some 5), none⟩]) <|
  .seq (.seq (.region [⟨.mv (.t 1), (some 21), none⟩]) <|
  .cond (.t 21) (.region [⟨.build [.nilp, (.int .i64 0), (.int .i64 0), .nils] [], (some 22), none⟩, ⟨.box (.t 22), (some 23), none⟩, ⟨.mv (.t 23), (some 5), none⟩]) (.skip)) <|
  .seq (.region [⟨.call false (.c (.fn (.func n_tree_Open) [] [])) [(.c .nilp)], (some 25), none⟩, ⟨.mv (.t 25), (some 24), none⟩, ⟨.ext (.t 24) 0, (some 26), none⟩, ⟨.ext (.t 24) 1, (some 27), none⟩, ⟨.mv (.t 26), (some 6), none⟩, ⟨.mv (.t 27), (some 7), none⟩]) <|
  .seq (.region [⟨.mv (.t 5), (some 29), none⟩, ⟨.faddr 3 (.t 2), (some 30), none⟩, ⟨.load false 1 (.t 30), (some 31), none⟩, ⟨.call false (.c (.fn (.func n_tree_Tree_Get) [] [])) [(.t 29), (.t 31)], (some 32), none⟩, ⟨.mv (.t 32), (some 28), none⟩, ⟨.ext (.t 28) 0, (some 33), none⟩, ⟨.ext (.t 28) 1, (some 34), none⟩, ⟨.mv (.t 33), (some 8), none⟩, ⟨.mv (.t 34), (some 9), none⟩]) <|
  .seq (.region [⟨.mv (.t 5), (some 36), none⟩, ⟨.faddr 3 (.t 2), (some 37), none⟩, ⟨.load false 1 (.t 37), (some 38), none⟩, ⟨.faddr 4 (.t 2), (some 39), none⟩, ⟨.load false 1 (.t 39), (some 40), none⟩, ⟨.faddr 1 (.t 2), (some 41), none⟩, ⟨.load false 1 (.t 41), (some 42), none⟩, ⟨.call false (.c (.fn (.func n_tree_Tree_Scan) [] [])) [(.t 36), (.t 38), (.t 40), (.t 42)], (some 43), none⟩, ⟨.mv (.t 43), (some 35), none⟩, ⟨.ext (.t 35) 0, (some 44), none⟩, ⟨.ext (.t 35) 1, (some 45), none⟩, ⟨.mv (.t 44), (some 10), none⟩, ⟨.mv (.t 45), (some 11), none⟩]) <|
  .seq (.region [⟨.mv (.t 5), (some 47), none⟩, ⟨.call false (.c (.fn (.func n_tree_Tree_Snap) [] [])) [(.t 47)], (some 48), none⟩, ⟨.mv (.t 48), (some 46), none⟩, ⟨.ext (.t 46) 0, (some 49), none⟩, ⟨.ext (.t 46) 1, (some 50), none⟩, ⟨.mv (.t 49), (some 12), none⟩, ⟨.mv (.t 50), (some 13), none⟩]) <|
  .seq (.region [⟨.mv (.t 5), (some 52), none⟩, ⟨.faddr 1 (.t 2), (some 53), none⟩, ⟨.load false 1 (.t 53), (some 54), none⟩, ⟨.faddr 3 (.t 2), (some 55), none⟩, ⟨.load false 1 (.t 55), (some 56), none⟩, ⟨.faddr 4 (.t 2), (some 57), none⟩, ⟨.load false 1 (.t 57), (some 58), none⟩, ⟨.call false (.c (.fn (.func n_tree_Tree_At) [] [])) [(.t 52), (.t 54), (.t 56), (.t 58), (.c (.int .i64 (-1)))], (some 59), none⟩, ⟨.mv (.t 59), (some 51), none⟩, ⟨.ext (.t 51) 0, (some 60), none⟩, ⟨.ext (.t 51) 1, (some 61), none⟩, ⟨.mv (.t 60), (some 14), none⟩, ⟨.mv (.t 61), (some 15), none⟩]) <|
  .seq (.region [⟨.mv (.t 6), (some 62), none⟩, ⟨.eqnil false .p (.t 62) (.c .nilp), (some 63), none⟩, ⟨.mv (.t 63), (some 64), none⟩, ⟨.mv (.t 7), (some 65), some (64, true)⟩, ⟨.bin .eql (.t 65) (.c (.int .i64 1)), (some 66), some (64, true)⟩, ⟨.pick (.t 64) (.t 66) (.c (.bool false)), (some 67), none⟩, ⟨.mv (.t 67), (some 68), none⟩, ⟨.mv (.t 8), (some 69), some (68, true)⟩, ⟨.bin .eql (.t 69) (.c (.str [])), (some 70), some (68, true)⟩, ⟨.pick (.t 68) (.t 70) (.c (.bool false)), (some 71), none⟩, ⟨.mv (.t 71), (some 72), none⟩, ⟨.mv (.t 9), (some 73), some (72, true)⟩, ⟨.bin .eql (.t 73) (.c (.int .i64 1)), (some 74), some (72, true)⟩, ⟨.pick (.t 72) (.t 74) (.c (.bool false)), (some 75), none⟩, ⟨.mv (.t 75), (some 76), none⟩, ⟨.mv (.t 10), (some 77), some (76, true)⟩, ⟨.len false (.t 77), (some 78), some (76, true)⟩, ⟨.bin .eql (.t 78) (.c (.int .i64 0)), (some 79), some (76, true)⟩, ⟨.pick (.t 76) (.t 79) (.c (.bool false)), (some 80), none⟩, ⟨.mv (.t 80), (some 81), none⟩, ⟨.mv (.t 11), (some 82), some (81, true)⟩, ⟨.bin .eql (.t 82) (.c (.int .i64 1)), (some 83), some (81, true)⟩, ⟨.pick (.t 81) (.t 83) (.c (.bool false)), (some 84), none⟩, ⟨.mv (.t 84), (some 85), none⟩, ⟨.mv (.t 12), (some 86), some (85, true)⟩, ⟨.bin .eql (.t 86) (.c (.int .i64 0)), (some 87), some (85, true)⟩, ⟨.pick (.t 85) (.t 87) (.c (.bool false)), (some 88), none⟩, ⟨.mv (.t 88), (some 89), none⟩, ⟨.mv (.t 13), (some 90), some (89, true)⟩, ⟨.bin .eql (.t 90) (.c (.int .i64 1)), (some 91), some (89, true)⟩, ⟨.pick (.t 89) (.t 91) (.c (.bool false)), (some 92), none⟩, ⟨.mv (.t 92), (some 93), none⟩, ⟨.mv (.t 14), (some 94), some (93, true)⟩, ⟨.len false (.t 94), (some 95), some (93, true)⟩, ⟨.bin .eql (.t 95) (.c (.int .i64 0)), (some 96), some (93, true)⟩, ⟨.pick (.t 93) (.t 96) (.c (.bool false)), (some 97), none⟩, ⟨.mv (.t 97), (some 98), none⟩, ⟨.mv (.t 15), (some 99), some (98, true)⟩, ⟨.bin .eql (.t 99) (.c (.int .i64 1)), (some 100), some (98, true)⟩, ⟨.pick (.t 98) (.t 100) (.c (.bool false)), (some 101), none⟩, ⟨.mv (.t 101), (some 102), none⟩, ⟨.mv (.t 5), (some 103), some (102, true)⟩, ⟨.faddr 2 (.t 2), (some 104), some (102, true)⟩, ⟨.load false 1 (.t 104), (some 105), some (102, true)⟩, ⟨.faddr 5 (.t 2), (some 106), some (102, true)⟩, ⟨.load false 1 (.t 106), (some 107), some (102, true)⟩, ⟨.call false (.c (.fn (.func n_tree_Tree_Apply) [] [])) [(.t 103), (.t 105), (.t 107)], (some 108), some (102, true)⟩, ⟨.bin .eql (.t 108) (.c (.int .i64 1)), (some 109), some (102, true)⟩, ⟨.pick (.t 102) (.t 109) (.c (.bool false)), (some 110), none⟩, ⟨.mv (.t 110), (some 111), none⟩, ⟨.mv (.t 5), (some 112), some (111, true)⟩, ⟨.call false (.c (.fn (.func n_tree_Tree_Sync) [] [])) [(.t 112)], (some 113), some (111, true)⟩, ⟨.bin .eql (.t 113) (.c (.int .i64 1)), (some 114), some (111, true)⟩, ⟨.pick (.t 111) (.t 114) (.c (.bool false)), (some 115), none⟩, ⟨.mv (.t 115), (some 116), none⟩, ⟨.mv (.t 5), (some 117), some (116, true)⟩, ⟨.faddr 1 (.t 2), (some 118), some (116, true)⟩, ⟨.load false 1 (.t 118), (some 119), some (116, true)⟩, ⟨.call false (.c (.fn (.func n_tree_Tree_Release) [] [])) [(.t 117), (.t 119)], (some 120), some (116, true)⟩, ⟨.bin .eql (.t 120) (.c (.int .i64 1)), (some 121), some (116, true)⟩, ⟨.pick (.t 116) (.t 121) (.c (.bool false)), (some 122), none⟩, ⟨.mv (.t 122), (some 123), none⟩, ⟨.mv (.t 5), (some 124), some (123, true)⟩, ⟨.call false (.c (.fn (.func n_tree_Tree_Len) [] [])) [(.t 124)], (some 125), some (123, true)⟩, ⟨.bin .eql (.t 125) (.c (.int .i64 0)), (some 126), some (123, true)⟩, ⟨.pick (.t 123) (.t 126) (.c (.bool false)), (some 127), none⟩, ⟨.mv (.t 127), (some 128), none⟩, ⟨.mv (.t 5), (some 129), some (128, true)⟩, ⟨.call false (.c (.fn (.func n_tree_Tree_Note) [] [])) [(.t 129)], (some 130), some (128, true)⟩, ⟨.bin .eql (.t 130) (.c (.str [])), (some 131), some (128, true)⟩, ⟨.pick (.t 128) (.t 131) (.c (.bool false)), (some 132), none⟩, ⟨.mv (.t 132), (some 133), none⟩, ⟨.mv (.t 5), (some 134), some (133, true)⟩, ⟨.call false (.c (.fn (.func n_tree_Tree_Used) [] [])) [(.t 134)], (some 135), some (133, true)⟩, ⟨.bin .eql (.t 135) (.c (.int .i64 0)), (some 136), some (133, true)⟩, ⟨.pick (.t 133) (.t 136) (.c (.bool false)), (some 137), none⟩, ⟨.mv (.t 137), (some 138), none⟩, ⟨.call false (.c (.fn (.func n_law10_lives) [] [])) [], (some 139), some (138, true)⟩, ⟨.pick (.t 138) (.t 139) (.c (.bool false)), (some 140), none⟩, ⟨.mv (.t 140), (some 4), none⟩]) <|
  .ret
def a_law10_TreeNil : AFunc := ⟨141, [.tmp 4], b_law10_TreeNil⟩
theorem a_law10_TreeNil_ok : compileF Tryz.prog h_law10_TreeNil Tryz.f3 = some a_law10_TreeNil := by kernel_rfl
theorem of_law10_TreeNil {args : List AV} {σ : Store} {R : Out → Store → Prop} (hl : args.length ≤ 141) (h : WpR Tryz.prog b_law10_TreeNil [.tmp 4] args σ R) : CallA Tryz.prog n_law10_TreeNil args σ R := CallA.of_wp Tryz.func3 (by kernel_rfl) a_law10_TreeNil_ok hl h.go
def h_law10_Acts_Few : Hints := ⟨[], [], [], [], [], []⟩
def b_law10_Acts_Few : ACode := .seq (.region [⟨.mv (.c (.bool false)), (some 2), none⟩]) <|
  .seq (.seq (.region [⟨.mv (.t 0), (some 6), none⟩, ⟨.len false (.t 6), (some 7), none⟩, ⟨.bin .gtr (.t 7) (.c (.int .i64 30)), (some 8), none⟩]) <|
  .cond (.t 8) (.seq (.region [⟨.mv (.c (.bool false)), (some 2), none⟩]) <|
  .ret) (.skip)) <|
  .seq (.seq (.region [⟨.mv (.c (.int .i64 0)), (some 3), none⟩]) <|
  .block 0 (.loop (.seq (.seq (.region [⟨.mv (.t 3), (some 9), none⟩, ⟨.mv (.t 0), (some 10), none⟩, ⟨.len false (.t 10), (some 11), none⟩, ⟨.bin .lss (.t 9) (.t 11), (some 12), none⟩]) <|
  .cond (.t 12) (.skip) (.exit 0)) <|
  .seq (.block 1 (.seq (.seq (.region [⟨.mv (.t 0), (some 15), none⟩, ⟨.mv (.t 3), (some 16), none⟩, ⟨.iaddr ⟨true, 7⟩ none (.t 15) (.t 16), (some 17), none⟩, ⟨.faddr 2 (.t 17), (some 18), none⟩, ⟨.load false 1 (.t 18), (some 19), none⟩, ⟨.len false (.t 19), (some 20), none⟩, ⟨.bin .gtr (.t 20) (.c (.int .i64 70)), (some 21), none⟩, ⟨.mv (.t 21), (some 22), none⟩, ⟨.mv (.t 0), (some 23), some (22, false)⟩, ⟨.mv (.t 3), (some 24), some (22, false)⟩, ⟨.iaddr ⟨true, 7⟩ none (.t 23) (.t 24), (some 25), some (22, false)⟩, ⟨.faddr 3 (.t 25), (some 26), some (22, false)⟩, ⟨.load false 1 (.t 26), (some 27), some (22, false)⟩, ⟨.len true (.t 27), (some 28), some (22, false)⟩, ⟨.bin .gtr (.t 28) (.c (.int .i64 300)), (some 29), some (22, false)⟩, ⟨.pick (.t 22) (.c (.bool true)) (.t 29), (some 30), none⟩, ⟨.mv (.t 30), (some 31), none⟩, ⟨.mv (.t 0), (some 32), some (31, false)⟩, ⟨.mv (.t 3), (some 33), some (31, false)⟩, ⟨.iaddr ⟨true, 7⟩ none (.t 32) (.t 33), (some 34), some (31, false)⟩, ⟨.faddr 4 (.t 34), (some 35), some (31, false)⟩, ⟨.load false 1 (.t 35), (some 36), some (31, false)⟩, ⟨.len true (.t 36), (some 37), some (31, false)⟩, ⟨.bin .gtr (.t 37) (.c (.int .i64 300)), (some 38), some (31, false)⟩, ⟨.pick (.t 31) (.c (.bool true)) (.t 38), (some 39), none⟩, ⟨.mv (.t 39), (some 40), none⟩, ⟨.mv (.t 0), (some 41), some (40, false)⟩, ⟨.mv (.t 3), (some 42), some (40, false)⟩, ⟨.iaddr ⟨true, 7⟩ none (.t 41) (.t 42), (some 43), some (40, false)⟩, ⟨.faddr 5 (.t 43), (some 44), some (40, false)⟩, ⟨.load false 1 (.t 44), (some 45), some (40, false)⟩, ⟨.len true (.t 45), (some 46), some (40, false)⟩, ⟨.bin .gtr (.t 46) (.c (.int .i64 1000)), (some 47), some (40, false)⟩, ⟨.pick (.t 40) (.c (.bool true)) (.t 47), (some 48), none⟩]) <|
  .cond (.t 48) (.seq (.region [⟨.mv (.c (.bool false)), (some 2), none⟩]) <|
  .ret) (.skip)) <|
  .seq (.region [⟨.mv (.c (.int .i64 0)), (some 4), none⟩]) <|
  .block 2 (.loop (.seq (.seq (.region [⟨.mv (.t 4), (some 49), none⟩, ⟨.mv (.t 0), (some 50), none⟩, ⟨.mv (.t 3), (some 51), none⟩, ⟨.iaddr ⟨true, 7⟩ none (.t 50) (.t 51), (some 52), none⟩, ⟨.faddr 2 (.t 52), (some 53), none⟩, ⟨.load false 1 (.t 53), (some 54), none⟩, ⟨.len false (.t 54), (some 55), none⟩, ⟨.bin .lss (.t 49) (.t 55), (some 56), none⟩]) <|
  .cond (.t 56) (.skip) (.exit 2)) <|
  .seq (.block 3 (.seq (.region [⟨.mv (.t 0), (some 59), none⟩, ⟨.mv (.t 3), (some 60), none⟩, ⟨.iaddr ⟨true, 7⟩ none (.t 59) (.t 60), (some 61), none⟩, ⟨.faddr 2 (.t 61), (some 62), none⟩, ⟨.load false 1 (.t 62), (some 63), none⟩, ⟨.mv (.t 4), (some 64), none⟩, ⟨.iaddr ⟨true, 4⟩ none (.t 63) (.t 64), (some 65), none⟩, ⟨.load true 4 (.t 65), (some 66), none⟩, ⟨.alloc none [(.str []), (.str []), (.bool false), (.str [])], (some 5), none⟩, ⟨.store 4 (.t 5) (.t 66), none, none⟩]) <|
  .seq (.region [⟨.faddr 0 (.t 5), (some 67), none⟩, ⟨.load false 1 (.t 67), (some 68), none⟩, ⟨.len true (.t 68), (some 69), none⟩, ⟨.bin .gtr (.t 69) (.c (.int .i64 300)), (some 70), none⟩, ⟨.mv (.t 70), (some 71), none⟩, ⟨.faddr 1 (.t 5), (some 72), some (71, false)⟩, ⟨.load false 1 (.t 72), (some 73), some (71, false)⟩, ⟨.len true (.t 73), (some 74), some (71, false)⟩, ⟨.bin .gtr (.t 74) (.c (.int .i64 1000)), (some 75), some (71, false)⟩, ⟨.pick (.t 71) (.c (.bool true)) (.t 75), (some 76), none⟩, ⟨.mv (.t 76), (some 77), none⟩, ⟨.faddr 3 (.t 5), (some 78), some (77, false)⟩, ⟨.load false 1 (.t 78), (some 79), some (77, false)⟩, ⟨.len true (.t 79), (some 80), some (77, false)⟩, ⟨.bin .gtr (.t 80) (.c (.int .i64 300)), (some 81), some (77, false)⟩, ⟨.pick (.t 77) (.c (.bool true)) (.t 81), (some 82), none⟩]) <|
  .cond (.t 82) (.seq (.region [⟨.mv (.c (.bool false)), (some 2), none⟩]) <|
  .ret) (.skip))) <|
  .region [⟨.mv (.t 4), (some 57), none⟩, ⟨.bin .add (.t 57) (.c (.int .i64 1)), (some 58), none⟩, ⟨.mv (.t 58), (some 4), none⟩])))) <|
  .region [⟨.mv (.t 3), (some 13), none⟩, ⟨.bin .add (.t 13) (.c (.int .i64 1)), (some 14), none⟩, ⟨.mv (.t 14), (some 3), none⟩]))) <|
  .seq (.region [⟨.mv (.c (.bool true)), (some 2), none⟩]) <|
  .ret
def a_law10_Acts_Few : AFunc := ⟨83, [.tmp 2], b_law10_Acts_Few⟩
theorem a_law10_Acts_Few_ok : compileF Tryz.prog h_law10_Acts_Few Tryz.f4 = some a_law10_Acts_Few := by kernel_rfl
theorem of_law10_Acts_Few {args : List AV} {σ : Store} {R : Out → Store → Prop} (hl : args.length ≤ 83) (h : WpR Tryz.prog b_law10_Acts_Few [.tmp 2] args σ R) : CallA Tryz.prog n_law10_Acts_Few args σ R := CallA.of_wp Tryz.func4 (by kernel_rfl) a_law10_Acts_Few_ok hl h.go
end Go.Proofs.YtlmpjjelildedaaGreatDoor
namespace Go.Proofs.YtlmpjjelildedaaGreatDoor
open Go.AM
set_option maxRecDepth 10000
end Go.Proofs.YtlmpjjelildedaaGreatDoor
namespace Go.Proofs.YtlmpjjelildedaaGreatDoor
open Go.AM
set_option maxRecDepth 10000
end Go.Proofs.YtlmpjjelildedaaGreatDoor
namespace Go.Proofs.YtlmpjjelildedaaGreatDoor
open Go.AM
set_option maxRecDepth 4000
theorem before_succ {q : Nat → Prop} {i : Nat} (h : ∀ k, k < i → q k) (hi : q i) : ∀ k, k < i + 1 → q k := fun k hk => by
  by_cases h2 : k < i
  · exact h k h2
  · have : k = i := by omega
    subst this; exact hi
theorem allN {α : Type} [Inhabited α] {p : α → Bool} {l : List α} (h : ∀ k, k < l.length → p (l.getD k default) = true) : l.all p = true := by
  rw [List.all_eq_true]
  intro x hx
  obtain ⟨i, hi, rfl⟩ := List.getElem_of_mem hx
  have := h i hi
  rwa [List.getD_eq_getElem?_getD, List.getElem?_eq_getElem hi, Option.getD_some] at this
theorem allF {α : Type} [Inhabited α] {p : α → Bool} {l : List α} {i : Nat} (hi : i < l.length) (h : p (l.getD i default) = false) : l.all p = false := by
  cases hq : l.all p with
  | false => rfl
  | true => rw [List.all_eq_true] at hq; rw [hq _ (getD_mem hi)] at h; cases h
end Go.Proofs.YtlmpjjelildedaaGreatDoor
namespace Go.Proofs
open Go.Shelf
def Tryz.lays106_ren : Go.Shelf.Ren := ⟨fun | 106 => 53 | 213 => 86 | 265 => 128 | n => n, fun | 9 => 9 | 3 => 3 | n => n, fun | n => n⟩
theorem Tryz.lays106 : Go.Proofs.Lays.n106 Tryz.prog Tryz.lays106_ren := {
  mixed := by kernel_rfl
  f106 := Tryz.func53.trans (congrArg some (by kernel_rfl))
  f213 := Tryz.func86.trans (congrArg some (by kernel_rfl))
  f265 := Tryz.func128.trans (congrArg some (by kernel_rfl))
  t3 := Tryz.underlying3
  a3 := Tryz.isAgg3
  z3 := Tryz.sizeOf3
  v3 := Tryz.zeroValue3
  t9 := Tryz.underlying9
  a9 := Tryz.isAgg9
  z9 := Tryz.sizeOf9
  v9 := Tryz.zeroValue9 }
open Go.RowKit in
theorem Tryz.strings_Compare (a b : ByteArray) (w : World) :
    Calls Tryz.prog 53 #[.string a, .string b] w fun e w' => e = .returned (.int .i64 (Lib.compareBytes a.data.toList b.data.toList)) ∧ w' = w := Any.strings_Compare Tryz.lays106 a b w
end Go.Proofs
