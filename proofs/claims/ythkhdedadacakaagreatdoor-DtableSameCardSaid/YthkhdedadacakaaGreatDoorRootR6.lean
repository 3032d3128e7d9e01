/- decretallaw18.DtableSame: for every input the law returns true; each argument reads behind the call as it read before. -/
import Derived.Test.YthkhdedadacakaaGreatDoorY27
import Derived.Test.YthkhdedadacakaaGreatDoorTie
import Derived.Test.YthkhdedadacakaaGreatDoorCards
import Derived.SevenTiedAt
set_option linter.unnecessarySimpa false
set_option linter.unusedSimpArgs false
set_option linter.unusedVariables false
namespace Go.Proofs.YthkhdedadacakaaGreatDoor
open Go.AM Go.ChangeShapes Go.WideShapes Go.ChangeAt Go.RowKit
set_option maxRecDepth 8000
section
variable {H : Type} {enc : TypeId × Value → H} {w : World}
theorem rd_sl0 {t e : Nat} {α : Type} (el : El) (mk : α → AV) (ht : Tryz.prog.underlying t = some (.slice e)) (hc : Tryz.prog.cellsOf t = 1) : RD enc w 0 t 1 (fun l : List α => [.lst false el (l.map mk)]) (fun _ => True) := by
  refine ⟨hc, fun _ => rfl, fun fuel cs x hf hx => ?_⟩
  rcases DataW.trod_slice ht hx with ⟨rfl, rfl⟩ | ⟨_, _, _, _, _, k, hk, _⟩
  · exact ⟨[], trivial, VRL.one (.lstE _ _ _ _ (fun h => by cases h))⟩
  · omega
theorem rd_st0 {t n : Nat} {fs : Array Field} {α : Type} {E : α → List AV} {G : α → Prop} (ht : Tryz.prog.underlying t = some (.struct fs)) (hc : Tryz.prog.cellsOf t = n) (hE : ∀ a, (E a).length = n) : RD enc w 0 t n E G :=
  ⟨hc, hE, fun fuel cs x hf hx => by obtain ⟨xs, k, hk, _⟩ := DataW.trod_struct ht hx; omega⟩
def cExpr (x : Expr) : List AV := [I x.op, I x.v.kind, I x.v.n, .str x.v.s, .str x.s, eExprs x.l]
theorem cExpr_cell (a : Expr) (c : Nat) : (eExpr a).cell c = (cExpr a).getD c .undef := by
  rw [eExpr_eq]; rfl
theorem fits_x (a : Expr) : (eExpr a).fits EX = true := by rw [eExpr_eq]; rfl
abbrev TT {α : Type} : α → Prop := fun _ => True
theorem rd_val0 : ∀ N, RD enc w N 75 3 cVal TT
  | 0 => rd_st0 Tryz.underlying75 (by kernel_rfl) (fun _ => rfl)
  | N + 1 => (rd_val N).weak (fun _ _ => trivial)
theorem rd_exprS (N : Nat) (h : RD enc w N 51 1 (fun l : List Expr => [eExprs l]) TT) : RD enc w (N + 1) 77 6 cExpr TT := by
  have h := Reads.struct (enc := enc) (w := w) (N := N) (n := 6) Tryz.underlying77 (by kernel_rfl) (fun _ => rfl) (.cons (rd_int N Tryz.underlying72 (by kernel_rfl)) rfl (.cons (rd_val0 N) rfl (.cons (rd_str N) rfl (.cons h rfl .nil))))
  exact h.map (fun p => .mk p.1 p.2.1 p.2.2.1 p.2.2.2.1) (fun _ => rfl) (fun _ => rfl) (fun p h => trivial)
theorem rd_exprs' (N : Nat) (h : RD enc w N 77 6 cExpr TT) : RD enc w (N + 1) 51 1 (fun l : List Expr => [eExprs l]) TT :=
  (Reads.slice EX eExpr Tryz.underlying51 (by kernel_rfl) h (by decide) rfl fits_x (fun a c _ => cExpr_cell a c)).weak (fun _ _ => trivial)
theorem rd_expr2 : ∀ N, RD enc w N 77 6 cExpr TT ∧ RD enc w N 51 1 (fun l : List Expr => [eExprs l]) TT
  | 0 => ⟨rd_st0 Tryz.underlying77 (by kernel_rfl) (fun _ => rfl), rd_sl0 EX eExpr Tryz.underlying51 (by kernel_rfl)⟩
  | N + 1 => ⟨rd_exprS N (rd_expr2 N).2, rd_exprs' N (rd_expr2 N).1⟩
def cTest (t : Test) : List AV := [I t.kind, I t.a.op, I t.a.v.kind, I t.a.v.n, .str t.a.v.s, .str t.a.s, eExprs t.a.l, I t.b.op, I t.b.v.kind, I t.b.v.n, .str t.b.v.s, .str t.b.s, eExprs t.b.l, .bool t.lo, .bool t.hi]
theorem rd_test (N : Nat) : RD enc w (N + 1) 88 15 cTest TT := by
  have h := Reads.struct (enc := enc) (w := w) (N := N) (n := 15) Tryz.underlying88 (by kernel_rfl) (fun _ => rfl) (.cons (rd_int N Tryz.underlying86 (by kernel_rfl)) rfl (.cons (rd_expr2 N).1 rfl (.cons (rd_expr2 N).1 rfl (.cons (rd_bool N) rfl (.cons (rd_bool N) rfl .nil)))))
  exact h.map (fun p => ⟨p.1, p.2.1, p.2.2.1, p.2.2.2.1, p.2.2.2.2.1⟩) (fun _ => rfl) (fun _ => rfl) (fun p h => trivial)
theorem rd_tests (N : Nat) : RD enc w (N + 2) 67 1 (fun l : List Test => [eTests l]) TT :=
  (Reads.slice ES eTest Tryz.underlying67 (by kernel_rfl) (rd_test N) (by decide) rfl (fun _ => rfl) (fun _ _ _ => rfl)).weak (fun _ _ => trivial)
def cCell (c : Cell) : List AV := [.bool c.any, .bool c.neg, eTests c.tests]
theorem rd_cell (N : Nat) : RD enc w (N + 3) 69 3 cCell TT := by
  have h := Reads.struct (enc := enc) (w := w) (N := N + 2) (n := 3) Tryz.underlying69 (by kernel_rfl) (fun _ => rfl) (.cons (rd_bool _) rfl (.cons (rd_bool _) rfl (.cons (rd_tests N) rfl .nil)))
  exact h.map (fun p => ⟨p.1, p.2.1, p.2.2.1⟩) (fun _ => rfl) (fun _ => rfl) (fun p h => trivial)
theorem rd_cells (N : Nat) : RD enc w (N + 4) 50 1 (fun l : List Cell => [eCells l]) TT :=
  (Reads.slice EC eCell Tryz.underlying50 (by kernel_rfl) (rd_cell N) (by decide) rfl (fun _ => rfl) (fun _ _ _ => rfl)).weak (fun _ _ => trivial)
def cLine (l : Line) : List AV := [eCells l.cells, eExprs l.outs]
theorem rd_line (N : Nat) : RD enc w (N + 5) 53 2 cLine TT := by
  have h := Reads.struct (enc := enc) (w := w) (N := N + 4) (n := 2) Tryz.underlying53 (by kernel_rfl) (fun _ => rfl) (.cons (rd_cells N) rfl (.cons (rd_expr2 (N + 4)).2 rfl .nil))
  exact h.map (fun p => ⟨p.1, p.2.1⟩) (fun _ => rfl) (fun _ => rfl) (fun p h => trivial)
theorem rd_lines (N : Nat) : RD enc w (N + 6) 30 1 (fun l : List Line => [eLines l]) TT :=
  (Reads.slice ER eLine Tryz.underlying30 (by kernel_rfl) (rd_line N) (by decide) rfl (fun _ => rfl) (fun _ _ _ => rfl)).weak (fun _ _ => trivial)
def cReady (r : Ready) : List AV := cTable r.table ++ [eLines r.lines]
theorem rd_ready (N : Nat) : RD enc w (N + 7) 32 7 cReady TT := by
  have h := Reads.struct (enc := enc) (w := w) (N := N + 6) (n := 7) Tryz.underlying32 (by kernel_rfl) (fun _ => rfl) (.cons (rd_table (N + 1)) rfl (.cons (rd_lines N) rfl .nil))
  exact h.map (fun p => ⟨p.1, p.2.1⟩) (fun _ => rfl) (fun _ => rfl) (fun p h => trivial)
theorem ready_of {v : Value} {d : DataW H} {ps : List MemPlace} {base : Nat} (hval : Value.okWide Tryz.prog w .any base 32 v) (hd : DataW.Trod enc Tryz.prog w 0 (fun _ => true) true 32 v d ps) : ∃ r : Ready, VR (Ghost.all w) w (eReady r) v := by
  obtain ⟨cs, rfl, _⟩ := Go.WideShapes.okWide_struct Tryz.underlying32 hval
  obtain ⟨r, h1, h2⟩ := Reads.deep (fun N => by
    have := rd_ready (enc := enc) (w := w) N
    exact ⟨this.1, this.2.1, fun f cs x hf hx => this.2.2 f cs x (by omega) hx⟩) hd
  exact ⟨r, VRL.agg h2 rfl⟩
end
def vReady : Value := .agg #[.string ByteArray.empty, .slice none 0 0, .slice none 0 0, .int .i64 0, .int .i64 0, .slice none 0 0, .slice none 0 0]
set_option maxRecDepth 100000 in
theorem same_lifted (os : Os) (started : os.Started) (H : Type) (enc : TypeId × Value → H) :
    ReturnsInHanded {} Tryz.checked os 7 .any (fun w args => (Rows.dtableSameSpec.pre enc Tryz.checked.prog Tryz.f7 [] false w args ∧ laidMetH Tryz.prog laidL w) ∧ sizedMet enc Tryz.checked.prog Tryz.f7 (OpenSpec.ofChange Rows.dtableSameSpec) false w args) (Rows.dtableSameSpec.post enc Tryz.checked.prog Tryz.f7 false true false false) := by
  refine stepL #[vReady, vReady] started (by kernel_rfl) Tryz.func7 (by kernel_rfl) (by kernel_rfl) (by kernel_rfl) (by kernel_rfl) (by kernel_rfl) ?_
  intro W base args ds gs before hval hW hG
  have hW' := hW
  obtain ⟨p, q, hA, hV, rfl, _, _⟩ := hW
  rw [Tryz.params7] at hA hval
  obtain ⟨v0, v1, d0, d1, p0, p1, rfl, rfl, rfl, h0, h1⟩ := trodAll_two hA
  obtain ⟨rfl, rfl⟩ := trodVars_none hV
  obtain ⟨a, ha⟩ := ready_of (hval 0 32 v0 rfl rfl) h0
  obtain ⟨b, hb⟩ := ready_of (hval 1 32 v1 rfl rfl) h1
  exact Said_of_CallF (law18_DtableSame a b) hW' hG kids full (by rw [Tryz.params7]; decide) rfl rfl Tryz.underlying4 rfl rfl (args2 ha hb)
theorem same_row : Rows.DtableSameSaid :=
  OpenClaim.holds_of_wide 7 Tryz.f7 rfl rfl rfl rfl rfl rfl rfl ⟨rfl, rfl, rfl, rfl, rfl⟩ rfl rfl rfl rfl rfl (by kernel_rfl) Tryz.func7 (by kernel_rfl)
    (of_decide_eq_true (by kernel_rfl)) (by unfold Func.isWrapper; first | (rw [if_pos (by decide +kernel)]; kernel_rfl) | (rw [if_neg (by decide +kernel)]; exact ⟨rfl, rfl⟩))
    (fun os started H enc _ => same_lifted os started H enc)
theorem same_holds : Rows.DtableSameCardSaid :=
  Claim7.holds_tied_plain_at .later [] [.data, .data, .data] true (true, "8858e72d443b1405d0176d42c1e4aefa8f57ca076e265e04b8a7bd7b36f733d3") false
    same_row (fun _ h => by cases h) (by kernel_rfl) (fun _ h => by cases h) dtableSame_row_tie rfl ⟨rfl, rfl⟩ (by kernel_rfl) rfl
    (fun f fn hf hfn => by
      obtain rfl : f = 7 := Option.some.inj ((show Tryz.prog.funcNamed "decretal/decretallaw18.DtableSame" = some 7 by kernel_rfl).symm.trans hf) |>.symm
      obtain rfl : fn = Tryz.f7 := (Option.some.inj (Tryz.func7.symm.trans hfn)).symm
      exact ⟨by kernel_rfl, fun j t ht => by
        rw [Tryz.params7] at ht
        have h3 : t = 32 := by
          rcases j with _ | _ | j
          · simpa using ht.symm
          · simpa using ht.symm
          · simp at ht
        subst h3
        exact (show Tryz.prog.wantsStandIn 32 = false by kernel_rfl)⟩)
    (by kernel_rfl)
end Go.Proofs.YthkhdedadacakaaGreatDoor
