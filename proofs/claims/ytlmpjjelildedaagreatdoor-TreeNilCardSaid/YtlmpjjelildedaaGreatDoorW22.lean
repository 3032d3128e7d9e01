/- Part of a proof: see Root. -/
import Derived.Test.YtlmpjjelildedaaGreatDoorW21
import Derived.WalkKit
import Derived.ProofKit
import Derived.OpenShut
import Derived.ReadAgain
import Derived.Deep.SlicePairs
import Derived.Test.YtlmpjjelildedaaGreatDoorRows
import Derived.SevenTiedAt
import Derived.LaidLaws
import Derived.LaidHandle
import Derived.Lib.LaidTab
set_option linter.unnecessarySimpa false
set_option linter.unusedSectionVars false
set_option linter.unusedSimpArgs false
set_option linter.unusedVariables false
namespace Go.Proofs.YtlmpjjelildedaaGreatDoor
open Go.AM
set_option maxRecDepth 4000
structure Edt where
  key : Str
  val : Str
  cut : Bool
  upto : Str
deriving Inhabited
abbrev ED : El := ⟨true, 4⟩
def cEdt (x : Edt) : List AV := [.str x.key, .str x.val, .bool x.cut, .str x.upto]
def eEdt (x : Edt) : AV := .agg (cEdt x)
attribute [go_sem] cEdt eEdt
def eEdts (l : List Edt) : AV := .lst false ED (l.map eEdt)
theorem purL_edt (l : List Edt) : AV.purL (l.map eEdt) = true := purL_map _ _ fun x => by simp [eEdt, cEdt, AV.pur, AV.purL]
structure TAct where
  kind : Int
  n : Int
  l : List Edt
  key : Str
  upto : Str
  note : Str
  fates : List Int
deriving Inhabited
abbrev EA7 : El := ⟨true, 7⟩
def eInts (l : List Int) : AV := .lst false ⟨false, 1⟩ (l.map fun n => I n)
theorem purL_ints (l : List Int) : AV.purL (l.map fun n => I n) = true := purL_map _ _ fun x => rfl
def cTAct (a : TAct) : List AV := [I a.kind, I a.n, eEdts a.l, .str a.key, .str a.upto, .str a.note, eInts a.fates]
def eTAct (a : TAct) : AV := .agg (cTAct a)
attribute [go_sem] cTAct eTAct
theorem pur_eTAct (a : TAct) : (eTAct a).pur = true := by simp [eTAct, cTAct, eEdts, eInts, AV.pur, AV.purL, purL_edt, purL_ints]
def fewE (x : Edt) : Bool := decide (x.key.length ≤ 300) && decide (x.val.length ≤ 1000) && decide (x.upto.length ≤ 300)
def fewT (a : TAct) : Bool := decide (a.l.length ≤ 70) && decide (a.key.length ≤ 300) && decide (a.upto.length ≤ 300) && decide (a.note.length ≤ 1000) && a.l.all fewE
theorem law10_Few (a : TAct) : CallF Tryz.prog n_law10_Acts_Few [.lst true EA7 [eTAct a]] (.bool (fewT a)) := by
  obtain ⟨E, hE⟩ : ∃ E, fewT a = E := ⟨_, rfl⟩
  rw [hE]
  unfold fewT at hE
  refine CallF.of_nil (of_law10_Acts_Few (by simp) ?_) (by simp [AV.purL, AV.pur, pur_eTAct])
  simp only [eTAct, cTAct, eEdts, eInts]
  unfold b_law10_Acts_Few WpR
  intro Q hQr hQn hQp
  repeat' first | refine go_ ?_ | refine br_ (fun hw => ?_) (fun hw => ?_) <;> try omega | fail
  with_reducible refine loop_i [2, 3, 4, 5, 9, 10, 11, 12, 13, 14, 15, 16, 17, 18, 19, 20, 21, 22, 23, 24, 25, 26, 27, 28, 29, 30, 31, 32, 33, 34, 35, 36, 37, 38, 39, 40, 41, 42, 43, 44, 45, 46, 47, 48, 49, 50, 51, 52, 53, 54, 55, 56, 57, 58, 59, 60, 61, 62, 63, 64, 65, 66, 67, 68, 69, 70, 71, 72, 73, 74, 75, 76, 77, 78, 79, 80, 81, 82] (fun q : Nat × List AObj => [(3, I q.1)]) (fun q => q.2) (fun q => q.1 ≤ 1 ∧ (q.1 = 1 → E = true)) (fun q => 1 - q.1) ((0, [])) ?_ ?_ ?_ ?_
  · simp
  · rfl
  · exact at_
  rintro ⟨i, τ⟩ r ⟨g1, g2⟩
  dsimp only at g1 g2
  by_cases hi : i < 1
  · obtain rfl : i = 0 := by omega
    by_cases hb : (decide (a.l.length ≤ 70) && decide (a.key.length ≤ 300) && decide (a.upto.length ≤ 300) && decide (a.note.length ≤ 1000)) = true
    case neg =>
      simp only [Bool.not_eq_true] at hb
      rw [hb, Bool.false_and] at hE
      repeat' first | refine go_ ?_ | refine br_ (fun hw => ?_) (fun hw => ?_) <;> try omega | fail
      all_goals first
        | exact ab_
        | (refine leafE ?_ rfl; rw [← hE]; done)
        | (exfalso; simp at hb; omega)
    rw [hb, Bool.true_and] at hE
    simp only [Bool.and_eq_true, decide_eq_true_eq] at hb
    obtain ⟨⟨⟨b1, b2⟩, b3⟩, b4⟩ := hb
    repeat' first | refine go_ ?_ | refine br_ (fun hw => ?_) (fun hw => ?_) <;> try omega | fail
    all_goals first | exact ab_ | skip
    with_reducible refine loop_i [2, 4, 5, 49, 50, 51, 52, 53, 54, 55, 56, 57, 58, 59, 60, 61, 62, 63, 64, 65, 66, 67, 68, 69, 70, 71, 72, 73, 74, 75, 76, 77, 78, 79, 80, 81, 82] (fun q : Nat × List AObj => [(4, I q.1)]) (fun q => q.2) (fun q => q.1 ≤ a.l.length ∧ ∀ k, k < q.1 → fewE (a.l.getD k default) = true) (fun q => a.l.length - q.1) ((0, τ)) ?_ ?_ ?_ ?_
    · simp
    · rfl
    · exact at_
    rintro ⟨j, τ2⟩ r2 ⟨h1, h2⟩
    dsimp only at h1 h2
    by_cases hj : j < a.l.length
    · have hne := fun h => allF (p := fewE) hj h
      have hbs := fun he => before_succ (q := fun k => fewE (a.l.getD k default) = true) h2 (i := j) he
      obtain ⟨v, hve⟩ : ∃ v, a.l.getD j default = v := ⟨_, rfl⟩
      rw [hve] at hne hbs
      have hS : fewE v = (decide (v.key.length ≤ 300) && decide (v.val.length ≤ 1000) && decide (v.upto.length ≤ 300)) := rfl
      rw [hS] at hne hbs
      repeat' first | simp (disch := omega) only [go_sem, hQr, hQn, hQp, wrapK_i64, wrapK_u8, wrapK_u64, Nat.reduceAdd, Nat.reduceBEq, ↓reduceIte, hve] | refine go_ ?_ | refine br_ (fun hw => ?_) (fun hw => ?_) <;> try omega | fail
      all_goals first
        | exact ab_
        | (refine leafE ?_ rfl; rw [← hE, hne (by simp; omega)]; done)
        | (refine ⟨(j + 1, τ2 ++ [AObj.cells (cEdt v)]), ?_, ?_, ?_, ou_, ?_⟩
           · exact ⟨by dsimp only; omega, hbs (by simp; omega)⟩
           · dsimp only; omega
           · dsimp only; first | done | rfl | (simp [go_sem]; done)
           · dsimp only; simp (disch := omega) only [at_nil, at_cons, and_true, go_sem, hQr, hQn, hQp, wrapK_i64, wrapK_u8, wrapK_u64, Nat.reduceAdd, Nat.reduceBEq, ↓reduceIte, Int.natCast_add, Int.cast_ofNat_Int] <;> (try trivial) <;> (try omega) <;> (try (repeat (first | trivial | (refine And.intro ?_ ?_) | (congr 1; omega)))))
    · repeat' first | refine go_ ?_ | refine br_ (fun hw => ?_) (fun hw => ?_) <;> try omega | fail
      refine ⟨(1, τ2), ?_, ?_, ?_, ou_, ?_⟩
      · exact ⟨by dsimp only; omega, fun _ => by rw [← hE]; exact allN (fun k hk => h2 k (by omega))⟩
      · dsimp only; omega
      · rfl
      · dsimp only; simp (disch := omega) only [at_nil, at_cons, and_true, go_sem, hQr, hQn, hQp, wrapK_i64, wrapK_u8, wrapK_u64, Nat.reduceAdd, Nat.reduceBEq, ↓reduceIte, Int.natCast_add, Int.cast_ofNat_Int] <;> (try trivial) <;> (try omega) <;> (try (repeat (first | trivial | (refine And.intro ?_ ?_) | (congr 1; omega))))
  · repeat' first | refine go_ ?_ | refine br_ (fun hw => ?_) (fun hw => ?_) <;> try omega | fail
    exact leafE (by rw [g2 (by omega)]) rfl
def zTree : List AV := [.nilp, I 0, I 0, .nils]
section
variable (a : TAct)
theorem nil_Open : CallF Tryz.prog n_tree_Open [.nilp] (.tup [.nilp, I 1]) := CallF.of_run 9 rfl rfl (by kernel_rfl)
theorem nil_Get : CallF Tryz.prog n_tree_Tree_Get [.nilp, .str a.key] (.tup [.str [], I 1]) := CallF.of_run 9 rfl rfl (by kernel_rfl)
theorem zero_Get : CallM Tryz.prog n_tree_Tree_Get 0 [.str a.key] zTree zTree (.tup [.str [], I 1]) := CallM.of_run 9 rfl rfl rfl (by kernel_rfl)
theorem nil_Scan : CallF Tryz.prog n_tree_Tree_Scan [.nilp, .str a.key, .str a.upto, I a.n] (.tup [.nils, I 1]) := CallF.of_run 9 rfl rfl (by kernel_rfl)
theorem zero_Scan : CallM Tryz.prog n_tree_Tree_Scan 0 [.str a.key, .str a.upto, I a.n] zTree zTree (.tup [.nils, I 1]) := CallM.of_run 9 rfl rfl rfl (by kernel_rfl)
theorem nil_Snap : CallF Tryz.prog n_tree_Tree_Snap [.nilp] (.tup [I 0, I 1]) := CallF.of_run 9 rfl rfl (by kernel_rfl)
theorem zero_Snap : CallM Tryz.prog n_tree_Tree_Snap 0 [] zTree zTree (.tup [I 0, I 1]) := CallM.of_run 9 rfl rfl rfl (by kernel_rfl)
theorem nil_At : CallF Tryz.prog n_tree_Tree_At [.nilp, I a.n, .str a.key, .str a.upto, I (-1)] (.tup [.nils, I 1]) := CallF.of_run 9 rfl rfl (by kernel_rfl)
theorem zero_At : CallM Tryz.prog n_tree_Tree_At 0 [I a.n, .str a.key, .str a.upto, I (-1)] zTree zTree (.tup [.nils, I 1]) := CallM.of_run 9 rfl rfl rfl (by kernel_rfl)
theorem nil_Apply : CallF Tryz.prog n_tree_Tree_Apply [.nilp, eEdts a.l, .str a.note] (I 1) := CallF.of_run 9 (by simp [AV.purL, AV.pur, eEdts, purL_edt]) rfl (by kernel_rfl)
theorem zero_Apply : CallM Tryz.prog n_tree_Tree_Apply 0 [eEdts a.l, .str a.note] zTree zTree (I 1) := CallM.of_run 9 (by simp [AV.purL, AV.pur, eEdts, purL_edt]) rfl rfl (by kernel_rfl)
theorem nil_Sync : CallF Tryz.prog n_tree_Tree_Sync [.nilp] (I 1) := CallF.of_run 9 rfl rfl (by kernel_rfl)
theorem zero_Sync : CallM Tryz.prog n_tree_Tree_Sync 0 [] zTree zTree (I 1) := CallM.of_run 9 rfl rfl rfl (by kernel_rfl)
theorem nil_Release : CallF Tryz.prog n_tree_Tree_Release [.nilp, I a.n] (I 1) := CallF.of_run 9 rfl rfl (by kernel_rfl)
theorem zero_Release : CallM Tryz.prog n_tree_Tree_Release 0 [I a.n] zTree zTree (I 1) := CallM.of_run 9 rfl rfl rfl (by kernel_rfl)
theorem nil_Len : CallF Tryz.prog n_tree_Tree_Len [.nilp] (I 0) := CallF.of_run 9 rfl rfl (by kernel_rfl)
theorem zero_Len : CallM Tryz.prog n_tree_Tree_Len 0 [] zTree zTree (I 0) := CallM.of_run 9 rfl rfl rfl (by kernel_rfl)
theorem nil_Note : CallF Tryz.prog n_tree_Tree_Note [.nilp] (.str []) := CallF.of_run 9 rfl rfl (by kernel_rfl)
theorem zero_Note : CallM Tryz.prog n_tree_Tree_Note 0 [] zTree zTree (.str []) := CallM.of_run 9 rfl rfl rfl (by kernel_rfl)
theorem nil_Used : CallF Tryz.prog n_tree_Tree_Used [.nilp] (I 0) := CallF.of_run 9 rfl rfl (by kernel_rfl)
theorem zero_Used : CallM Tryz.prog n_tree_Tree_Used 0 [] zTree zTree (I 0) := CallM.of_run 9 rfl rfl rfl (by kernel_rfl)
end
set_option maxHeartbeats 8000000 in
theorem law10_TreeNil (a : TAct) (made : Bool) : CallF Tryz.prog n_law10_TreeNil [eTAct a, .bool made] (.bool true) := by
  have c0 := law10_Few a
  have cL := law10_lives
  generalize fewT a = f at c0
  have p0 := nil_Open
  have p1 := nil_Get a
  have p2 := nil_Scan a
  have p3 := nil_Snap
  have p4 := nil_At a
  have p5 := nil_Apply a
  have p6 := nil_Sync
  have p7 := nil_Release a
  have p8 := nil_Len
  have p9 := nil_Note
  have pA := nil_Used
  have q1 := zero_Get a
  have q2 := zero_Scan a
  have q3 := zero_Snap
  have q4 := zero_At a
  have q5 := zero_Apply a
  have q6 := zero_Sync
  have q7 := zero_Release a
  have q8 := zero_Len
  have q9 := zero_Note
  have qA := zero_Used
  simp only [eTAct, cTAct, eEdts, eInts, zTree] at *
  refine CallF.of_nil (of_law10_TreeNil (by simp) ?_) (by simp [AV.purL, AV.pur, purL_edt, purL_ints])
  unfold b_law10_TreeNil WpR
  intro Q hQr hQn hQp
  cases f <;> cases made
  · repeat' first | refine go_ ?_ | refine cf_ c0 ?_ | refine cf_ cL ?_ | refine br_ (fun hw => ?_) (fun hw => ?_) <;> try omega | fail
    all_goals first | exact ab_ | exact leafE rfl rfl
  · repeat' first | refine go_ ?_ | refine cf_ c0 ?_ | refine cf_ cL ?_ | refine br_ (fun hw => ?_) (fun hw => ?_) <;> try omega | fail
    all_goals first | exact ab_ | exact leafE rfl rfl
  · repeat' first | refine go_ ?_ | refine cf_ c0 ?_ | refine cf_ cL ?_ | refine cf_ p0 ?_ | refine cf_ p1 ?_ | refine cf_ p2 ?_ | refine cf_ p3 ?_ | refine cf_ p4 ?_ | refine cf_ p5 ?_ | refine cf_ p6 ?_ | refine cf_ p7 ?_ | refine cf_ p8 ?_ | refine cf_ p9 ?_ | refine cf_ pA ?_ | refine br_ (fun hw => ?_) (fun hw => ?_) <;> try omega | fail
    all_goals first | exact ab_ | exact leafE rfl rfl
  · repeat' first | refine go_ ?_ | refine cf_ c0 ?_ | refine cf_ cL ?_ | refine cf_ p0 ?_ | refine cm_ q1 ?_ | refine cm_ q2 ?_ | refine cm_ q3 ?_ | refine cm_ q4 ?_ | refine cm_ q5 ?_ | refine cm_ q6 ?_ | refine cm_ q7 ?_ | refine cm_ q8 ?_ | refine cm_ q9 ?_ | refine cm_ qA ?_ | refine br_ (fun hw => ?_) (fun hw => ?_) <;> try omega | fail
    all_goals first | exact ab_ | exact leafE rfl rfl
end Go.Proofs.YtlmpjjelildedaaGreatDoor
namespace Go.AM
open Go.ChangeShapes Go.WideShapes
section
variable {H : Type} {enc : TypeId × Value → H} {P : Program} {w w' : World} {base : Nat} {spare : Nat → Bool} {held : Bool}
theorem DataW_TrodAll_carry : ∀ {ts : List TypeId} {vs : List Value} {ds : List (DataW H)} {ps : List MemPlace}, DataW.TrodAll enc P w base spare held ts vs ds ps → (∀ p ∈ ps, w.sameAt w' p) → DataW.TrodAll enc P w' base spare held ts vs ds ps
  | [], [], [], _, h, _ => h
  | _ :: _, _ :: _, _ :: _, _, ⟨p, q, ⟨n, hn⟩, h2, e⟩, hs => ⟨p, q, ⟨n, DataW.trod_carry n _ _ _ hn (fun x hx => hs x (by rw [e]; exact List.mem_append_left _ hx))⟩, DataW_TrodAll_carry h2 (fun x hx => hs x (by rw [e]; exact List.mem_append_right _ hx)), e⟩
theorem keptBut_of_heap {may : MemPlace → Prop} (h1 : w'.os = w.os) (h2 : w'.output = w.output) (h3 : ∀ b, b < w.heap.size → w'.heap[b]? = w.heap[b]?) : w.keptBut w' may := by
  refine ⟨h1, h2, fun i hi => ?_⟩
  rw [h3 i hi]
  split
  · rename_i a b ha hb
    rw [ha] at hb
    cases Option.some.inj hb
    exact ⟨rfl, rfl, rfl, fun _ _ => rfl⟩
  · rename_i a b ha hb
    rw [ha] at hb
    cases Option.some.inj hb
    exact .inr ⟨rfl, rfl⟩
  · rfl
theorem sameAt_of_heap (h3 : ∀ b, b < w.heap.size → w'.heap[b]? = w.heap[b]?) {p : MemPlace} (hp : p.block < w.heap.size) : w.sameAt w' p := by
  cases p with
  | cell b off => exact cell?_of_heap (h3 b hp) off none
  | map b => exact h3 b hp
def Ghost.all (w : World) : Ghost := Ghost.bare (· < w.heap.size)
theorem Said_of_CallF {f : FuncId} {fn : Func} {s : ChangeSpec} {t : TypeId} {args' : List AV} {W : World} {args : Array Value} {ds gs : List (DataW H)} {before : List MemPlace}
    (h : CallF P f args' (.bool true)) (hW : DataW.Whole enc P fn.params.toList s.vars false W args.toList ds gs before) (hG : GlobR (Ghost.all W) W)
    (K : Kids P (· < P.types.size)) (hz : ∀ t e, t < P.types.size → P.underlying t = some (.slice e) → 0 < P.cellsOf e) (hps : ∀ t ∈ fn.params.toList, t < P.types.size)
    (hvars : s.vars = []) (hrt : fn.resultTypes = #[t]) (ht : P.underlying t = some .bool) (hfn : s.fn H (ds ++ gs) = { results := [.lit (.bool true)], args := ds, vars := [] })
    (hl : args'.length = args.size) (hv : ∀ i, i < args'.length → VR (Ghost.all W) W (args'.getD i .undef) (args.getD i Go.undef)) :
    Calls P f args W fun e W' => ∃ v, e = .returned v ∧ s.post enc P fn false true false false W args v W' := by
  refine ((h []).2 (Ghost.all W) W args (Rel.bare (fun _ h => h) hG) hl hv).mono ?_
  rintro e W' ⟨out, g', σ', hR, hE, hO, rfl, rfl⟩
  have hfr : ∀ b, b < W.heap.size → W'.heap[b]? = W.heap[b]? := fun b hb => hE.frame b hb not_tracked_nil
  cases e with
  | panicked c => exact hO.elim
  | outgrown => exact hO.elim
  | returned v =>
    have hb : v = .bool true := by cases hO; rfl
    subst hb
    refine ⟨_, rfl, ds, gs, before, [], before, [], hW, ?_, ?_, ?_, keptBut_of_heap hE.os hE.output hfr, fun h => by cases h⟩
    · rw [hfn, hrt]
      exact trodAll_mk1 (RowKit.shut_bool ht true)
    · rw [hfn]
      have hlt := hW.lt
      obtain ⟨p, q, h1, h2, rfl, _, _⟩ := hW
      rw [hvars] at h2
      obtain ⟨rfl, rfl⟩ := trodVars_none h2
      rw [List.append_nil] at hlt ⊢
      refine DataW_TrodAll_carry (DataW.TrodAll.respare K hz hps h1 (fun x hx => by simpa using hlt x hx)) (fun x hx => sameAt_of_heap hfr (hlt x hx))
    · rw [hfn, hvars]
      rfl
theorem VR.string {g : Ghost} {w : World} (s : ByteArray) : VR g w (.str s.data.toList) (.string s) := VR.str s.data.toList
end
end Go.AM
namespace Go.AM
open Go.ChangeShapes Go.WideShapes
def VRL (g : Ghost) (w : World) (az : List AV) (vs : List Value) : Prop := az.length = vs.length ∧ ∀ i, i < az.length → VR g w (az.getD i .undef) (vs.getD i Go.undef)
theorem VRL.nil (g : Ghost) (w : World) : VRL g w [] [] := ⟨rfl, fun i hi => by cases hi⟩
theorem VRL.app {g : Ghost} {w : World} {a b : List AV} {x y : List Value} (h : VRL g w a x) (k : VRL g w b y) : VRL g w (a ++ b) (x ++ y) := by
  have h1 := h.1
  refine ⟨by simp [h.1, k.1], fun i hi => ?_⟩
  rw [List.length_append] at hi
  by_cases hl : i < a.length
  · have := h.2 i hl
    rw [List.getD_eq_getElem?_getD, List.getD_eq_getElem?_getD] at this ⊢
    rw [List.getElem?_append_left hl, List.getElem?_append_left (by omega)]
    exact this
  · have := k.2 (i - a.length) (by omega)
    rw [List.getD_eq_getElem?_getD, List.getD_eq_getElem?_getD] at this ⊢
    rw [List.getElem?_append_right (by omega), List.getElem?_append_right (by omega), ← h1]
    exact this
theorem VRL.one {g : Ghost} {w : World} {a : AV} {x : Value} (h : VR g w a x) : VRL g w [a] [x] := ⟨rfl, fun i hi => by
  match i, hi with
  | 0, _ => exact h⟩
theorem VRL.agg {g : Ghost} {w : World} {az : List AV} {vs : Array Value} (h : VRL g w az vs.toList) (hs : az.all AV.scalar = true) : VR g w (.agg az) (.agg vs) := by
  refine .agg az vs (by simpa using h.1) hs (fun i hi => ?_)
  have := h.2 i hi
  simpa [List.getD_eq_getElem?_getD, Array.getD_eq_getD_getElem?] using this
section
variable {H : Type} {enc : TypeId × Value → H} {P : Program} {w : World}
def Reads (enc : TypeId × Value → H) (P : Program) (w : World) (N : Nat) (t : TypeId) (n : Nat) {α : Type} (E : α → List AV) (G : α → Prop) : Prop :=
  P.cellsOf t = n ∧ (∀ a, (E a).length = n) ∧ ∀ fuel cs x, fuel ≤ N → DataW.trod enc P w 0 (fun _ => true) true fuel t cs = some x → ∃ a, G a ∧ VRL (Ghost.all w) w (E a) cs
theorem Reads.weak {N t n : Nat} {α : Type} {E : α → List AV} {G G' : α → Prop} (h : Reads enc P w N t n E G) (hg : ∀ a, G a → G' a) : Reads enc P w N t n E G' :=
  ⟨h.1, h.2.1, fun f cs x hf hx => by obtain ⟨a, h1, h2⟩ := h.2.2 f cs x hf hx; exact ⟨a, hg a h1, h2⟩⟩
theorem Reads.map {N t n : Nat} {α β : Type} {E : α → List AV} {G : α → Prop} {E' : β → List AV} {G' : β → Prop} (h : Reads enc P w N t n E G) (f : α → β) (hE : ∀ a, E' (f a) = E a) (hl : ∀ b, (E' b).length = n) (hg : ∀ a, G a → G' (f a)) : Reads enc P w N t n E' G' :=
  ⟨h.1, hl, fun fu cs x hf hx => by obtain ⟨a, h1, h2⟩ := h.2.2 fu cs x hf hx; exact ⟨f a, hg a h1, by rw [hE]; exact h2⟩⟩
theorem Reads.int {N t : Nat} (ht : P.underlying t = some (.int .i64)) (hc : P.cellsOf t = 1) : Reads enc P w N t 1 (fun n : Int => [.int .i64 n]) (fun n => -9223372036854775808 ≤ n ∧ n ≤ 9223372036854775807) :=
  ⟨hc, fun _ => rfl, fun f cs x _ hx => by
    obtain ⟨n, rfl, _, wf⟩ := DataW.trod_int ht hx
    exact ⟨n, by simpa [Lit.wf, IntKind.min, IntKind.max, IntKind.signed, IntKind.bits] using wf, VRL.one (.int _ _)⟩⟩
theorem Reads.str {N t : Nat} (ht : P.underlying t = some .string) (hc : P.cellsOf t = 1) : Reads enc P w N t 1 (fun s : List UInt8 => [.str s]) (fun _ => True) :=
  ⟨hc, fun _ => rfl, fun f cs x _ hx => by
    obtain ⟨s, rfl, _, _⟩ := DataW.trod_string ht hx
    exact ⟨s.data.toList, trivial, VRL.one (VR.string s)⟩⟩
theorem Reads.bool {N t : Nat} (ht : P.underlying t = some .bool) (hc : P.cellsOf t = 1) : Reads enc P w N t 1 (fun b : Bool => [.bool b]) (fun _ => True) :=
  ⟨hc, fun _ => rfl, fun f cs x _ hx => by
    obtain ⟨b, rfl, _⟩ := DataW.trod_bool ht hx
    exact ⟨b, trivial, VRL.one (.bool b)⟩⟩
theorem Reads.slice {N t e n : Nat} {α : Type} [Inhabited α] {E : α → List AV} {G : α → Prop} (el : El) (mk : α → AV) (ht : P.underlying t = some (.slice e)) (hc : P.cellsOf t = 1) (h : Reads enc P w N e n E G) (hn0 : 0 < n) (hsz : el.sz = n)
    (hfit : ∀ a, (mk a).fits el = true) (hcell : ∀ a c, c < n → (mk a).cell c = (E a).getD c .undef) : Reads enc P w (N + 1) t 1 (fun l : List α => [.lst false el (l.map mk)]) (fun l => ∀ a ∈ l, G a) := by
  refine ⟨hc, fun _ => rfl, fun fuel cs x hf hx => ?_⟩
  rcases DataW.trod_slice ht hx with ⟨rfl, rfl⟩ | ⟨a, len, cap, elems, rest, k, hk, rfl, _, _, hl, _, hlen, hel, _, _⟩
  · exact ⟨[], by simp, VRL.one (.lstE _ _ _ _ (fun h => by cases h))⟩
  have each : ∀ i, i < len → ∃ q : α, G q ∧ ∃ cs', w.cells? 0 (a.add (i * P.cellsOf e)) (P.cellsOf e) = some cs' ∧ VRL (Ghost.all w) w (E q) cs' := fun i hi => by
    have h1 := hel i hi
    rw [List.getElem?_eq_getElem (by omega)] at h1
    obtain ⟨cs', h2, h3⟩ := Option.bind_eq_some_iff.1 h1
    obtain ⟨q, h4, h5⟩ := h.2.2 k cs' _ (by omega) h3
    exact ⟨q, h4, cs', h2, h5⟩
  obtain ⟨q, hq⟩ := Deep.choose_lt each
  refine ⟨(List.range len).map q, fun x hx => by obtain ⟨i, hi, rfl⟩ := List.mem_map.1 hx; exact (hq i (List.mem_range.1 hi)).1, VRL.one ?_⟩
  have hn := h.1
  by_cases h0 : len = 0
  · subst h0; exact .lstE _ _ _ _ (fun h => by cases h)
  have hcells : ∀ i c, i < len → c < n → ∃ v, w.cell? (a.add (i * n + c)) = some v ∧ VR (Ghost.all w) w ((E (q i)).getD c .undef) v := fun i c hi hcc => by
    obtain ⟨_, cs', h2, h3⟩ := hq i hi
    rw [hn] at h2
    obtain ⟨_, h4, h5⟩ := World.cells?_some h2
    have h6 := h5 c hcc
    rw [Deep.add_add, List.getElem?_eq_getElem (by omega)] at h6
    have h7 := h3.2 c (by rw [h.2.1]; exact hcc)
    rw [List.getD_eq_getElem?_getD (l := cs'), List.getElem?_eq_getElem (by omega)] at h7
    exact ⟨_, h6, h7⟩
  obtain ⟨v0, hv0, _⟩ := hcells 0 0 (by omega) (by omega)
  have hspot : a.spot = none := by
    have := World.cell?_spot hv0
    simpa [Addr.add] using this
  obtain ⟨b, off, sp⟩ := a
  simp only at hspot
  subst hspot
  have hlt : b < w.heap.size := by
    rw [add_plain] at hv0
    simp only [World.cell?] at hv0
    split at hv0
    · rename_i x hx; exact (Array.getElem?_eq_some_iff.1 hx).1
    · cases hv0
  have hget : ∀ i, i < len → (((List.range len).map q).map mk).getD i .undef = mk (q i) := fun i hi => by
    simp [List.getD_eq_getElem?_getD, hi]
  have := VR.lst (g := Ghost.all w) (w := w) false el (((List.range len).map q).map mk) b off cap hlt (fun h => by cases h) (by simpa using hl)
    (fun i hi => by rw [hget i (by simpa using hi)]; exact hfit _)
    (fun i c hi hcc => by
      obtain ⟨v, hv, _⟩ := hcells i c (by simpa using hi) (by omega)
      rw [add_plain] at hv
      rw [hsz, hv]; rfl)
    (fun i c hi hcc => by
      obtain ⟨v, hv, hr⟩ := hcells i c (by simpa using hi) (by omega)
      rw [add_plain] at hv
      rw [hget i (by simpa using hi), cellD, hsz, hv, hcell _ _ (by omega)]
      exact hr)
  simpa using this
def FieldsR (enc : TypeId × Value → H) (P : Program) (w : World) (N : Nat) (fs : List Field) (o : Nat) {α : Type} (E : α → List AV) (G : α → Prop) : Prop :=
  ∀ (cs : List Value) (fuel : Nat) (ys : List (DataW H × List MemPlace)), fuel ≤ N → (∀ (i : Nat) (f : Field), fs[i]? = some f → DataW.trod enc P w 0 (fun _ => true) true fuel f.type ((cs.drop f.offset).take (P.cellsOf f.type)) = ys[i]?) → ys.length = fs.length →
    ∃ a, G a ∧ VRL (Ghost.all w) w (E a) ((cs.drop o).take (E a).length)
theorem FieldsR.nil {N o : Nat} : FieldsR enc P w N [] o (fun _ : Unit => []) (fun _ => True) := fun cs fuel ys _ _ _ => ⟨(), trivial, by simpa using VRL.nil _ _⟩
theorem FieldsR.cons {N o n : Nat} {f : Field} {fs : List Field} {α β : Type} {E : α → List AV} {G : α → Prop} {E' : β → List AV} {G' : β → Prop} (h : Reads enc P w N f.type n E G) (ho : f.offset = o) (hk : FieldsR enc P w N fs (o + n) E' G') :
    FieldsR enc P w N (f :: fs) o (fun p : α × β => E p.1 ++ E' p.2) (fun p => G p.1 ∧ G' p.2) := by
  intro cs fuel ys hf hx hl
  cases ys with
  | nil => simp at hl
  | cons y ys =>
    have h0 := hx 0 f rfl
    rw [ho, h.1] at h0
    obtain ⟨a, g1, v1⟩ := h.2.2 fuel _ _ hf (by simpa using h0)
    obtain ⟨b, g2, v2⟩ := hk cs fuel ys hf (fun i f' hf' => by have := hx (i + 1) f' (by simpa using hf'); simpa using this) (by simpa using hl)
    refine ⟨(a, b), ⟨g1, g2⟩, ?_⟩
    have := v1.app v2
    have hlen := h.2.1 a
    have e : (cs.drop o).take n ++ (cs.drop (o + n)).take (E' b).length = (cs.drop o).take (E a ++ E' b).length := by
      rw [List.length_append, hlen, List.take_add, List.drop_drop]
    rwa [e] at this
theorem Reads.struct {N t n : Nat} {fs : Array Field} {α : Type} {E : α → List AV} {G : α → Prop} (ht : P.underlying t = some (.struct fs)) (hc : P.cellsOf t = n) (hE : ∀ a, (E a).length = n) (h : FieldsR enc P w N fs.toList 0 E G) : Reads enc P w (N + 1) t n E G := by
  refine ⟨hc, hE, fun fuel cs x hf hx => ?_⟩
  obtain ⟨xs, k, hk, _, hlen, hxl, hfs⟩ := DataW.trod_struct ht hx
  obtain ⟨a, g, v⟩ := h cs k xs (by omega) (fun i f hf => hfs i f (by simpa using hf)) (by simpa using hxl)
  refine ⟨a, g, ?_⟩
  rw [hE, List.drop_zero, List.take_of_length_le (by omega)] at v
  exact v
theorem Reads.deep {t n : Nat} {α : Type} {E : α → List AV} {G : α → Prop} (h : ∀ N, Reads enc P w N t n E G) {v : Value} {d : DataW H} {ps : List MemPlace} (hd : DataW.Trod enc P w 0 (fun _ => true) true t v d ps) : ∃ a, G a ∧ VRL (Ghost.all w) w (E a) v.cells.toList := by
  obtain ⟨f, hf⟩ := hd
  exact (h f).2.2 f _ _ (Nat.le_refl _) hf
end
end Go.AM
namespace Go.Proofs.YtlmpjjelildedaaGreatDoor
open Go.AM
set_option maxRecDepth 8000
section
variable {H : Type} {enc : TypeId × Value → H} {w : World}
abbrev i64R (n : Int) : Prop := -9223372036854775808 ≤ n ∧ n ≤ 9223372036854775807
abbrev RD (enc : TypeId × Value → H) (w : World) (N : Nat) (t : TypeId) (n : Nat) {α : Type} (E : α → List AV) (G : α → Prop) : Prop := Reads enc Tryz.prog w N t n E G
theorem rd_str (N : Nat) : RD enc w N 9 1 (fun s : Str => [.str s]) (fun _ => True) := Reads.str Tryz.underlying9 (by kernel_rfl)
theorem rd_bool (N : Nat) : RD enc w N 4 1 (fun b : Bool => [.bool b]) (fun _ => True) := Reads.bool Tryz.underlying4 (by kernel_rfl)
theorem rd_num (N : Nat) : RD enc w N 3 1 (fun n : Int => [I n]) i64R := Reads.int Tryz.underlying3 (by kernel_rfl)
theorem rd_edt (N : Nat) : RD enc w (N + 1) 51 4 cEdt (fun _ => True) := by
  have h := Reads.struct (enc := enc) (w := w) (N := N) (n := 4) Tryz.underlying51 (by kernel_rfl) (fun _ => rfl) (.cons (rd_str N) rfl (.cons (rd_str N) rfl (.cons (rd_bool N) rfl (.cons (rd_str N) rfl .nil))))
  exact h.map (fun p => (⟨p.1, p.2.1, p.2.2.1, p.2.2.2.1⟩ : Edt)) (fun _ => rfl) (fun _ => rfl) (fun p h => trivial)
theorem rd_edts (N : Nat) : RD enc w (N + 2) 22 1 (fun l : List Edt => [eEdts l]) (fun _ => True) :=
  (Reads.slice ED eEdt Tryz.underlying22 (by kernel_rfl) (rd_edt N) (by decide) rfl (fun _ => rfl) (fun _ _ _ => rfl)).weak (fun _ _ => trivial)
theorem rd_ints (N : Nat) : RD enc w (N + 1) 23 1 (fun l : List Int => [eInts l]) (fun _ => True) := by
  refine (Reads.slice ⟨false, 1⟩ (fun n : Int => I n) Tryz.underlying23 (by kernel_rfl) (rd_num N) (by decide) rfl (fun _ => rfl) ?_).weak (fun _ _ => trivial)
  intro s c hc
  have h0 : c = 0 := by omega
  subst h0; rfl
theorem rd_tact (N : Nat) : RD enc w (N + 3) 25 7 cTAct (fun _ => True) := by
  have h := Reads.struct (enc := enc) (w := w) (N := N + 2) (n := 7) Tryz.underlying25 (by kernel_rfl) (fun _ => rfl) (.cons (rd_num _) rfl (.cons (rd_num _) rfl (.cons (rd_edts N) rfl (.cons (rd_str _) rfl (.cons (rd_str _) rfl (.cons (rd_str _) rfl (.cons (rd_ints (N + 1)) rfl .nil)))))))
  exact h.map (fun p => (⟨p.1, p.2.1, p.2.2.1, p.2.2.2.1, p.2.2.2.2.1, p.2.2.2.2.2.1, p.2.2.2.2.2.2.1⟩ : TAct)) (fun _ => rfl) (fun _ => rfl) (fun p h => trivial)
theorem tact_of {v : Value} {d : DataW H} {ps : List MemPlace} {base : Nat} (hval : Value.okWide Tryz.prog w .any base 25 v) (hd : DataW.Trod enc Tryz.prog w 0 (fun _ => true) true 25 v d ps) : ∃ a : TAct, VR (Ghost.all w) w (eTAct a) v := by
  obtain ⟨cs, rfl, _⟩ := Go.WideShapes.okWide_struct Tryz.underlying25 hval
  obtain ⟨t, _, h2⟩ := Reads.deep (fun N => by
    have := rd_tact (enc := enc) (w := w) N
    exact ⟨this.1, this.2.1, fun f cs x hf hx => this.2.2 f cs x (by omega) hx⟩) hd
  exact ⟨t, VRL.agg h2 rfl⟩
end
def vTAct : Value := .agg #[.int .i64 0, .int .i64 0, .slice none 0 0, .string ByteArray.empty, .string ByteArray.empty, .string ByteArray.empty, .slice none 0 0]
end Go.Proofs.YtlmpjjelildedaaGreatDoor
namespace Go.Proofs.YtlmpjjelildedaaGreatDoor
open Go.AM Go.ChangeShapes Go.WideShapes Go.ChangeAt Go.RowKit
theorem own : ownKnob Tryz.prog.godebug = none := by kernel_rfl
theorem kids : Kids Tryz.prog (· < Tryz.prog.types.size) := kids_rows (by kernel_rfl) (by kernel_rfl)
theorem full : ∀ t e, t < Tryz.prog.types.size → Tryz.prog.underlying t = some (.slice e) → 0 < Tryz.prog.cellsOf e := slices_full_of Tryz.prog (by kernel_rfl)
def laidL : List (String × DataW Unit) := Rows.treeNilRow.laid
theorem pow_of_laid {W : World} (_ : laidMetH Tryz.prog laidL W) : GlobR (Ghost.all W) W := ⟨fun b hb => (by cases hb), trivial⟩
def litOf : DataW Unit → List Value
  | .lit (.int k n) => [.int k n]
  | .agg l => l.map fun d => match d with
    | .lit (.int k n) => .int k n
    | _ => Go.undef
  | _ => [Go.undef]
def litsOf : DataW Unit → Array Value
  | .agg l => (l.flatMap litOf).toArray
  | _ => #[]
def laidObj (d : DataW Unit) : Obj → Obj
  | .cells _ t fz => .cells (litsOf d) t fz
  | o => o
noncomputable def laidWorld (os : Os) : World :=
  { World.holding Tryz.prog os ⟨#[], #[], []⟩ with heap := ((World.holding Tryz.prog os ⟨#[], #[], []⟩).heap.modify 2 (laidObj Rows.laid_unicode_utf8_acceptRanges)).modify 1 (laidObj Rows.laid_unicode_utf8_first) }
theorem laid_met (os : Os) (args : Array Value) : laidMetH Tryz.prog laidL ((laidWorld os).forCall (fun _ _ => 0) ⟨#[], args, []⟩).memory :=
  (laidMet_of_run' 8 (by kernel_rfl) (by kernel_rfl) : laidMet Tryz.prog laidL ((laidWorld os).forCall (fun _ _ => 0) ⟨#[], args, []⟩).memory)
set_option maxRecDepth 100000 in
theorem stepL {H : Type} {enc : TypeId × Value → H} {os : Os} {f : FuncId} {fn : Func} {s : ChangeSpec} (args0 : Array Value)
    (started : os.Started) (noInit : Tryz.checked.prog.inits.idxOf? f = none) (hfn : Tryz.checked.prog.funcs[f]? = some fn)
    (hv : ((laidWorld os).forCall (fun _ _ => 0) ⟨#[], args0, []⟩).variablesB Tryz.checked.prog = true)
    (hr : (((laidWorld os).forCall (fun _ _ => 0) ⟨#[], args0, []⟩).heap.toList.drop Tryz.checked.prog.globals.size).take ((begin Tryz.checked.prog (fun _ _ => 0) default).world.heap.size - Tryz.checked.prog.globals.size) =
      (begin Tryz.checked.prog (fun _ _ => 0) default).world.heap.toList.drop Tryz.checked.prog.globals.size)
    (hok : Input.okWideB Tryz.checked.prog ((laidWorld os).forCall (fun _ _ => 0) ⟨#[], args0, []⟩) f ⟨#[], args0, []⟩ = true)
    (hpre : s.preB enc Tryz.checked.prog fn [] false ((laidWorld os).forCall (fun _ _ => 0) ⟨#[], args0, []⟩).memory args0 8 = true)
    (hsz : s.sizedB enc Tryz.checked.prog fn false ((laidWorld os).forCall (fun _ _ => 0) ⟨#[], args0, []⟩).memory args0 8 = true)
    (contract : ∀ (W : World) (base : Nat) (args : Array Value) (ds gs : List (DataW H)) (before : List MemPlace),
      (∀ (j : Nat) t v, fn.params[j]? = some t → args[j]? = some v → Value.okWide Tryz.prog W .any base t v) →
      DataW.Whole enc Tryz.prog fn.params.toList s.vars false W args.toList ds gs before → GlobR (Ghost.all W) W →
      Calls Tryz.prog f args W fun e W' => ∃ v, e = .returned v ∧ s.post enc Tryz.prog fn false true false false W args v W') :
    ReturnsInHanded {} Tryz.checked os f .any (fun w args => (s.pre enc Tryz.checked.prog fn [] false w args ∧ laidMetH Tryz.prog laidL w) ∧ sizedMet enc Tryz.checked.prog fn (OpenSpec.ofChange s) false w args) (s.post enc Tryz.checked.prog fn false true false false) := by
  refine returnsInHanded_of_change_and (C := Tryz.checked) (X := fun w _ => laidMetH Tryz.prog laidL w) (fun _ _ _ hh h => h.of_heap hh) own started noInit hfn
    (ChangeSpec.witness_at (enc := enc) (C := Tryz.checked) (os := os) (X := fun w _ => laidMetH Tryz.prog laidL w) false (laidWorld os) args0 8 rfl hv hr hok hpre hsz (laid_met os _)) ?_
  intro W base args ds gs before h1 h2 _ _ hL _
  exact contract W base args ds gs before h1 h2 (pow_of_laid hL)
theorem args2 {a b : AV} {x y : Value} {g : Ghost} {w : World} (h1 : VR g w a x) (h2 : VR g w b y) : ∀ i, i < [a, b].length → VR g w ([a, b].getD i .undef) (#[x, y].getD i Go.undef) := by
  intro i hi
  match i, hi with
  | 0, _ => exact h1
  | 1, _ => exact h2
theorem goes_gen (P : Program) (h : P.funcs.any Func.goes = false) (f : FuncId) : P.goes f = false := by
  unfold Program.goes
  rw [h, Bool.and_false, Bool.or_false, List.any_eq_false]
  intro g _
  cases hg : P.funcs[g]? with
  | none => simp
  | some fn =>
    rw [Array.any_eq_false] at h
    obtain ⟨hl, rfl⟩ := Array.getElem?_eq_some_iff.1 hg
    simpa using h g hl
theorem goesBy_gen (P : Program) (h : P.funcs.any Func.goes = false) (c : OpenClaim) (hs : c.start = .entering) : false = c.goesBy P := by
  unfold OpenClaim.goesBy Program.goesAt Program.goesFrom
  rw [hs]
  cases P.funcNamed c.func with
  | none => rfl
  | some f => show false = (P.goes f || false); rw [goes_gen P h]; rfl
theorem goes_none : Tryz.pinned.checked.prog.funcs.any Func.goes = false := by kernel_rfl
theorem fx_laid : laidOutB Tryz.checked.prog = true := by kernel_rfl
theorem fx_maps : mapsRowed Tryz.checked.prog = true := by kernel_rfl
theorem fx_stops : Tryz.checked.prog.stopsHeard = true := by kernel_rfl
theorem fx_enter : Tryz.checked.prog.mayEnter = true := by kernel_rfl
end Go.Proofs.YtlmpjjelildedaaGreatDoor
