/- Part of a proof: see Root. -/
import Derived.Test.YthkhdedadacakaaGreatDoorY28
set_option linter.unnecessarySimpa false
set_option linter.unusedSimpArgs false
set_option linter.unusedVariables false
namespace Go.Proofs.YthkhdedadacakaaGreatDoor
open Go.AM
set_option maxRecDepth 4000
theorem sameS_eq (x : Expr) : ∀ y, sameS x y = true → x = y := by
  induction x using Expr.ind with
  | h op v s l ih =>
    intro y h
    obtain ⟨o, w, u, m⟩ := y
    simp only [sameS, Expr.op, Expr.v, Expr.s, Expr.l, Bool.and_eq_true] at h
    obtain ⟨⟨⟨h1, h2⟩, h3⟩, h⟩ := h
    obtain rfl := of_decide_eq_true h1
    obtain rfl := of_decide_eq_true h2
    obtain rfl := of_decide_eq_true h3
    congr 1
    clear h1 h2 h3
    induction l generalizing m with
    | nil =>
      cases m with
      | nil => rfl
      | cons y m => simp [sameL] at h
    | cons x l ihl =>
      cases m with
      | nil => simp [sameL] at h
      | cons y m =>
        simp only [sameL, Bool.and_eq_true] at h
        rw [ih x (by simp) y h.1, ihl (fun z hz => ih z (List.mem_cons_of_mem _ hz)) m h.2]
def offT (k : Int) (s : Str) : Prop := (k = 4 ∧ s ≠ [40] ∧ s ≠ [45]) ∨ (k = 1 ∧ s = notS)
theorem first_off (x : Expr) : rightX x = true → ∀ (T : List Tok) (p : Nat) (lvl : Int), AtT T p (wrK x lvl) → ∀ k s, offT k s → isT T p k s = false := by
  induction x using Expr.ind with
  | h op v s l ih =>
    intro hr T p lvl hat k w hw
    by_cases hlv : levelS op < lvl
    · rw [show wrK (.mk op v s l) lvl = _ from parenK_cons hlv _] at hat
      rw [at_isT hat]
      rcases hw with ⟨rfl, h1, h2⟩ | ⟨rfl, rfl⟩
      · simp [Ne.symm h1]
      · rfl
    · rw [show wrK (.mk op v s l) lvl = _ from parenK_same hlv _] at hat
      rcases right_parts hr with ⟨rfl, rfl, rfl, h1, h2⟩ | ⟨rfl, rfl, rfl, h1⟩ | ⟨rfl, rfl, rfl, a, rfl, ha⟩ | ⟨rfl, rfl, rfl, a, b, c, rfl, ha, hb, hc⟩ | ⟨o1, o2, rfl, rfl, lv1, lv5, hlev, hop, hmem, a, b, rfl, ha, hb⟩
      · rw [show tokX (.mk 1 v [] []) = [tokV v] by simp [tokX, joinK]] at hat
        rw [at_isT hat]
        unfold tokV
        rcases hw with ⟨rfl, h1, h2⟩ | ⟨rfl, rfl⟩
        · split
          · rfl
          split
          · rfl
          split <;> rfl
        · split
          · rfl
          split
          · rfl
          split
          · split <;> rfl
          · rfl
      · rw [show tokX (.mk 2 v0 s []) = [(1, s, 0)] by simp [tokX, joinK]] at hat
        rw [at_isT hat]
        rcases hw with ⟨rfl, _, _⟩ | ⟨rfl, rfl⟩
        · rfl
        · have : s ≠ notS := fun e => by subst e; revert h1; decide
          simp [this]
      · rw [show tokX (.mk 3 v0 [] [a]) = (4, [45], 0) :: wrK a 6 by simp [tokX, tokL, joinK, wrK]] at hat
        rw [at_isT hat]
        rcases hw with ⟨rfl, h1, h2⟩ | ⟨rfl, rfl⟩
        · simp [Ne.symm h2]
        · rfl
      · rw [show tokX (.mk 16 v0 [] [a, b, c]) = ifW1 :: (wrK a 0 ++ (thenW1 :: (wrK b 0 ++ (elseW1 :: wrK c 0)))) by simp [tokX, tokL, joinK, wrK]] at hat
        rw [at_isT hat]
        rcases hw with ⟨rfl, _, _⟩ | ⟨rfl, rfl⟩ <;> rfl
      · have ht : tokX (.mk op v0 [] [a, b]) = wrK a (if (findB op).level = 3 then 4 else (findB op).level) ++ (signT op :: wrK b ((findB op).level + 1)) := by
          simp only [tokX, tokL, joinK]
          rw [if_neg (by omega), if_neg (by omega), if_neg (by omega), if_neg (by omega)]
          rfl
        rw [ht] at hat
        exact ih a (by simp) ha T p _ (AtT.app.1 hat).1 k w hw
theorem neg_long (x : Expr) : rightX x = true → ∀ (T : List Tok) (p : Nat) (lvl : Int), AtT T p (wrK x lvl) → isT T p 4 [45] = true → 2 ≤ (wrK x lvl).length := by
  intro hr T p lvl hat h
  obtain ⟨op, v, s, l⟩ := x
  by_cases hlv : levelS op < lvl
  · rw [show wrK (.mk op v s l) lvl = _ from parenK_cons hlv _]; simp
  · have e : wrK (.mk op v s l) lvl = tokX (.mk op v s l) := parenK_same hlv _
    rw [e] at hat ⊢
    have r := fun y hy => (rd_all y hy).pos
    rcases right_parts hr with ⟨rfl, rfl, rfl, h1, h2⟩ | ⟨rfl, rfl, rfl, h1⟩ | ⟨rfl, rfl, rfl, a, rfl, ha⟩ | ⟨rfl, rfl, rfl, a, b, c, rfl, ha, hb, hc⟩ | ⟨o1, o2, rfl, rfl, lv1, lv5, hlev, hop, hmem, a, b, rfl, ha, hb⟩
    · exfalso
      rw [show tokX (.mk 1 v [] []) = [tokV v] by simp [tokX, joinK]] at hat
      rw [at_isT hat] at h
      unfold tokV at h
      split at h
      · simp at h
      split at h
      · simp at h
      split at h <;> simp at h
    · exfalso
      rw [show tokX (.mk 2 v0 s []) = [(1, s, 0)] by simp [tokX, joinK]] at hat
      rw [at_isT hat] at h
      simp at h
    · rw [show tokX (.mk 3 v0 [] [a]) = (4, [45], 0) :: wrK a 6 by simp [tokX, tokL, joinK, wrK]]
      have := wrK_pos (r a ha) 6
      rw [List.length_cons]; omega
    · rw [show tokX (.mk 16 v0 [] [a, b, c]) = ifW1 :: (wrK a 0 ++ (thenW1 :: (wrK b 0 ++ (elseW1 :: wrK c 0)))) by simp [tokX, tokL, joinK, wrK]]
      simp; omega
    · have ht : tokX (.mk op v0 [] [a, b]) = wrK a (if (findB op).level = 3 then 4 else (findB op).level) ++ (signT op :: wrK b ((findB op).level + 1)) := by
        simp only [tokX, tokL, joinK]
        rw [if_neg (by omega), if_neg (by omega), if_neg (by omega), if_neg (by omega)]
        rfl
      rw [ht, List.length_append, List.length_cons]
      have := wrK_pos (r a ha) (if (findB op).level = 3 then 4 else (findB op).level)
      omega
def dotsT : TK := (4, [46, 46], 0)
def commaT : TK := (4, [44], 0)
def tokT (t : Test) : List TK := if t.kind = 1 then wrK t.a 4 else if t.kind = 6 then (4, loW t, 0) :: (wrK t.a 4 ++ (dotsT :: (wrK t.b 4 ++ [(4, hiW t, 0)]))) else (4, signK t.kind, 0) :: wrK t.a 4
theorem soundT_parts {t : Test} (h : soundT t = true) : (t.kind = 6 ∧ rightX t.a = true ∧ rightX t.b = true) ∨ (1 ≤ t.kind ∧ t.kind ≤ 5 ∧ rightX t.a = true ∧ t.b = x0 ∧ t.lo = false ∧ t.hi = false) := by
  unfold soundT at h
  split at h
  · rename_i h6
    simp only [partX, Bool.and_eq_true] at h
    exact .inl ⟨h6, h.1.1, h.2.1⟩
  · simp only [partX, Bool.and_eq_true, decide_eq_true_eq, Bool.not_eq_true'] at h
    obtain ⟨⟨⟨⟨h1, h2⟩, h3⟩, h4⟩, h5⟩ := h
    exact .inr ⟨h1.1, h1.2, h2.1, sameS_eq _ _ h3, h4, h5⟩
theorem lx_test {t : Test} (h : soundT t = true) (ho : okT2 t) : Lx Bd (testW t) (tokT t) := by
  have hw : ∀ x, rightX x = true → okX x → Lx Bd (wrS x 4) (wrK x 4) := fun x hr hx => lx_paren (lx_expr x hr hx) _ _
  unfold testW tokT
  rcases soundT_parts h with ⟨h6, ha, hb⟩ | ⟨h1, h5, ha, _⟩
  · rw [if_neg (show ¬ t.kind = 1 by omega), if_pos h6, if_neg (show ¬ t.kind = 1 by omega), if_pos h6]
    have hlo : Lx B0 (loW t) [(4, loW t, 0)] := lx_mark (by unfold loW; split <;> decide)
    have hhi : Lx B0 (hiW t) [(4, hiW t, 0)] := lx_mark (by unfold hiW; split <;> decide)
    have hbd : ∀ r, B0 r → Bd (hiW t ++ r) := fun r _ => by unfold hiW; split <;> exact Bd_cons (by decide)
    have := (((hlo.app (hw _ ha ho.1.1) (fun _ _ => trivial)).app (lx_mark (m := [46, 46]) (by decide)) (fun r _ => Bd_cons (by decide))).app (hw _ hb ho.2.1) (fun _ _ => trivial)).app hhi hbd
    exact (by simpa [dotsT] using this.weak (B' := Bd) (fun _ _ => trivial))
  · by_cases hk : t.kind = 1
    · rw [if_pos hk, if_pos hk]; exact hw _ ha ho.1.1
    · rw [if_neg hk, if_neg hk, if_neg (by omega), if_neg (by omega)]
      have hs : Lx Bs (signK t.kind) [(4, signK t.kind, 0)] := lx_sign (by
        rcases (by omega : t.kind = 2 ∨ t.kind = 3 ∨ t.kind = 4 ∨ t.kind = 5) with e | e | e | e <;> rw [e] <;> decide)
      have := ((hs.app (Lx.sp B0) (fun r _ => rfl)).app (hw _ ha ho.1.1) (fun _ _ => trivial))
      simpa using this
theorem exprR_of {T : List Tok} {x : Expr} {p : Nat} (hr : rightX x = true) (hat : AtT T p (wrK x 4)) (hs : StopT T (p + (wrK x 4).length) 4) (hp : p + (wrK x 4).length ≤ T.length) : exprR T p false = ⟨x, p + (wrK x 4).length, false⟩ := by
  have h4 : ((4 : Nat) : Int) = 4 := rfl
  have := readT_of (lvl := 4) hr (by omega) (by rw [h4]; exact hat) (by omega) (by rw [h4]; exact hs) (by rw [h4]; exact hp)
  rw [h4] at this
  rw [exprR_false]
  unfold rdX
  rw [h4, this]
  simp; omega
theorem AtT.le {T : List Tok} {ks : List TK} : ∀ {p : Nat}, AtT T p ks → p ≤ T.length → p + ks.length ≤ T.length := by
  induction ks with
  | nil => intro p _ hp; exact hp
  | cons k ks ih => intro p h hp; rw [List.length_cons]; have := ih h.2 h.1.1; omega
theorem test_of {T : List Tok} {t : Test} {p : Nat} (h : soundT t = true) (hp : p ≤ T.length) (hat : AtT T p (tokT t)) (hs : StopT T (p + (tokT t).length) 4) : testS T p false = ⟨t, p + (tokT t).length, false⟩ := by
  have hle := hat.le hp
  obtain ⟨k, a, b, lo, hi⟩ := t
  rcases soundT_parts h with ⟨h6, ha, hb⟩ | ⟨h1, h5, ha, h2, h3, h4⟩
  · dsimp only at h6 ha hb
    subst h6
    have ht : tokT ⟨6, a, b, lo, hi⟩ = (4, loW ⟨6, a, b, lo, hi⟩, 0) :: (wrK a 4 ++ (dotsT :: (wrK b 4 ++ [(4, hiW ⟨6, a, b, lo, hi⟩, 0)]))) := rfl
    rw [ht] at hat hle ⊢
    simp only [List.length_cons, List.length_append, List.length_nil] at hle ⊢
    have o : ∀ s, onT T p false 4 s = decide (loW ⟨6, a, b, lo, hi⟩ = s) := fun s => by unfold onT; rw [at_isT hat]; simp
    obtain ⟨q1, q2⟩ := AtT.app.1 hat.2
    obtain ⟨q3, q4⟩ := AtT.app.1 q2.2
    have r1 := exprR_of ha q1 (StopT.of q2 quiet_dots 4) (by omega)
    have hq : quiet (4, hiW ⟨6, a, b, lo, hi⟩, 0) := by unfold hiW; dsimp only; split <;> first | exact quiet_lo | exact quiet_hi
    have r2 := exprR_of hb q3 (StopT.of q4 hq 4) (by omega)
    have o2 : onT T (p + 1 + (wrK a 4).length) false 4 [46, 46] = true := by unfold onT; rw [at_isT q2]; rfl
    have e1 : inR1 T p = ⟨a, p + 1 + (wrK a 4).length, false⟩ := r1
    have e2 : inR2 T p = ⟨a, p + 1 + (wrK a 4).length + 1, false⟩ := by
      unfold inR2 mustR onP; rw [e1]; dsimp only; rw [o2]; rfl
    have e3 : inR3 T p = ⟨b, p + 1 + (wrK a 4).length + 1 + (wrK b 4).length, false⟩ := by
      unfold inR3; rw [e2]; exact r2
    have o3 : ∀ s, onT T (p + 1 + (wrK a 4).length + 1 + (wrK b 4).length) false 4 s = decide (hiW ⟨6, a, b, lo, hi⟩ = s) := fun s => by unfold onT; rw [at_isT q4]; simp
    have e4 : inH T p = hi := by
      unfold inH; rw [e3]; dsimp only; rw [o3]; unfold hiW; dsimp only; cases hi <;> rfl
    have e5 : (inR4 T p).p = p + 1 + (wrK a 4).length + 1 + (wrK b 4).length + 1 ∧ (inR4 T p).bad = false := by
      unfold inR4
      rw [e4]
      cases hi with
      | true => rw [if_pos rfl, e3]; exact ⟨rfl, rfl⟩
      | false =>
        rw [if_neg (by simp), e3]
        unfold mustR onP
        dsimp only
        rw [o3]
        exact ⟨rfl, rfl⟩
    have e6 : inR T p lo = ⟨⟨6, a, b, lo, hi⟩, p + ((wrK a 4).length + ((wrK b 4).length + (0 + 1) + 1) + 1), false⟩ := by
      unfold inR
      rw [e1, e3, e4, e5.1, e5.2]
      dsimp only
      congr 1
      omega
    unfold testS
    rw [o, o, o, o, o, o]
    unfold loW
    dsimp only
    cases lo with
    | false => exact e6
    | true => exact e6
  · dsimp only at h1 h5 ha h2 h3 h4
    subst h2; subst h3; subst h4
    by_cases hk : k = 1
    · subst hk
      have ht : tokT ⟨1, a, x0, false, false⟩ = wrK a 4 := rfl
      rw [ht] at hat hle hs ⊢
      have o : ∀ s, s ≠ [40] → s ≠ [45] → onT T p false 4 s = false := fun s a1 a2 => by
        unfold onT; rw [first_off a ha T p 4 hat 4 s (.inl ⟨rfl, a1, a2⟩)]; rfl
      have r := exprR_of ha hat hs hle
      unfold testS
      rw [o _ (by decide) (by decide), o _ (by decide) (by decide), o _ (by decide) (by decide), o _ (by decide) (by decide), o _ (by decide) (by decide), o _ (by decide) (by decide), r]
      rfl
    · have ht : tokT ⟨k, a, x0, false, false⟩ = (4, signK k, 0) :: wrK a 4 := by
        unfold tokT; dsimp only; rw [if_neg hk, if_neg (by omega)]
      rw [ht] at hat hle hs ⊢
      rw [List.length_cons] at hle hs ⊢
      have o : ∀ s, onT T p false 4 s = decide (signK k = s) := fun s => by unfold onT; rw [at_isT hat]; simp
      have r := exprR_of ha hat.2 (by rw [show p + 1 + (wrK a 4).length = p + ((wrK a 4).length + 1) by omega]; exact hs) (by omega)
      have e : oneK k (exprR T (p + 1) false) = ⟨⟨k, a, x0, false, false⟩, p + ((wrK a 4).length + 1), false⟩ := by
        rw [r]; unfold oneK; dsimp only; congr 1; omega
      unfold testS
      rw [o, o, o, o, o, o]
      rcases (by omega : k = 2 ∨ k = 3 ∨ k = 4 ∨ k = 5) with rfl | rfl | rfl | rfl <;> exact e
def tokR (l : List Test) : List TK := l.flatMap fun t => commaT :: tokT t
def tokTs : List Test → List TK
  | [] => []
  | t :: r => tokT t ++ tokR r
def joinR (l : List Test) : Str := l.flatMap fun t => sepW ++ testW t
theorem joinW_cons (t : Test) (r : List Test) : joinW (t :: r) = testW t ++ joinR r := by
  unfold joinW Lib.join joinR
  induction r generalizing t with
  | nil => simp [List.intercalate]
  | cons u r ih =>
    have h2 := ih u
    simp only [List.map_cons, List.flatMap_cons] at h2 ⊢
    rw [List.intercalate_cons_cons, h2, List.append_assoc, List.append_assoc]
theorem lx_joinR (l : List Test) : (∀ t ∈ l, soundT t = true ∧ okT2 t) → Lx Bd (joinR l) (tokR l) := by
  induction l with
  | nil => intro _; exact Lx.nil _
  | cons t l ih =>
    intro h
    have ht := h t (by simp)
    have i := ih (fun u hu => h u (List.mem_cons_of_mem _ hu))
    unfold joinR tokR
    rw [List.flatMap_cons, List.flatMap_cons]
    have hb : ∀ r, Bd r → Bd (joinR l ++ r) := fun r hr => by
      cases l with
      | nil => exact hr
      | cons u l => exact Bd_cons (by decide)
    have := (((lx_mark (m := [44]) (by decide)).app (Lx.sp B0) (fun _ _ => trivial)).app (lx_test ht.1 ht.2) (fun _ _ => trivial)).app i hb
    simpa [sepW, commaT, joinR, tokR] using this
theorem lx_join {l : List Test} (hl : l ≠ []) (h : ∀ t ∈ l, soundT t = true ∧ okT2 t) : Lx Bd (joinW l) (tokTs l) := by
  cases l with
  | nil => exact absurd rfl hl
  | cons t l =>
    rw [joinW_cons]
    have ht := h t (by simp)
    have hb : ∀ r, Bd r → Bd (joinR l ++ r) := fun r hr => by
      cases l with
      | nil => exact hr
      | cons u l => exact Bd_cons (by decide)
    exact (lx_test ht.1 ht.2).app (lx_joinR l (fun u hu => h u (List.mem_cons_of_mem _ hu))) hb
def EndT (T : List Tok) (p : Nat) : Prop := onT T p false 4 [44] = false ∧ StopT T p 4
theorem tests_of {T : List Tok} (l : List Test) : ∀ (t : Test) (acc : List Test) (p f : Nat), (∀ u ∈ t :: l, soundT u = true) → p ≤ T.length → AtT T p (tokTs (t :: l)) → EndT T (p + (tokTs (t :: l)).length) → l.length < f → testsF T f acc p false = ⟨acc ++ t :: l, p + (tokTs (t :: l)).length, false⟩ := by
  induction l with
  | nil =>
    intro t acc p f h hp hat he hf
    obtain ⟨f, rfl⟩ : ∃ k, f = k + 1 := ⟨f - 1, by simp at hf; omega⟩
    simp only [tokTs, tokR, List.flatMap_nil, List.append_nil] at hat he ⊢
    rw [testsF_succ, test_of (h t (by simp)) hp hat he.2]
    dsimp only
    rw [he.1]; rfl
  | cons u l ih =>
    intro t acc p f h hp hat he hf
    obtain ⟨f, rfl⟩ : ∃ k, f = k + 1 := ⟨f - 1, by simp at hf; omega⟩
    have e : tokTs (t :: u :: l) = tokT t ++ (commaT :: tokTs (u :: l)) := by simp [tokTs, tokR]
    rw [e] at hat he ⊢
    simp only [List.length_append, List.length_cons] at he ⊢
    obtain ⟨q1, q2⟩ := AtT.app.1 hat
    rw [testsF_succ, test_of (h t (by simp)) hp q1 (StopT.of q2 quiet_comma 4)]
    dsimp only
    have o : onT T (p + (tokT t).length) false 4 [44] = true := by unfold onT; rw [at_isT q2]; rfl
    rw [o, if_pos rfl, ih u _ _ f (fun w hw => h w (List.mem_cons_of_mem _ hw)) q2.1.1 q2.2 (by rw [show p + (tokT t).length + 1 + (tokTs (u :: l)).length = p + ((tokT t).length + ((tokTs (u :: l)).length + 1)) by omega]; exact he) (by rw [List.length_cons] at hf; omega)]
    congr 1
    · simp
    · omega
theorem tokTs_len (l : List Test) : (∀ t ∈ l, soundT t = true) → l.length ≤ (tokTs l).length := by
  have pt : ∀ t, soundT t = true → 1 ≤ (tokT t).length := fun t h => by
    unfold tokT
    split
    · rcases soundT_parts h with ⟨h6, _⟩ | ⟨_, _, ha, _⟩
      · omega
      · exact wrK_pos (rd_all _ ha).pos 4
    · split <;> simp
  have pr : ∀ l : List Test, l.length ≤ (tokR l).length := fun l => by
    induction l with
    | nil => simp
    | cons t l ih => unfold tokR at ih ⊢; rw [List.flatMap_cons, List.length_append, List.length_cons, List.length_cons]; omega
  intro h
  cases l with
  | nil => simp
  | cons t l =>
    have := pt t (h t (by simp))
    have := pr l
    simp only [tokTs, List.length_append, List.length_cons]; omega
theorem parse_cell (c : Cell) (h0 : (textC c).2 = 0) (hx : okC2 c) : parseC (textC c).1 = (c, 0, 0) ∧ rightC c = true := by
  have hr : rightC c = true := by
    cases hq : rightC c with
    | true => rfl
    | false => unfold textC at h0; rw [if_pos hq] at h0; exact absurd h0 (by decide)
  refine ⟨?_, hr⟩
  obtain ⟨any, neg, ts⟩ := c
  cases any with
  | true =>
    have e : textC ⟨true, neg, ts⟩ = ([45], 0) := by unfold textC; rw [hr, if_neg (by simp), if_pos rfl]
    rw [e]
    unfold rightC at hr
    simp only [if_true, Bool.and_eq_true, Bool.not_eq_true', decide_eq_true_eq] at hr
    obtain ⟨rfl, h2⟩ := hr
    have : ts = [] := List.length_eq_zero_iff.1 h2
    subst this
    dsimp only
    obtain ⟨T, hT, hk⟩ := lexS_of ((lx_mark (m := [45]) (by decide)).weak (B' := Bd) (fun _ _ => trivial)) (by decide)
    have hat : AtT T 0 [(4, [45], 0)] := by rw [← hk]; exact AtT.map T 0 (Nat.zero_le _)
    have hl : T.length = 1 := by rw [← List.length_map (f := tk), hk]; rfl
    unfold parseC
    rw [hT]
    dsimp only
    rw [if_neg (by decide), if_pos ⟨hl, by unfold onT; rw [at_isT hat]; rfl⟩]
    rfl
  | false =>
    have hr2 := hr
    unfold rightC at hr
    simp only [Bool.false_eq_true, if_false, Bool.and_eq_true, decide_eq_true_eq, Bool.not_eq_true', List.any_eq_false] at hr
    obtain ⟨⟨l1, l2⟩, hs⟩ := hr
    have hs : ∀ t ∈ ts, soundT t = true := fun t ht => by have := hs t ht; simpa using this
    have hb : ts.any bigT = false := by
      cases hq : ts.any bigT with
      | false => rfl
      | true => unfold textC at h0; rw [hr2, if_neg (by simp), if_neg (by simp), if_pos hq] at h0; exact absurd h0 (by decide)
    have hlen : (notW neg (joinW ts)).length ≤ 200 := by
      apply Nat.le_of_not_lt
      intro hq
      unfold textC at h0; rw [hr2, if_neg (by simp), if_neg (by simp), if_neg (by rw [hb]; simp), if_pos hq] at h0; exact absurd h0 (by decide)
    have e : textC ⟨false, neg, ts⟩ = (notW neg (joinW ts), 0) := by
      unfold textC; rw [hr2, if_neg (by simp), if_neg (by simp), if_neg (by dsimp only; rw [hb]; simp), if_neg (by dsimp only; omega)]
    rw [e]
    dsimp only
    obtain ⟨t, l, rfl⟩ : ∃ t l, ts = t :: l := by cases ts with | nil => simp at l1 | cons t l => exact ⟨t, l, rfl⟩
    have hj := lx_join (l := t :: l) (by simp) (fun u hu => ⟨hs u hu, hx.2 u hu⟩)
    have hcl := tokTs_len (t :: l) hs
    have hne : 1 ≤ (tokTs (t :: l)).length := by rw [List.length_cons] at hcl; omega
    cases neg with
    | false =>
      obtain ⟨T, hT, hk⟩ := lexS_of (s := notW false (joinW (t :: l))) hj hlen
      have hTl : (tokTs (t :: l)).length = T.length := by rw [← hk]; simp
      have hat : AtT T 0 (tokTs (t :: l)) := by rw [← hk]; exact AtT.map T 0 (Nat.zero_le _)
      have hat1 : AtT T 0 (tokT t) := (AtT.app.1 (show AtT T 0 (tokT t ++ tokR l) from hat)).1
      have hsd := soundT_parts (hs t (by simp))
      have hnot : isT T 0 1 notS = false := by
        rcases hsd with ⟨h6, _⟩ | ⟨_, _, ha, _⟩
        · unfold tokT at hat1; rw [if_neg (by omega), if_pos h6] at hat1; rw [at_isT hat1]; rfl
        · unfold tokT at hat1
          split at hat1
          · exact first_off _ ha T 0 4 hat1 1 notS (.inr ⟨rfl, rfl⟩)
          · rw [if_neg (by omega)] at hat1; rw [at_isT hat1]; rfl
      have hn : notT T = false := by unfold notT; rw [hnot]; simp
      have hany : ¬ (T.length = 1 ∧ onT T 0 false 4 [45] = true) := by
        rintro ⟨h1, h2⟩
        have h2 : isT T 0 4 [45] = true := by simpa [onT] using h2
        have h3 : (tokT t).length ≤ 1 := by have := hat1.le (Nat.zero_le _); omega
        rcases hsd with ⟨h6, _⟩ | ⟨_, _, ha, _⟩
        · unfold tokT at h3; rw [if_neg (by omega), if_pos h6] at h3; simp at h3
        · unfold tokT at h3 hat1
          split at h3
          · rename_i hk1
            rw [if_pos hk1] at hat1
            have := neg_long _ ha T 0 4 hat1 h2
            omega
          · rw [if_neg (by omega), List.length_cons] at h3
            have := wrK_pos (rd_all _ ha).pos 4
            omega
      have hend : EndT T (0 + (tokTs (t :: l)).length) := by
        refine ⟨?_, StopT.end (by omega) 4⟩
        simp only [onT, isT, Bool.not_false, Bool.true_and, Bool.and_eq_false_iff, decide_eq_false_iff_not]; left; omega
      have hts := tests_of l t [] 0 (T.length + 1) hs (Nat.zero_le _) hat hend (by rw [List.length_cons] at hcl; omega)
      rw [List.nil_append, Nat.zero_add, hTl] at hts
      have hcr : cellR T = ⟨t :: l, T.length, false⟩ := by
        unfold cellR p0C endC
        rw [hn]
        simp only [Bool.false_eq_true, if_false]
        exact hts
      unfold parseC
      rw [hT]
      dsimp only
      rw [if_neg (by decide), if_neg hany, hcr]
      dsimp only
      rw [if_neg (by omega), if_neg (by simp), if_neg (by omega), hn, hr2, if_neg (by simp)]
    | true =>
      have hj2 : Lx Bd (notW true (joinW (t :: l))) ((1, notS, 0) :: (4, [40], 0) :: (tokTs (t :: l) ++ [(4, [41], 0)])) := by
        have := (((lx_word (s := notS) (by decide) (by decide) (by decide)).app (lx_mark (m := [40]) (by decide)) (fun r _ => Bd_cons (by decide))).app hj (fun _ _ => trivial)).app ((lx_mark (m := [41]) (by decide)).weak (B' := Bd) (fun _ _ => trivial)) (fun r _ => Bd_cons (by decide))
        simpa [notW, notS] using this
      obtain ⟨T, hT, hk⟩ := lexS_of hj2 hlen
      have hTl : (tokTs (t :: l)).length + 3 = T.length := by rw [← List.length_map (f := tk), hk]; simp
      have hat : AtT T 0 ((1, notS, 0) :: (4, [40], 0) :: (tokTs (t :: l) ++ [(4, [41], 0)])) := by rw [← hk]; exact AtT.map T 0 (Nat.zero_le _)
      have hn : notT T = true := by
        unfold notT; rw [at_isT hat, at_isT hat.2]
        simp; omega
      obtain ⟨q1, q2⟩ := AtT.app.1 hat.2.2
      have hend : EndT T (2 + (tokTs (t :: l)).length) := ⟨by unfold onT; rw [at_isT q2]; rfl, StopT.of q2 quiet_paren 4⟩
      have hts := tests_of l t [] 2 (T.length + 1) hs (by omega) q1 hend (by rw [List.length_cons] at hcl; omega)
      rw [List.nil_append] at hts
      have ho : onT T (2 + (tokTs (t :: l)).length) false 4 [41] = true := by unfold onT; rw [at_isT q2]; rfl
      have hcr : cellR T = ⟨t :: l, T.length, false⟩ := by
        unfold cellR p0C endC onP
        rw [hn]
        simp only [if_true]
        rw [hts]
        dsimp only
        rw [ho]
        simp; omega
      unfold parseC
      rw [hT]
      dsimp only
      rw [if_neg (by decide), if_neg (by omega), hcr]
      dsimp only
      rw [if_neg (by omega), if_neg (by simp), if_neg (by omega), hn, hr2, if_neg (by simp)]
def rtT (T : List Tok) : Prop := ∀ q, ((T.getD q default).kind = 2 → 0 ≤ (T.getD q default).n) ∧ ((T.getD q default).kind = 3 → plainS (T.getD q default).s = true)
theorem right_bin {o : Bin} (ho : o ∈ binL) {x y : Expr} (hx : rightX x = true) (hy : rightX y = true) : rightX (.mk o.op v0 [] [x, y]) = true := by
  have h : countS o.op = 2 ∧ o.op ≠ 1 ∧ o.op ≠ 2 := by
    simp only [binL, List.mem_cons, List.not_mem_nil, or_false] at ho
    rcases ho with rfl | rfl | rfl | rfl | rfl | rfl | rfl | rfl | rfl | rfl | rfl | rfl <;> decide
  simp [rightX, rightL, hx, hy, h.2.1, h.2.2, h.1]
theorem right_if {a b c : Expr} (ha : rightX a = true) (hb : rightX b = true) (hc : rightX c = true) : rightX (.mk 16 v0 [] [a, b, c]) = true := by
  have h : countS 16 = 3 := by decide
  simp [rightX, rightL, ha, hb, hc, h]
theorem right_neg {a : Expr} (ha : rightX a = true) : rightX (.mk 3 v0 [] [a]) = true := by
  have h : countS 3 = 1 := by decide
  simp [rightX, rightL, ha, h]
theorem right_val {v : Val} (hv : rightV v = true) (hn : v.kind ≠ 1 ∨ 0 ≤ v.n) : rightX (.mk 1 v [] []) = true := by
  have h : countS 1 = 0 := by decide
  simp only [rightX, if_true, hv, h, List.length_nil]
  simp; exact hn
theorem right_atom {T : List Tok} (hT : rtT T) {rd : Nat → Nat → RS} {p : Nat} (h : ∀ q, (rd 0 q).bad = false → rightX (rd 0 q).x = true) (hb : (atomW rd T p).bad = false) : rightX (atomW rd T p).x = true := by
  have hp := hT p
  unfold atomW at hb ⊢
  split at hb
  · rename_i h1
    rw [if_pos h1]
    simp only [mustR, Bool.or_eq_false_iff] at hb
    exact h _ hb.1
  rename_i h1; rw [if_neg h1]
  split at hb
  · rename_i h2
    rw [if_pos h2]
    exact right_val (by simp [rightV]) (.inr (hp.1 h2))
  rename_i h2; rw [if_neg h2]
  split at hb
  · rename_i h3
    rw [if_pos h3]
    exact right_val (by have := hp.2 h3; simp only [rightV]; rw [if_neg (by decide), if_neg (by decide), if_pos trivial, this]; rfl) (.inl (show ¬ (2 : Int) = 1 by decide))
  rename_i h3; rw [if_neg h3]
  split at hb
  · rename_i h4
    rw [if_pos h4]
    split at hb
    · rename_i v hv
      unfold wordS at hv
      split at hv
      · cases hv; exact right_val (by decide) (.inl (by decide))
      split at hv
      · cases hv; exact right_val (by decide) (.inl (by decide))
      split at hv
      · cases hv; exact right_val (by decide) (.inl (by decide))
      · cases hv
    · rename_i hv
      split at hb
      · rename_i h5
        rw [if_pos h5]
        have h : countS 2 = 0 := by decide
        generalize (T.getD p default).s = w at h5
        simp [rightX, h, h5]
      · cases hb
  · cases hb
theorem right_rd {T : List Tok} (hT : rtT T) (f : Nat) : ∀ (m : Option Expr) (lvl p : Nat), (∀ x, m = some x → rightX x = true) → (rdF T f m lvl p).bad = false → rightX (rdF T f m lvl p).x = true := by
  induction f with
  | zero => intro m lvl p _ hb; simp only [rdF] at hb; cases hb
  | succ f ih =>
    intro m lvl p hm hb
    have h : ∀ l q, (rdF T f none l q).bad = false → rightX (rdF T f none l q).x = true := fun l q hq => ih none l q (fun x hx => by cases hx) hq
    cases m with
    | none =>
      simp only [rdF] at hb ⊢
      split at hb
      · rename_i h0
        rw [if_pos h0]
        split at hb
        · rename_i h1
          rw [if_pos h1]
          have h0' := h 0
          generalize hrd : (fun l q => rdF T f none l q) = rd at hb ⊢
          have hr0 : ∀ q, (rd 0 q).bad = false → rightX (rd 0 q).x = true := by rw [← hrd]; exact h0'
          have hrB : ∀ q b, (rdB rd 0 q b).bad = false → b = false ∧ rightX (rdB rd 0 q b).x = true := fun q b hq => by
            unfold rdB at hq ⊢
            cases b with
            | true => cases hq
            | false => exact ⟨rfl, hr0 q hq⟩
          have hmu : ∀ (r : RS) k s, (mustR T r k s).bad = false → r.bad = false := fun r k s hq => by
            simp only [mustR, Bool.or_eq_false_iff] at hq; exact hq.1
          unfold ifW at hb ⊢
          have c1 : (ifC rd T (p + 1)).bad = false := hb
          have c2 := hrB _ _ c1
          have c3 := hrB _ _ (hmu _ _ _ c2.1)
          have c4 := hr0 _ (hmu _ _ _ c3.1)
          exact right_if c4 c3.2 c2.2
        · rename_i h1
          rw [if_neg h1]
          exact h _ _ hb
      rename_i h0; rw [if_neg h0]
      split at hb
      · rename_i h1
        rw [if_pos h1]
        exact right_neg (h _ _ hb)
      rename_i h1; rw [if_neg h1]
      split at hb
      · rename_i h2
        rw [if_pos h2]
        exact right_atom hT (fun q hq => h 0 q hq) hb
      rename_i h2; rw [if_neg h2]
      split at hb
      · rename_i h3
        rw [hb] at h3; cases h3
      · rename_i h3
        rw [if_neg h3]
        exact ih _ _ _ (fun x hx => by cases hx; exact h _ _ (by simpa using h3)) hb
    | some x =>
      simp only [rdF] at hb ⊢
      split at hb
      · rename_i ho
        exact hm x rfl
      · rename_i o ho
        have hmem := (opB_lt ho).2.2.1
        split at hb
        · rename_i h1
          rw [if_pos h1]
          exact right_bin hmem (hm x rfl) (h _ _ hb)
        · rename_i h1
          rw [if_neg h1]
          have h2 : (rdF T f none (lvl + 1) (p + 1)).bad = false := by
            cases hq : (rdF T f none (lvl + 1) (p + 1)).bad with
            | false => rfl
            | true => exact absurd (.inr hq) h1
          exact ih _ _ _ (fun y hy => by cases hy; exact right_bin hmem (hm x rfl) (h _ _ h2)) hb
theorem textF_plain (r b : Str) (i : Nat) : (∀ c ∈ b, printB c = true) → (textF r b i).e = 0 → plainS (textF r b i).s = true := by
  fun_induction textF r b i with
  | case1 => intro _ h; simp [PR.err] at h
  | case2 => intro _ h; simp [PR.err] at h
  | case3 c r b i h1 h2 =>
    intro hb _
    simp only [plainS, Bool.and_eq_true, decide_eq_true_eq, List.all_eq_true]
    exact ⟨by omega, hb⟩
  | case4 => intro _ h; simp [PR.err] at h
  | case5 b i c h1 h2 d r' h3 ih =>
    intro hb h
    refine ih (fun e he => ?_) h
    rcases List.mem_append.1 he with he | he
    · exact hb e he
    · simp only [List.mem_cons, List.not_mem_nil, or_false] at he
      subst he
      simp only [printB, Bool.and_eq_true, decide_eq_true_eq]; omega
  | case6 => intro _ h; simp [PR.err] at h
  | case7 c r b i h1 h2 h3 ih =>
    intro hb h
    refine ih (fun e he => ?_) h
    rcases List.mem_append.1 he with he | he
    · exact hb e he
    · simp only [List.mem_cons, List.not_mem_nil, or_false] at he
      subst he; exact h3
  | case8 => intro _ h; simp [PR.err] at h
theorem oneP_plain (s : Str) : (oneP s).e = 0 → (oneP s).kind = 3 → plainS (oneP s).s = true := by
  have e : ∀ k, (PR.err k).kind = 0 := fun k => rfl
  unfold oneP
  simp only
  split
  · intro _ h
    unfold nameP at h
    split at h <;> simp [PR.err] at h
  split
  · intro _ h
    unfold numberP at h
    simp only at h
    split at h
    · simp [PR.err] at h
    · split at h <;> simp [PR.err] at h
  split
  · intro h _; exact textF_plain _ _ _ (fun c hc => by cases hc) h
  · intro _ h
    unfold markP at h
    split at h <;> simp [PR.err] at h
theorem lexF_plain (f : Nat) : ∀ (s : Str) (pos : Nat) (acc : List Tok), (∀ t ∈ acc, t.kind = 3 → plainS t.s = true) → ∀ t ∈ (lexF f s pos acc).1, t.kind = 3 → plainS t.s = true := by
  induction f with
  | zero => intro s pos acc h; exact h
  | succ f ih =>
    intro s pos acc h
    cases s with
    | nil => exact h
    | cons c r =>
      rw [lexF_cons]
      split
      · exact ih r (pos + 1) acc h
      · split
        · rename_i he
          refine ih _ _ _ (fun t ht => ?_)
          rcases List.mem_append.1 ht with ht | ht
          · exact h t ht
          · simp only [List.mem_cons, List.not_mem_nil, or_false] at ht; subst ht; exact oneP_plain _ he
        · intro t ht; cases ht
theorem lexS_rt (s : Str) : rtT (lexS s).1 := by
  intro q
  have h1 : ∀ t ∈ (lexS s).1, 0 ≤ t.n ∧ t.n ≤ 9223372036854775807 := by
    unfold lexS
    split
    · intro t ht; cases ht
    · exact lexF_n _ _ _ _ (fun t ht => by cases ht)
  have h2 : ∀ t ∈ (lexS s).1, t.kind = 3 → plainS t.s = true := by
    unfold lexS
    split
    · intro t ht; cases ht
    · exact lexF_plain _ _ _ _ (fun t ht => by cases ht)
  by_cases hq : q < (lexS s).1.length
  · exact ⟨fun _ => (h1 _ (getD_mem hq)).1, h2 _ (getD_mem hq)⟩
  · rw [getD_out (by omega)]; exact ⟨fun h => absurd h (by decide), fun h => absurd h (by decide)⟩
theorem parseS_right {s : Str} (h : (parseS s).2.2 = 0) : rightX (parseS s).1 = true ∧ deepS (parseS s).1 ≤ 12 := by
  unfold parseS at h ⊢
  split at h
  · rename_i h1; exact absurd h h1
  rename_i h1; rw [if_neg h1]
  split at h
  · cases h
  rename_i h2; rw [if_neg h2]
  split at h
  · rename_i h3; exact absurd h h3
  rename_i h3; rw [if_neg h3]
  split at h
  · cases h
  rename_i h4; rw [if_neg h4]
  refine ⟨?_, by dsimp only; omega⟩
  dsimp only
  have h3 : (readT (lexS s).1 0 0).2.2 = 0 := by simpa using h3
  unfold readT at h3 ⊢
  split at h3
  · cases h3
  rename_i h5; rw [if_neg h5]
  split at h3
  · cases h3
  · rename_i h6
    rw [if_neg h6]
    exact right_rd (lexS_rt s) _ _ _ _ (fun x hx => by cases hx) (by simpa using h6)
theorem parseC_right {s : Str} (h : (parseC s).2.2 = 0) : rightC (parseC s).1 = true := by
  unfold parseC at h ⊢
  split at h
  · rename_i h1; exact absurd h h1
  rename_i h1; rw [if_neg h1]
  split at h
  · rename_i h2; rw [if_pos h2]; decide
  rename_i h2; rw [if_neg h2]
  split at h
  · cases h
  rename_i h3; rw [if_neg h3]
  split at h
  · cases h
  rename_i h4; rw [if_neg h4]
  split at h
  · cases h
  rename_i h5; rw [if_neg h5]
  split at h
  · cases h
  rename_i h6; rw [if_neg h6]
  simpa using h6
theorem lineS_zero {t : Table} {r : Rule} (h : (lineS t r).2.2 = 0) : r.cells.length = t.ins.length ∧ r.outs.length = t.outs.length ∧ (∀ j, j < r.cells.length → (askR t r j).2 = 0) ∧ (∀ j, j < r.outs.length → (tellR t r j).2 = 0) ∧ lineS t r = (⟨cellL t r r.cells.length, outL t r r.outs.length⟩, 0, 0) := by
  by_cases hb : r.cells.length ≠ t.ins.length ∨ r.outs.length ≠ t.outs.length
  · rw [lineS_bad hb] at h; exact absurd h (by decide)
  have h1 : r.cells.length = t.ins.length := by omega
  have h2 : r.outs.length = t.outs.length := by omega
  have hc : ∀ j, j < r.cells.length → (askR t r j).2 = 0 := by
    cases hq : (List.range r.cells.length).find? (fun k => (askR t r k).2 != 0) with
    | some k =>
      exfalso
      unfold lineS at h
      rw [if_neg hb, hq] at h
      have := List.find?_some hq
      simp at this
      exact this h
    | none =>
      intro j hj
      have := List.find?_eq_none.1 hq j (List.mem_range.2 hj)
      simpa using this
  have ho : ∀ j, j < r.outs.length → (tellR t r j).2 = 0 := by
    cases hq : (List.range r.outs.length).find? (fun k => (tellR t r k).2 != 0) with
    | some k =>
      exfalso
      unfold lineS at h
      rw [if_neg hb, range_non (fun j hj => by simp [hc j hj])] at h
      dsimp only at h
      rw [hq] at h
      have := List.find?_some hq
      simp at this
      exact this h
    | none =>
      intro j hj
      have := List.find?_eq_none.1 hq j (List.mem_range.2 hj)
      simpa using this
  exact ⟨h1, h2, hc, ho, lineS_ok h1 h2 hc ho⟩
theorem getD_mapR {α : Type} [Inhabited α] (f : Nat → α) {n k : Nat} (hk : k < n) : ((List.range n).map f).getD k default = f k := by
  rw [List.getD_eq_getElem?_getD, List.getElem?_map, List.getElem?_range hk]; rfl
theorem rowS_zero {w : Nat} {l : Line} (h : (rowS w l).2.2 = 0) : (∀ j, j < l.cells.length → (cellTx l j).2 = 0) ∧ (∀ j, j < l.outs.length → (outTx l j).2 = 0) := by
  have hc : ∀ j, j < l.cells.length → (cellTx l j).2 = 0 := by
    cases hq : (List.range l.cells.length).find? (fun k => (cellTx l k).2 != 0) with
    | some k =>
      exfalso
      unfold rowS at h
      rw [hq] at h
      have := List.find?_some hq
      simp at this
      exact this h
    | none =>
      intro j hj
      have := List.find?_eq_none.1 hq j (List.mem_range.2 hj)
      simpa using this
  refine ⟨hc, ?_⟩
  cases hq : (List.range l.outs.length).find? (fun k => (outTx l k).2 != 0) with
  | some k =>
    exfalso
    unfold rowS at h
    rw [range_non (fun j hj => by simp [hc j hj])] at h
    dsimp only at h
    rw [hq] at h
    have := List.find?_some hq
    simp at this
    exact this h
  | none =>
    intro j hj
    have := List.find?_eq_none.1 hq j (List.mem_range.2 hj)
    simpa using this
theorem line_again {t : Table} {r : Rule} (h : (lineS t r).2.2 = 0) {w : Nat} (hw : (rowS w (lineS t r).1).2.2 = 0) : lineS t (rowS w (lineS t r).1).1 = lineS t r := by
  obtain ⟨h1, h2, hc, ho, he⟩ := lineS_zero h
  obtain ⟨tc, to⟩ := rowS_zero hw
  rw [rowS_1]
  rw [he] at tc to ⊢
  dsimp only at tc to ⊢
  rw [len_cellL] at tc ⊢
  rw [len_outL] at to ⊢
  obtain ⟨l, hl⟩ : ∃ l : Line, (⟨cellL t r r.cells.length, outL t r r.outs.length⟩ : Line) = l := ⟨_, rfl⟩
  have hcl : ∀ j, j < r.cells.length → l.cells.getD j default = (askR t r j).1 := fun j hj => by rw [← hl]; exact getD_mapR _ hj
  have hol : ∀ j, j < r.outs.length → l.outs.getD j default = (tellR t r j).1 := fun j hj => by rw [← hl]; exact getD_mapR _ hj
  have hlc : l.cells = cellL t r r.cells.length := by rw [← hl]
  have hlo : l.outs = outL t r r.outs.length := by rw [← hl]
  rw [hl] at tc to ⊢
  have ask : ∀ j, j < r.cells.length → askR t ⟨cellsT l r.cells.length, outsT l r.outs.length⟩ j = ((askR t r j).1, 0) := fun j hj => by
    have h0 := tc j hj
    have e1 : (cellsT l r.cells.length).getD j default = (cellTx l j).1 := getD_mapR _ hj
    have e2 : cellTx l j = textC (askR t r j).1 := by unfold cellTx; rw [hcl j hj]
    have e3 := hc j hj
    rw [e2] at h0 e1
    have e4 : (askR t r j).1 = (parseC (r.cells.getD j default)).1 := rfl
    have e5 := (parse_cell _ h0 (by rw [e4]; exact parseC_ok2 _)).1
    show askS t j ((cellsT l r.cells.length).getD j default) = _
    rw [e1]
    unfold askS
    rw [e5]
    dsimp only
    rw [if_pos rfl]
    have e6 : (askR t r j).2 = if (parseC (r.cells.getD j default)).2.2 = 0 then typC t.ins (t.ins.getD j default).kind (parseC (r.cells.getD j default)).1 else (parseC (r.cells.getD j default)).2.2 := rfl
    rw [e6] at e3
    split at e3
    · rw [e4, e3]
    · rename_i hh; exact absurd e3 hh
  have tel : ∀ j, j < r.outs.length → tellR t ⟨cellsT l r.cells.length, outsT l r.outs.length⟩ j = ((tellR t r j).1, 0) := fun j hj => by
    have h0 := to j hj
    have e1 : (outsT l r.outs.length).getD j default = (outTx l j).1 := getD_mapR _ hj
    have e2 : outTx l j = textX (tellR t r j).1 := by unfold outTx; rw [hol j hj]
    have e3 := ho j hj
    rw [e2] at h0 e1
    have e4 : (tellR t r j).1 = (parseS (r.outs.getD j default)).1 := rfl
    have e5 := (parse_text _ h0 (by rw [e4]; exact (parseS_ok _).1)).2.1
    show tellS t j ((outsT l r.outs.length).getD j default) = _
    rw [e1]
    have e6 : tellR t r j = tellS t j (r.outs.getD j default) := rfl
    rw [e6] at e3 e5 ⊢
    unfold tellS at e3 e5 ⊢
    dsimp only at e3 e5 ⊢
    rw [e5]
    dsimp only
    rw [if_neg (by simp)]
    split at e3
    · rename_i hh; exact absurd e3 hh
    · rw [e3]
  have hls := lineS_ok (t := t) (r := ⟨cellsT l r.cells.length, outsT l r.outs.length⟩) (by dsimp only; rw [len_cellsT]; exact h1) (by dsimp only; rw [len_outsT]; exact h2) (by intro j hj; dsimp only at hj; rw [len_cellsT] at hj; rw [ask j hj]) (by intro j hj; dsimp only at hj; rw [len_outsT] at hj; rw [tel j hj])
  rw [hls]
  dsimp only
  rw [len_cellsT, len_outsT]
  have q1 : cellL t ⟨cellsT l r.cells.length, outsT l r.outs.length⟩ r.cells.length = l.cells := by
    rw [hlc]; unfold cellL
    exact List.map_congr_left (fun j hj => by rw [ask j (List.mem_range.1 hj)])
  have q2 : outL t ⟨cellsT l r.cells.length, outsT l r.outs.length⟩ r.outs.length = l.outs := by
    rw [hlo]; unfold outL
    exact List.map_congr_left (fun j hj => by rw [tel j (List.mem_range.1 hj)])
  rw [q1, q2]
theorem cleanS_zero {t : Table} (h : (cleanS t).2.2.2 = 0) : (makeS t).2.2.2 = 0 ∧ (∀ j, j < (makeS t).1.lines.length → (rowN t j).2.2 = 0) ∧ cleanS t = ({ t with rules := rowsL t (makeS t).1.lines.length }, 0, 0, 0) := by
  by_cases he : (makeS t).2.2.2 = 0
  · have hr : ∀ j, j < (makeS t).1.lines.length → (rowN t j).2.2 = 0 := by
      cases hq : (List.range (makeS t).1.lines.length).find? (fun k => (rowN t k).2.2 != 0) with
      | some k =>
        exfalso
        unfold cleanS at h
        rw [if_neg (by omega), hq] at h
        have := List.find?_some hq
        simp at this
        exact this h
      | none =>
        intro j hj
        have := List.find?_eq_none.1 hq j (List.mem_range.2 hj)
        simpa using this
    exact ⟨he, hr, cleanS_ok he hr⟩
  · rw [cleanS_make he] at h; exact absurd h he
theorem clean_again {t : Table} (h : (cleanS t).2.2.2 = 0) : makeS (cleanS t).1 = (⟨(cleanS t).1, (makeS t).1.lines⟩, 0, 0, 0) ∧ cleanS (cleanS t).1 = ((cleanS t).1, 0, 0, 0) := by
  obtain ⟨h0, hr, hc⟩ := cleanS_zero h
  obtain ⟨hf, hl, hm⟩ := makeS_zero h0
  have hlen : (makeS t).1.lines.length = t.rules.length := by rw [hm]; exact len_lineL _ _
  have hln : ∀ j, j < t.rules.length → lineN t j = (lineR t j).1 := fun j hj => by unfold lineN; rw [hm]; exact getD_mapR _ hj
  rw [hc, hlen]
  rw [hlen] at hr
  dsimp only
  have hru : ∀ j, j < t.rules.length → (rowsL t t.rules.length).getD j default = (rowN t j).1 := fun j hj => getD_mapR _ hj
  have hline : ∀ j, j < t.rules.length → lineR { t with rules := rowsL t t.rules.length } j = lineR t j := fun j hj => by
    show lineS t ((rowsL t t.rules.length).getD j default) = lineS t (t.rules.getD j default)
    rw [hru j hj]
    have h1 := hr j hj
    unfold rowN at h1 ⊢
    rw [hln j hj] at h1 ⊢
    exact line_again (hl j hj) h1
  have hfr : frameS { t with rules := rowsL t t.rules.length } = frameS t := by
    unfold frameS
    dsimp only
    rw [len_rowsL]
    rfl
  have hmk : makeS { t with rules := rowsL t t.rules.length } = (⟨{ t with rules := rowsL t t.rules.length }, (makeS t).1.lines⟩, 0, 0, 0) := by
    rw [makeS_ok (by rw [hfr]; exact hf) (fun j hj => by dsimp only at hj; rw [len_rowsL] at hj; rw [hline j hj]; exact hl j hj)]
    dsimp only
    rw [len_rowsL, hm]
    dsimp only
    have : lineL { t with rules := rowsL t t.rules.length } t.rules.length = lineL t t.rules.length := by
      unfold lineL
      exact List.map_congr_left (fun j hj => by rw [hline j (List.mem_range.1 hj)])
    rw [this]
  refine ⟨hmk, ?_⟩
  have hrow : ∀ j, rowN { t with rules := rowsL t t.rules.length } j = rowN t j := fun j => by
    unfold rowN lineN
    rw [hmk]
  have hz : (makeS { t with rules := rowsL t t.rules.length }).2.2.2 = 0 := by rw [hmk]
  rw [cleanS_ok hz (fun j hj => by rw [hmk] at hj; dsimp only at hj; rw [hlen] at hj; rw [hrow]; exact hr j hj)]
  have : rowsL { t with rules := rowsL t t.rules.length } (makeS { t with rules := rowsL t t.rules.length }).1.lines.length = rowsL t t.rules.length := by
    rw [hmk]
    dsimp only
    rw [hlen]
    exact List.map_congr_left (fun j _ => congrArg Prod.fst (hrow j))
  rw [this]
theorem textC_err {c : Cell} (h : rightC c = true) (he : (textC c).2 ≠ 0) : (textC c).2 = 5 := by
  unfold textC at he ⊢
  rw [h, if_neg (by simp)] at he ⊢
  split at he
  · exact absurd rfl he
  rename_i h1; rw [if_neg h1]
  split at he
  · rename_i h2; rw [if_pos h2]
  rename_i h2; rw [if_neg h2]
  split at he
  · rename_i h3; rw [if_pos h3]
  · exact absurd rfl he
theorem textX_err {x : Expr} (h : rightX x = true) (hd : deepS x ≤ 12) (he : (textX x).2 ≠ 0) : (textX x).2 = 5 := by
  unfold textX at he ⊢
  rw [h, if_neg (by simp), if_neg (by omega)] at he ⊢
  split at he
  · rename_i h2; rw [if_pos h2]
  · exact absurd rfl he
theorem clean_err {t : Table} (h : (cleanS t).2.2.2 ≠ 0) : ((makeS t).2.2.2 = (cleanS t).2.2.2 ∨ (makeS t).2.2.2 = 0 ∧ (cleanS t).2.2.2 = 5) ∧ (cleanS t).1 = table0 := by
  by_cases he : (makeS t).2.2.2 = 0
  · obtain ⟨hf, hl, hm⟩ := makeS_zero he
    have hlen : (makeS t).1.lines.length = t.rules.length := by rw [hm]; exact len_lineL _ _
    have hln : ∀ j, j < t.rules.length → lineN t j = (lineR t j).1 := fun j hj => by unfold lineN; rw [hm]; exact getD_mapR _ hj
    cases hq : (List.range (makeS t).1.lines.length).find? (fun k => (rowN t k).2.2 != 0) with
    | none =>
      exfalso
      unfold cleanS at h
      rw [if_neg (by omega), hq] at h
      exact h rfl
    | some n =>
      have hn : n < t.rules.length := by rw [← hlen]; exact List.mem_range.1 (List.mem_of_find?_eq_some hq)
      have h1 : (rowN t n).2.2 ≠ 0 := by have := List.find?_some hq; simpa using this
      have hc : cleanS t = (table0, (n : Int), (rowN t n).2.1, (rowN t n).2.2) := by
        unfold cleanS; rw [if_neg (by omega), hq]
      rw [hc]
      refine ⟨.inr ⟨he, ?_⟩, rfl⟩
      dsimp only
      unfold rowN at h1 ⊢
      rw [hln n hn] at h1 ⊢
      obtain ⟨_, _, ac, ao, hz⟩ := lineS_zero (hl n hn)
      have hz : lineR t n = _ := hz
      have cR : ∀ m, m < (lineR t n).1.cells.length → rightC ((lineR t n).1.cells.getD m default) = true := fun m hm => by
        rw [hz] at hm ⊢
        dsimp only at hm ⊢
        rw [len_cellL] at hm
        unfold cellL
        rw [getD_mapR _ hm]
        have := ac m hm
        unfold askR askS at this ⊢
        dsimp only at this ⊢
        split at this
        · rename_i h0; exact parseC_right h0
        · rename_i h0; exact absurd this h0
      have xR : ∀ m, m < (lineR t n).1.outs.length → rightX ((lineR t n).1.outs.getD m default) = true ∧ deepS ((lineR t n).1.outs.getD m default) ≤ 12 := fun m hm => by
        rw [hz] at hm ⊢
        dsimp only at hm ⊢
        rw [len_outL] at hm
        unfold outL
        rw [getD_mapR _ hm]
        have := ao m hm
        unfold tellR tellS at this ⊢
        dsimp only at this ⊢
        split at this
        · rename_i h0; exact absurd this h0
        · rename_i h0; exact parseS_right (by simpa using h0)
      generalize (lineR t n).1 = l at *
      unfold rowS at h1 ⊢
      split at h1
      · rename_i m hq2
        dsimp only at h1 ⊢
        exact textC_err (cR m (List.mem_range.1 (List.mem_of_find?_eq_some hq2))) h1
      · split at h1
        · rename_i m hq2
          dsimp only at h1 ⊢
          have := xR m (List.mem_range.1 (List.mem_of_find?_eq_some hq2))
          exact textX_err this.1 this.2 h1
        · exact absurd rfl h1
  · rw [cleanS_make he]; exact ⟨.inl rfl, rfl⟩
theorem len_textC (c : Cell) : (textC c).1.length ≤ 200 := by
  unfold textC
  repeat' split
  all_goals (dsimp only; first | (simp; done) | omega)
theorem len_textX (x : Expr) : (textX x).1.length ≤ 200 := by
  unfold textX bigX
  repeat' split
  all_goals (dsimp only; first | (simp; done) | (simp_all; done) | (simp_all; omega))
theorem ok_clean {t : Table} (h : okTab t) : okTab (cleanS t).1 := by
  have ok0 : okTab table0 := ⟨by decide, ⟨by decide, fun c hc => (by cases hc)⟩, ⟨by decide, fun c hc => (by cases hc)⟩, by decide, fun c hc => (by cases hc)⟩
  by_cases he : (makeS t).2.2.2 = 0
  · unfold cleanS
    rw [if_neg (by omega)]
    split
    · exact ok0
    · obtain ⟨a, b, c, d⟩ := h
      obtain ⟨h1, h2⟩ := makeS_lines ⟨a, b, c, d⟩ he
      refine ⟨a, b, c, ?_, fun r hr => ?_⟩
      · dsimp only; rw [len_rowsL]; have := d.1; omega
      · obtain ⟨k, _, rfl⟩ := List.mem_map.1 hr
        have hk := h2 k
        unfold rowN
        rw [rowS_1]
        refine ⟨⟨?_, fun s hs => ?_⟩, ?_, fun s hs => ?_⟩
        · dsimp only; rw [len_cellsT]; have := hk.1.1; omega
        · obtain ⟨m, _, rfl⟩ := List.mem_map.1 hs
          have := len_textC ((lineN t k).cells.getD m default)
          unfold cellTx; omega
        · dsimp only; rw [len_outsT]; have := hk.2.1; omega
        · obtain ⟨m, _, rfl⟩ := List.mem_map.1 hs
          have := len_textX ((lineN t k).outs.getD m default)
          unfold outTx; omega
  · rw [cleanS_make he]; exact ok0
theorem law18_DtableClean (t : Table) (hr : rngT t) : CallF Tryz.prog n_law18_DtableClean [eTable t] (.bool true) := by
  have cs := law18_Small t
  have cl := law18_lives
  cases hs : smallT t with
  | false =>
    rw [hs] at cs
    simp only [eTable, cTable, eCols, eRules] at cs ⊢
    refine CallF.of_nil (of_law18_DtableClean (by simp) ?_) (by simp)
    unfold b_law18_DtableClean WpR
    intro Q hQr hQn hQp
    repeat' first | refine go_ ?_ | refine cf_ cs ?_ | refine cf_ cl ?_ | refine br_ (fun hw => ?_) (fun hw => ?_) <;> try omega | fail
    all_goals first | exact ab_ | exact leafE rfl rfl
  | true =>
    rw [hs] at cs
    have ok := ok_small hs hr
    have c1 := dtable_Clean t ok
    have c2 := dtable_Make t ok
    by_cases he : (cleanS t).2.2.2 = 0
    · obtain ⟨h3, h4⟩ := clean_again he
      have okc := ok_clean ok
      have sc := sm_clean ok
      have sm := sm_make ok
      obtain ⟨h0, _, hc⟩ := cleanS_zero he
      obtain ⟨C, hC⟩ : ∃ C, cleanS t = (C, 0, 0, 0) := ⟨_, hc⟩
      obtain ⟨L, hL⟩ : ∃ L, makeS t = (⟨t, L⟩, 0, 0, 0) := ⟨_, (makeS_zero h0).2.2⟩
      clear h0 hc he
      rw [hC] at h3 h4 okc c1 sc
      rw [hL] at h3 c2 sm
      dsimp only at h3 h4 okc sc sm
      have c3 := dtable_Make C okc
      have c4 := dtable_Clean C okc
      rw [h3] at c3
      rw [h4] at c4
      have c5 := ref18_SameLines L L sm.2 sm.2
      rw [sameLns_refl] at c5
      have c6 := ref18_Same C C sc sc
      have c7 := ref18_Same t t (sm_tab ok) (sm_tab ok)
      rw [sameTab_refl] at c6 c7
      clear h3 h4 okc sc sm hC hL hs ok
      simp only [eR4, eT4, eReady, eTable, cTable, eCols, eRules, eLines] at cs c1 c2 c3 c4 c5 c6 c7 ⊢
      refine CallF.of_nil (of_law18_DtableClean (by simp) ?_) (by simp)
      unfold b_law18_DtableClean WpR
      intro Q hQr hQn hQp
      repeat' first | refine go_ ?_ | refine cf_ cs ?_ | refine cf_ cl ?_ | refine cf_ c1 ?_ | refine cf_ c2 ?_ | refine cf_ c3 ?_ | refine cf_ c4 ?_ | refine cf_ c5 ?_ | refine cf_ c6 ?_ | refine cf_ c7 ?_ | refine br_ (fun hw => ?_) (fun hw => ?_) <;> try omega | fail
      all_goals first | exact ab_ | exact leafE rfl rfl | exact leafE (by simp) rfl
    · obtain ⟨h3, h4⟩ := clean_err he
      have c6 := ref18_Same table0 table0 sm_tab0 sm_tab0
      rw [sameTab_refl] at c6
      clear ok hs
      generalize cleanS t = C at *
      generalize makeS t = M at *
      obtain ⟨C, m1, m2, e⟩ := C
      obtain ⟨M, n1, n2, f⟩ := M
      dsimp only at he h3 h4
      subst h4
      simp only [eR4, eT4, eReady, eTable, cTable, eCols, eRules, eLines, table0, List.map_nil] at cs c1 c2 c6 ⊢
      refine CallF.of_nil (of_law18_DtableClean (by simp) ?_) (by simp)
      unfold b_law18_DtableClean WpR
      intro Q hQr hQn hQp
      repeat' first | refine go_ ?_ | refine cf_ cs ?_ | refine cf_ cl ?_ | refine cf_ c1 ?_ | refine cf_ c2 ?_ | refine cw_ c6 ?_ | refine br_ (fun hw => ?_) (fun hw => ?_) <;> try omega | fail
      all_goals first | exact ab_ | exact leafE rfl rfl | exact leafE (by simp) rfl
end Go.Proofs.YthkhdedadacakaaGreatDoor
