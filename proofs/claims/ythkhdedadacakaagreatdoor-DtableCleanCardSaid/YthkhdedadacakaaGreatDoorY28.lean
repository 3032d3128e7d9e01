/- Part of a proof: see Root. -/
import Derived.Test.YthkhdedadacakaaGreatDoorY27
set_option linter.unnecessarySimpa false
set_option linter.unusedSimpArgs false
set_option linter.unusedVariables false
namespace Go.Proofs.YthkhdedadacakaaGreatDoor
open Go.AM
set_option maxRecDepth 4000
abbrev TK := Int × Str × Int
def tk (t : Tok) : TK := (t.kind, t.s, t.n)
def Bd (r : Str) : Prop := ∀ c, r.head? = some c → wordB c = false
def B0 (r : Str) : Prop := True
def Bs (r : Str) : Prop := r.head? = some 32
def Lx (B : Str → Prop) (s : Str) (ks : List TK) : Prop := ∀ r, B r → ∀ (f pos : Nat) (acc : List Tok), (s ++ r).length < f → ∃ f' ts, r.length < f' ∧ lexF f (s ++ r) pos acc = lexF f' r (pos + s.length) (acc ++ ts) ∧ ts.map tk = ks
theorem Lx.nil (B : Str → Prop) : Lx B [] [] := fun r _ f pos acc hf => ⟨f, [], hf, by simp, rfl⟩
theorem Lx.app {B1 B2 : Str → Prop} {s1 s2 : Str} {k1 k2 : List TK} (h1 : Lx B1 s1 k1) (h2 : Lx B2 s2 k2) (hb : ∀ r, B2 r → B1 (s2 ++ r)) : Lx B2 (s1 ++ s2) (k1 ++ k2) := by
  intro r hr f pos acc hf
  obtain ⟨f1, t1, a1, b1, c1⟩ := h1 (s2 ++ r) (hb r hr) f pos acc (by rw [← List.append_assoc]; exact hf)
  obtain ⟨f2, t2, a2, b2, c2⟩ := h2 r hr f1 (pos + s1.length) (acc ++ t1) a1
  refine ⟨f2, t1 ++ t2, a2, ?_, by rw [List.map_append, c1, c2]⟩
  rw [List.append_assoc, b1, b2, List.length_append, List.append_assoc, Nat.add_assoc]
theorem Lx.weak {B B' : Str → Prop} {s : Str} {ks : List TK} (h : Lx B s ks) (hb : ∀ r, B' r → B r) : Lx B' s ks := fun r hr => h r (hb r hr)
theorem Lx.sp (B : Str → Prop) : Lx B [32] [] := by
  intro r _ f pos acc hf
  obtain ⟨f, rfl⟩ : ∃ k, f = k + 1 := ⟨f - 1, by simp at hf; omega⟩
  refine ⟨f, [], by simp at hf; omega, ?_, rfl⟩
  rw [List.singleton_append, lexF_cons, if_pos (by decide), List.append_nil]; rfl
theorem Lx.one {B : Str → Prop} {s : Str} {k : TK} (hs : s ≠ []) (h32 : (s.getD 0 0).toNat ≠ 32) (h : ∀ r, B r → oneP (s ++ r) = ⟨k.1, k.2.1, k.2.2, s.length, 0⟩) : Lx B s [k] := by
  intro r hr f pos acc hf
  have h1 := h r hr
  obtain ⟨c, s', rfl⟩ : ∃ c s', s = c :: s' := by cases s with | nil => exact absurd rfl hs | cons c s' => exact ⟨c, s', rfl⟩
  obtain ⟨f, rfl⟩ : ∃ k, f = k + 1 := ⟨f - 1, by simp at hf; omega⟩
  refine ⟨f, [⟨k.1, k.2.1, k.2.2, pos⟩], by simp at hf; omega, ?_, rfl⟩
  rw [List.cons_append] at h1 ⊢
  rw [lexF_cons, if_neg (by simpa using h32), h1, if_pos rfl]
  simp
theorem Bd_cons {c : UInt8} {r : Str} (h : wordB c = false) : Bd (c :: r) := fun d hd => by cases hd; exact h
theorem Bd_nil : Bd [] := fun d hd => by cases hd
theorem Bd_bs {r : Str} (h : Bs r) : Bd r := fun d hd => by rw [h] at hd; cases hd; decide
theorem Bs.cons {r : Str} (h : Bs r) : ∃ r', r = 32 :: r' := by
  cases r with
  | nil => cases h
  | cons c r => cases h; exact ⟨r, rfl⟩
theorem lx_mark {m : Str} (hm : m = [40] ∨ m = [41] ∨ m = [45] ∨ m = [44] ∨ m = [46, 46] ∨ m = [91] ∨ m = [93]) : Lx B0 m [(4, m, 0)] := by
  rcases hm with rfl | rfl | rfl | rfl | rfl | rfl | rfl <;>
    exact Lx.one (by decide) (by decide) (fun r _ => by simp [oneP, letterB, digitB, markP, marksL, List.isPrefixOf])
theorem lx_sign {m : Str} (hm : m = [43] ∨ m = [45] ∨ m = [42] ∨ m = [47] ∨ m = [61] ∨ m = [33, 61] ∨ m = [60] ∨ m = [60, 61] ∨ m = [62] ∨ m = [62, 61]) : Lx Bs m [(4, m, 0)] := by
  rcases hm with rfl | rfl | rfl | rfl | rfl | rfl | rfl | rfl | rfl | rfl <;>
    exact Lx.one (by decide) (by decide) (fun r hr => by obtain ⟨r', rfl⟩ := hr.cons; simp [oneP, letterB, digitB, markP, marksL, List.isPrefixOf])
theorem takeWhile_app {p : UInt8 → Bool} {s r : Str} (hs : ∀ c ∈ s, p c = true) (hr : ∀ c, r.head? = some c → p c = false) : (s ++ r).takeWhile p = s := by
  induction s with
  | nil =>
    cases r with
    | nil => rfl
    | cons c r => rw [List.nil_append, List.takeWhile_cons, hr c rfl]; rfl
  | cons c s ih =>
    rw [List.cons_append, List.takeWhile_cons, hs c (by simp), if_pos rfl, ih (fun d hd => hs d (by simp [hd]))]
theorem takeWhile_eq {p : UInt8 → Bool} {s : Str} (h : (s.takeWhile p).length = s.length) : ∀ c ∈ s, p c = true := by
  induction s with
  | nil => intro c hc; cases hc
  | cons c s ih =>
    rw [List.takeWhile_cons] at h
    split at h
    · rename_i hp
      intro d hd
      rcases List.mem_cons.1 hd with rfl | hd
      · exact hp
      · exact ih (by simpa using h) d hd
    · simp at h
theorem wordN_all {s : Str} (hs : s ≠ []) (h : wordN s = s.length) : letterB (s.getD 0 0) = true ∧ ∀ c ∈ s, wordB c = true := by
  cases s with
  | nil => exact absurd rfl hs
  | cons c r =>
    unfold wordN at h
    dsimp only at h
    split at h
    · rename_i hc; exact ⟨hc, takeWhile_eq h⟩
    · simp at h
theorem lx_word {s : Str} (hs : s ≠ []) (h : wordN s = s.length) (hl : s.length ≤ 16) : Lx Bd s [(1, s, 0)] := by
  obtain ⟨h1, h2⟩ := wordN_all hs h
  obtain ⟨c, s', rfl⟩ : ∃ c s', s = c :: s' := by cases s with | nil => exact absurd rfl hs | cons c s' => exact ⟨c, s', rfl⟩
  rw [List.getD_cons_zero] at h1
  refine Lx.one hs (fun h32 => ?_) (fun r hr => ?_)
  · rw [List.getD_cons_zero] at h32
    simp [letterB, h32] at h1
  · have hw : wordN ((c :: s') ++ r) = (c :: s').length := by
      unfold wordN
      rw [List.cons_append]
      dsimp only
      rw [if_pos h1, ← List.cons_append, takeWhile_app h2 hr]
    unfold oneP
    simp only [List.cons_append, List.getD_cons_zero, h1, if_true]
    rw [← List.cons_append]
    unfold nameP
    rw [hw, if_neg (by omega), List.take_append_of_le_length (Nat.le_refl _), List.take_length]
theorem numF_app (a b : Str) : ∀ v : Int, numF (a ++ b) v = (numF a v).bind (numF b) := by
  induction a with
  | nil => intro v; rfl
  | cons c r ih =>
    intro v
    rw [List.cons_append]
    simp only [numF]
    split
    · rfl
    · exact ih _
theorem dig_toNat {d : Nat} (h : d < 10) : (UInt8.ofNat (48 + d)).toNat = 48 + d := by
  rw [UInt8.toNat_ofNat']; omega
theorem dec_digits (u : Nat) : Lib.decDigits u ≠ [] ∧ (∀ c ∈ Lib.decDigits u, digitB c = true) ∧ (1 ≤ u → ((Lib.decDigits u).getD 0 0).toNat ≠ 48) ∧ (u ≤ 9223372036854775807 → numF (Lib.decDigits u) 0 = some (u : Int)) := by
  induction u using Nat.strongRecOn with
  | _ u ih =>
    rw [Lib.decDigits]
    split
    · rename_i h
      have ht := dig_toNat h
      refine ⟨by simp, fun c hc => ?_, fun h1 => ?_, fun h2 => ?_⟩
      · simp only [List.mem_cons, List.not_mem_nil, or_false] at hc; subst hc
        simp only [digitB, ht, Bool.and_eq_true, decide_eq_true_eq]; omega
      · rw [List.getD_cons_zero, ht]; omega
      · simp only [numF, ht]
        rw [if_neg (by omega)]
        congr 1; omega
    · rename_i h
      obtain ⟨i1, i2, i3, i4⟩ := ih (u / 10) (by omega)
      have ht := dig_toNat (d := u % 10) (by omega)
      refine ⟨by simp, fun c hc => ?_, fun h1 => ?_, fun h2 => ?_⟩
      · rcases List.mem_append.1 hc with hc | hc
        · exact i2 c hc
        · simp only [List.mem_cons, List.not_mem_nil, or_false] at hc; subst hc
          simp only [digitB, ht, Bool.and_eq_true, decide_eq_true_eq]; omega
      · have := i3 (by omega)
        generalize Lib.decDigits (u / 10) = w at *
        cases w with
        | nil => exact absurd rfl i1
        | cons c w => simpa using this
      · rw [numF_app, i4 (by omega), Option.bind_some]
        simp only [numF, ht]
        rw [if_neg (by omega)]
        congr 1; omega
theorem lx_num {n : Int} (h0 : 0 ≤ n) (h1 : n ≤ 9223372036854775807) : Lx Bd (Lib.itoa n) [(2, [], n)] := by
  obtain ⟨u, rfl⟩ : ∃ u : Nat, n = u := ⟨n.toNat, by omega⟩
  rw [Lib.itoa_nonneg]
  obtain ⟨i1, i2, i3, i4⟩ := dec_digits u
  have i4 := i4 (by omega)
  have i5 : 1 < (Lib.decDigits u).length → ((Lib.decDigits u).getD 0 0).toNat ≠ 48 := fun hl => i3 (by
    by_cases hu : u < 10
    · rw [Lib.decDigits, dif_pos hu] at hl; simp at hl
    · omega)
  clear i3
  generalize Lib.decDigits u = w at *
  obtain ⟨c, s', rfl⟩ : ∃ c s', w = c :: s' := by cases w with | nil => exact absurd rfl i1 | cons c s' => exact ⟨c, s', rfl⟩
  have hd := i2 c (by simp)
  have hd2 := hd
  simp only [digitB, Bool.and_eq_true, decide_eq_true_eq] at hd2
  have hlt : letterB c = false := by simp [letterB]; omega
  rw [List.getD_cons_zero] at i5
  refine Lx.one i1 (by rw [List.getD_cons_zero]; omega) (fun r hr => ?_)
  have htw : ((c :: s') ++ r).takeWhile digitB = c :: s' := takeWhile_app i2 (fun d hd => by have := hr d hd; simp only [wordB, Bool.or_eq_false_iff] at this; exact this.2)
  unfold oneP
  simp only [List.cons_append, List.getD_cons_zero, hlt, hd, if_true, Bool.false_eq_true, if_false]
  rw [← List.cons_append]
  unfold numberP
  rw [htw]
  simp only
  rw [if_neg (fun hh => i5 hh.1 (by simpa using hh.2)), i4]
theorem textF_quote (s r : Str) : (∀ c ∈ s, printB c = true) → ∀ (b : Str) (i : Nat), b.length + s.length ≤ 40 → textF (s.flatMap quoteB ++ (34 :: r)) b i = ⟨3, b ++ s, 0, i + (s.flatMap quoteB).length + 1, 0⟩ := by
  induction s with
  | nil =>
    intro _ b i hb
    rw [List.flatMap_nil, List.nil_append, textF_cons, if_pos (by decide), if_neg (by simp at hb; omega)]
    simp
  | cons c s ih =>
    intro hp b i hb
    have hc := hp c (by simp)
    have hs := fun d hd => hp d (List.mem_cons_of_mem _ hd)
    rw [List.length_cons] at hb
    have := ih hs (b ++ [c])
    rw [List.flatMap_cons, List.append_assoc]
    unfold quoteB
    split
    · rename_i hq
      rw [List.cons_append, textF_cons, if_neg (by decide), if_pos (by decide)]
      rw [List.singleton_append]
      dsimp only
      rw [if_pos hq]
      have h2 := this (i + 2) (by simp; omega)
      rw [show (fun c => if c.toNat = 34 ∨ c.toNat = 92 then [92, c] else [c]) = quoteB from rfl, h2]
      simp; omega
    · rename_i hq
      rw [List.singleton_append, textF_cons, if_neg (by omega), if_neg (by omega), if_pos hc]
      have h2 := this (i + 1) (by simp; omega)
      rw [show (fun c => if c.toNat = 34 ∨ c.toNat = 92 then [92, c] else [c]) = quoteB from rfl, h2]
      simp; omega
theorem lx_text {s : Str} (h : plainS s = true) : Lx B0 (quoteS s) [(3, s, 0)] := by
  simp only [plainS, Bool.and_eq_true, decide_eq_true_eq, List.all_eq_true] at h
  refine Lx.one (by simp [quoteS]) (by simp [quoteS]) (fun r _ => ?_)
  unfold oneP quoteS
  simp only [List.cons_append, List.getD_cons_zero]
  rw [if_neg (by decide), if_neg (by decide), if_pos (by decide), List.drop_succ_cons, List.drop_zero, List.append_assoc, List.singleton_append, textF_quote s r h.2 [] 1 (by simpa using h.1)]
  simp; omega
def tokV (v : Val) : TK := if v.kind = 1 then (2, [], v.n) else if v.kind = 2 then (3, v.s, 0) else if v.kind = 3 then (1, if v.n = 1 then trueS else falseS, 0) else (1, nullS, 0)
theorem lx_val {v : Val} (hr : rightV v = true) (hn : v.kind ≠ 1 ∨ 0 ≤ v.n) (hm : v.n ≤ 9223372036854775807) : Lx Bd (textV v) [tokV v] := by
  unfold textV tokV
  unfold rightV at hr
  by_cases h1 : v.kind = 1
  · rw [if_pos h1, if_pos h1]; exact lx_num (by omega) hm
  by_cases h2 : v.kind = 2
  · rw [if_neg h1, if_neg h1, if_pos h2, if_pos h2]
    rw [if_neg (by omega), if_neg h1, if_pos h2] at hr
    simp only [Bool.and_eq_true] at hr
    exact (lx_text hr.2).weak (fun _ _ => trivial)
  rw [if_neg h1, if_neg h1, if_neg h2, if_neg h2]
  split
  · split <;> exact lx_word (by decide) (by decide) (by decide)
  · exact lx_word (by decide) (by decide) (by decide)
def parenK (w : Int × List TK) (lvl : Int) : List TK := if w.1 < lvl then (4, [40], 0) :: (w.2 ++ [(4, [41], 0)]) else w.2
def ifW1 : TK := (1, [105, 102], 0)
def thenW1 : TK := (1, thenS, 0)
def elseW1 : TK := (1, elseS, 0)
def signT (op : Int) : TK := (kindB (findB op), (findB op).sign, 0)
def joinK (op : Int) (v : Val) (s : Str) (ws : List (Int × List TK)) : List TK :=
  if op = 1 then [tokV v] else if op = 2 then [(1, s, 0)]
  else if op = 3 then (4, [45], 0) :: parenK (ws.getD 0 default) 6
  else if op = 16 then ifW1 :: (parenK (ws.getD 0 default) 0 ++ (thenW1 :: (parenK (ws.getD 1 default) 0 ++ (elseW1 :: parenK (ws.getD 2 default) 0))))
  else parenK (ws.getD 0 default) (if (findB op).level = 3 then 4 else (findB op).level) ++ (signT op :: parenK (ws.getD 1 default) ((findB op).level + 1))
mutual
def tokX : Expr → List TK
  | .mk op v s l => joinK op v s (tokL l)
def tokL : List Expr → List (Int × List TK)
  | [] => []
  | x :: r => (levelS x.op, tokX x) :: tokL r
end
def wrK (x : Expr) (lvl : Int) : List TK := parenK (levelS x.op, tokX x) lvl
theorem lx_paren {w : Str} {ks : List TK} (h : Lx Bd w ks) (n lvl : Int) : Lx Bd (parenS (n, w) lvl) (parenK (n, ks) lvl) := by
  unfold parenS parenK
  dsimp only
  split
  · have h1 : Lx Bd ([40] ++ (w ++ [41])) ([(4, [40], 0)] ++ (ks ++ [(4, [41], 0)])) :=
      (lx_mark (.inl rfl)).app ((h.app ((lx_mark (.inr (.inl rfl))).weak (fun _ _ => trivial)) (fun r _ => Bd_cons (by decide)))) (fun _ _ => trivial)
    exact h1
  · exact h
theorem lx_op {b : Bin} (hb : b ∈ binL) : Lx Bs b.sign [(kindB b, b.sign, 0)] := by
  simp only [binL, List.mem_cons, List.not_mem_nil, or_false] at hb
  rcases hb with rfl | rfl | rfl | rfl | rfl | rfl | rfl | rfl | rfl | rfl | rfl | rfl
  all_goals first
    | exact lx_sign (by decide)
    | exact (lx_word (by decide) (by decide) (by decide)).weak (fun _ h => Bd_bs h)
theorem lx_expr (x : Expr) : rightX x = true → okX x → Lx Bd (writeX x) (tokX x) := by
  induction x using Expr.ind with
  | h op v s l ih =>
    intro hr hx
    simp only [okX] at hx
    obtain ⟨_, _, hv1, hv2, hl⟩ := hx
    have key : ∀ y ∈ l, rightX y = true → ∀ lvl, Lx Bd (parenS (levelS y.op, writeX y) lvl) (parenK (levelS y.op, tokX y) lvl) := fun y hy hry lvl => lx_paren (ih y hy hry (okL_mem hl hy)) _ _
    rcases right_parts hr with ⟨rfl, rfl, rfl, h1, h2⟩ | ⟨rfl, rfl, rfl, h1⟩ | ⟨rfl, rfl, rfl, a, rfl, ha⟩ | ⟨rfl, rfl, rfl, a, b, c, rfl, ha, hb, hc⟩ | ⟨o1, o2, rfl, rfl, _, _, _, _, hmem, a, b, rfl, ha, hb⟩
    · simp only [writeX, tokX, joinX, joinK, if_true]
      exact lx_val h1 h2 hv2
    · simp only [writeX, tokX, joinX, joinK, if_true]
      rw [if_neg (by decide), if_neg (by decide)]
      simp only [nameS, Bool.and_eq_true, decide_eq_true_eq] at h1
      exact lx_word h1.1.1.1 h1.1.1.2 h1.1.2
    · have k1 := key a (by simp) ha 6
      simp only [writeX, tokX, joinX, joinK, writeL, tokL]
      rw [if_neg (by decide), if_neg (by decide), if_pos trivial, if_neg (by decide), if_neg (by decide), if_pos trivial]
      exact (lx_mark (m := [45]) (by decide)).app k1 (fun _ _ => trivial)
    · have k1 := key a (by simp) ha 0
      have k2 := key b (by simp) hb 0
      have k3 := key c (by simp) hc 0
      simp only [writeX, tokX, joinX, joinK, writeL, tokL]
      rw [if_neg (by decide), if_neg (by decide), if_neg (by decide), if_pos trivial, if_neg (by decide), if_neg (by decide), if_neg (by decide), if_pos trivial]
      simp only [List.getD_cons_zero, List.getD_cons_succ]
      have hw : ∀ w : Str, w ≠ [] → wordN w = w.length → w.length ≤ 16 → Lx B0 (w ++ [32]) [(1, w, 0)] := fun w a1 a2 a3 => by
        have := (lx_word a1 a2 a3).app (Lx.sp B0) (fun r _ => Bd_cons (by decide))
        simpa using this
      have hw2 : ∀ w : Str, w ≠ [] → wordN w = w.length → w.length ≤ 16 → Lx B0 (32 :: (w ++ [32])) [(1, w, 0)] := fun w a1 a2 a3 => by
        have := (Lx.sp B0).app (hw w a1 a2 a3) (fun _ _ => trivial)
        simpa using this
      have e1 : Lx B0 ifSp [ifW1] := hw [105, 102] (by decide) (by decide) (by decide)
      have e2 : Lx B0 thenSp [thenW1] := hw2 thenS (by decide) (by decide) (by decide)
      have e3 : Lx B0 elseSp [elseW1] := hw2 elseS (by decide) (by decide) (by decide)
      have b2 : ∀ r, B0 r → Bd (thenSp ++ r) := fun r _ => Bd_cons (by decide)
      have b3 : ∀ r, B0 r → Bd (elseSp ++ r) := fun r _ => Bd_cons (by decide)
      have := ((((e1.app k1 (fun _ _ => trivial)).app e2 b2).app k2 (fun _ _ => trivial)).app e3 b3).app k3 (fun _ _ => trivial)
      simpa using this
    · have k1 := key a (by simp) ha (if (findB op).level = 3 then 4 else (findB op).level)
      have k2 := key b (by simp) hb ((findB op).level + 1)
      have w1 : writeX (.mk op v0 [] [a, b]) = parenS (levelS a.op, writeX a) (if (findB op).level = 3 then 4 else (findB op).level) ++ [32] ++ (findB op).sign ++ [32] ++ parenS (levelS b.op, writeX b) ((findB op).level + 1) := by
        simp only [writeX, writeL, joinX]
        rw [if_neg (by omega), if_neg (by omega), if_neg (by omega), if_neg (by omega)]
        rfl
      have w2 : tokX (.mk op v0 [] [a, b]) = parenK (levelS a.op, tokX a) (if (findB op).level = 3 then 4 else (findB op).level) ++ (signT op :: parenK (levelS b.op, tokX b) ((findB op).level + 1)) := by
        simp only [tokX, tokL, joinK]
        rw [if_neg (by omega), if_neg (by omega), if_neg (by omega), if_neg (by omega)]
        rfl
      rw [w1, w2]
      have := (((k1.app (Lx.sp B0) (fun r _ => Bd_cons (by decide))).app (lx_op hmem) (fun _ _ => trivial)).app (Lx.sp B0) (fun r _ => rfl)).app k2 (fun _ _ => trivial)
      simpa [signT] using this
theorem lexS_of {s : Str} {ks : List TK} (h : Lx Bd s ks) (hs : s.length ≤ 200) : ∃ T, lexS s = (T, 0, 0) ∧ T.map tk = ks := by
  obtain ⟨f', ts, h1, h2, h3⟩ := h [] Bd_nil (s.length + 1) 0 [] (by simp)
  refine ⟨ts, ?_, h3⟩
  unfold lexS
  rw [if_neg (by omega)]
  rw [List.append_nil] at h2
  rw [h2]
  cases f' with
  | zero => simp at h1
  | succ f' => simp [lexF]
def AtT (T : List Tok) : Nat → List TK → Prop
  | _, [] => True
  | p, k :: ks => (p < T.length ∧ tk (T.getD p default) = k) ∧ AtT T (p + 1) ks
theorem AtT.app {T : List Tok} {a b : List TK} : ∀ {p : Nat}, AtT T p (a ++ b) ↔ AtT T p a ∧ AtT T (p + a.length) b := by
  induction a with
  | nil => intro p; simp [AtT]
  | cons k a ih =>
    intro p
    rw [List.cons_append]
    simp only [AtT, ih, List.length_cons]
    rw [show p + (a.length + 1) = p + 1 + a.length by omega, and_assoc, and_assoc, and_assoc]
theorem AtT.map (T : List Tok) : ∀ (p : Nat), p ≤ T.length → AtT T p ((T.drop p).map tk) := by
  intro p hp
  induction hn : T.length - p generalizing p with
  | zero => rw [List.drop_eq_nil_of_le (by omega)]; trivial
  | succ n ih =>
    have hlt : p < T.length := by omega
    rw [List.drop_eq_getElem_cons hlt, List.map_cons]
    refine ⟨⟨hlt, ?_⟩, ih (p + 1) hlt (by omega)⟩
    rw [List.getD_eq_getElem?_getD, List.getElem?_eq_getElem hlt]; rfl
theorem at_isT {T : List Tok} {p : Nat} {t : TK} {ks : List TK} (h : AtT T p (t :: ks)) (k : Int) (s : Str) : isT T p k s = (decide (t.1 = k) && decide (t.2.1 = s)) := by
  obtain ⟨⟨h1, h2⟩, _⟩ := h
  unfold isT
  rw [← h2]
  simp [h1, tk]
theorem at_kind {T : List Tok} {p : Nat} {t : TK} {ks : List TK} (h : AtT T p (t :: ks)) : (T.getD p default).kind = t.1 ∧ (T.getD p default).s = t.2.1 ∧ (T.getD p default).n = t.2.2 := by
  obtain ⟨⟨h1, h2⟩, _⟩ := h
  rw [← h2]; exact ⟨rfl, rfl, rfl⟩
def opK (t : TK) (l : Int) : Option Bin := binL.find? fun x => x.level == l && (decide (t.1 = kindB x) && decide (t.2.1 = x.sign))
theorem at_opB {T : List Tok} {p : Nat} {t : TK} {ks : List TK} (h : AtT T p (t :: ks)) (l : Int) : opB T p false l = opK t l := by
  unfold opB opK onT
  congr 1
  funext x
  rw [at_isT h]; simp
theorem end_opB {T : List Tok} {p : Nat} (h : T.length ≤ p) (l : Int) : opB T p false l = none := by
  unfold opB
  rw [List.find?_eq_none]
  intro x _
  have : isT T p (kindB x) x.sign = false := by simp only [isT, Bool.and_eq_false_iff, decide_eq_false_iff_not]; left; omega
  simp [onT, this]
def StopT (T : List Tok) (p lvl : Nat) : Prop := ∀ l : Nat, lvl ≤ l → opB T p false l = none
theorem StopT.up {T : List Tok} {p a b : Nat} (h : StopT T p a) (hab : a ≤ b) : StopT T p b := fun l hl => h l (Nat.le_trans hab hl)
def quiet (t : TK) : Prop := ∀ l : Int, opK t l = none
theorem StopT.of {T : List Tok} {p : Nat} {t : TK} {ks : List TK} (h : AtT T p (t :: ks)) (hq : quiet t) (lvl : Nat) : StopT T p lvl := fun l _ => by rw [at_opB h]; exact hq l
theorem StopT.end {T : List Tok} {p : Nat} (h : T.length ≤ p) (lvl : Nat) : StopT T p lvl := fun l _ => end_opB h l
theorem quiet_of {t : TK} (h : ∀ b ∈ binL, ¬ (t.1 = kindB b ∧ t.2.1 = b.sign)) : quiet t := by
  intro l
  unfold opK
  rw [List.find?_eq_none]
  intro x hx
  have := h x hx
  simp only [Bool.and_eq_true, decide_eq_true_eq, beq_iff_eq]
  exact fun hh => this hh.2
theorem quiet_paren : quiet (4, [41], 0) := quiet_of (by decide)
theorem quiet_then : quiet thenW1 := quiet_of (by decide)
theorem quiet_else : quiet elseW1 := quiet_of (by decide)
theorem quiet_dots : quiet (4, [46, 46], 0) := quiet_of (by decide)
theorem quiet_comma : quiet (4, [44], 0) := quiet_of (by decide)
theorem quiet_lo : quiet (4, [91], 0) := quiet_of (by decide)
theorem quiet_hi : quiet (4, [93], 0) := quiet_of (by decide)
theorem opK_sign {b : Bin} (hb : b ∈ binL) (n : Int) (l : Int) : opK (kindB b, b.sign, n) l = if b.level = l then some b else none := by
  simp only [binL, List.mem_cons, List.not_mem_nil, or_false] at hb
  rcases hb with rfl | rfl | rfl | rfl | rfl | rfl | rfl | rfl | rfl | rfl | rfl | rfl <;> simp [opK, binL, kindB, List.find?] <;> split <;> simp_all
def Rd (T : List Tok) (x : Expr) (p q lvl : Nat) : Prop := ∀ f, 8 * (q - p) + (8 - lvl) ≤ f → rdF T f none lvl p = ⟨x, q, false⟩
theorem rd_some {T : List Tok} {f : Nat} {x : Expr} {lvl q : Nat} (hf : 1 ≤ f) (h : opB T q false lvl = none) : rdF T f (some x) lvl q = ⟨x, q, false⟩ := by
  obtain ⟨f, rfl⟩ : ∃ k, f = k + 1 := ⟨f - 1, by omega⟩
  simp only [rdF, h]
theorem Rd.down {T : List Tok} {x : Expr} {p q l : Nat} (hpq : p < q) (h : Rd T x p q (l + 1)) (hl : l + 1 ≤ 7) (hs : StopT T q l) (h0 : l = 0 → isT T p 1 [105, 102] = false) (h6 : l = 6 → isT T p 4 [45] = false) : Rd T x p q l := by
  intro f hf
  obtain ⟨f, rfl⟩ : ∃ k, f = k + 1 := ⟨f - 1, by omega⟩
  by_cases hl0 : l = 0
  · subst hl0
    simp only [rdF, if_true, h0 rfl, Bool.false_eq_true, if_false]
    exact h f (by omega)
  by_cases hl6 : l = 6
  · subst hl6
    have := h (f + 1) (by omega)
    simp only [rdF] at this ⊢
    rw [if_neg (by omega), if_neg (by rw [h6 rfl]; simp), if_pos (by omega)]
    rw [if_neg (by omega), if_neg (by omega), if_pos (by omega)] at this
    exact this
  · have h1 := h f (by omega)
    simp only [rdF]
    rw [if_neg hl0, if_neg (by omega), if_neg (by omega), h1]
    dsimp only
    rw [if_neg (by simp)]
    exact rd_some (by omega) (hs l (Nat.le_refl _))
theorem Rd.descend {T : List Tok} {x : Expr} {p q b : Nat} (hpq : p < q) (h : Rd T x p q b) (hb : b ≤ 7) (h0 : b = 0 ∨ isT T p 1 [105, 102] = false) (h6 : b ≤ 6 ∨ isT T p 4 [45] = false) : ∀ lvl, lvl ≤ b → StopT T q lvl → Rd T x p q lvl := by
  intro lvl hl
  induction hn : b - lvl generalizing lvl with
  | zero => intro _; rw [show lvl = b by omega]; exact h
  | succ n ih =>
    intro hs
    refine (ih (lvl + 1) (by omega) (by omega) (hs.up (by omega))).down hpq (by omega) hs (fun e => ?_) (fun e => ?_)
    · rcases h0 with h0 | h0
      · omega
      · exact h0
    · rcases h6 with h6 | h6
      · omega
      · exact h6
theorem Rd.paren {T : List Tok} {x : Expr} {p : Nat} {ks : List TK} (hat : AtT T p ((4, [40], 0) :: (ks ++ [(4, [41], 0)]))) (h : Rd T x (p + 1) (p + 1 + ks.length) 0) : Rd T x p (p + (ks.length + 2)) 7 := by
  intro f hf
  obtain ⟨f, rfl⟩ : ∃ k, f = k + 1 := ⟨f - 1, by omega⟩
  have h1 := h f (by omega)
  have e1 : isT T p 4 [40] = true := by rw [at_isT hat]; rfl
  have hc : AtT T (p + 1 + ks.length) [(4, [41], 0)] := (AtT.app.1 hat.2).2
  have e2 : onT T (p + 1 + ks.length) false 4 [41] = true := by unfold onT; rw [at_isT hc]; rfl
  simp only [rdF]
  rw [if_neg (by omega), if_neg (by omega), if_pos (by omega)]
  unfold atomW
  rw [e1, if_pos rfl]
  dsimp only
  rw [h1]
  unfold mustR onP
  dsimp only
  rw [e2, if_pos rfl]
  simp; omega
theorem parenK_cons {n lvl : Int} (h : n < lvl) (ks : List TK) : parenK (n, ks) lvl = (4, [40], 0) :: (ks ++ [(4, [41], 0)]) := by unfold parenK; exact if_pos h
theorem parenK_same {n lvl : Int} (h : ¬ n < lvl) (ks : List TK) : parenK (n, ks) lvl = ks := by unfold parenK; exact if_neg h
structure RdAll (x : Expr) : Prop where
  pos : 1 ≤ (tokX x).length
  a : ∀ (T : List Tok) (p lvl : Nat) (i : Int), i = lvl → lvl ≤ 7 → AtT T p (wrK x i) → StopT T (p + (wrK x i).length) lvl → Rd T x p (p + (wrK x i).length) lvl
  c : ∀ (T : List Tok) (p L : Nat) (i : Int), i = L → 1 ≤ L → L ≤ 5 → L ≠ 3 → AtT T p (wrK x i) → StopT T (p + (wrK x i).length) (L + 1) → ∀ f, 8 * (wrK x i).length + (8 - L) ≤ f → ∃ f', f ≤ f' + 1 + (wrK x i).length ∧ rdF T f none L p = rdF T f' (some x) L (p + (wrK x i).length)
  f : ∀ (T : List Tok) (p lvl : Nat), 1 ≤ lvl → AtT T p (wrK x lvl) → isT T p 1 [105, 102] = false
theorem wrK_pos {x : Expr} (h : 1 ≤ (tokX x).length) (lvl : Int) : 1 ≤ (wrK x lvl).length := by unfold wrK parenK; split <;> simp; exact h
theorem RdAll.of {x : Expr} (b : Nat) (hb : b ≤ 7) (hlv : levelS x.op = b) (hpos : 1 ≤ (tokX x).length)
    (bare : ∀ (T : List Tok) (p : Nat), AtT T p (tokX x) → StopT T (p + (tokX x).length) b → Rd T x p (p + (tokX x).length) b)
    (hc : ∀ (T : List Tok) (p L : Nat), 1 ≤ L → L ≤ 5 → L ≠ 3 → b = L → AtT T p (tokX x) → StopT T (p + (tokX x).length) (L + 1) → ∀ f, 8 * (tokX x).length + (8 - L) ≤ f → ∃ f', f ≤ f' + 1 + (tokX x).length ∧ rdF T f none L p = rdF T f' (some x) L (p + (tokX x).length))
    (hif : 1 ≤ b → ∀ (T : List Tok) (p : Nat), AtT T p (tokX x) → isT T p 1 [105, 102] = false) (hneg : b = 7 → ∀ (T : List Tok) (p : Nat), AtT T p (tokX x) → isT T p 4 [45] = false) : RdAll x := by
  have a : ∀ (T : List Tok) (p lvl : Nat) (i : Int), i = lvl → lvl ≤ 7 → AtT T p (wrK x i) → StopT T (p + (wrK x i).length) lvl → Rd T x p (p + (wrK x i).length) lvl := by
    rintro T p lvl i rfl hl hat hs
    have hbase : ∀ (p lvl : Nat), lvl ≤ b → AtT T p (tokX x) → StopT T (p + (tokX x).length) lvl → Rd T x p (p + (tokX x).length) lvl := fun p lvl hlb hat hs => by
      refine (bare T p hat (hs.up hlb)).descend (by omega) hb ?_ ?_ lvl hlb hs
      · by_cases h1 : 1 ≤ b
        · exact .inr (hif h1 T p hat)
        · exact .inl (by omega)
      · by_cases h7 : b = 7
        · exact .inr (hneg h7 T p hat)
        · exact .inl (by omega)
    unfold wrK at hat hs ⊢
    rw [hlv] at hat hs ⊢
    by_cases hlb : lvl ≤ b
    · rw [parenK_same (by omega)] at hat hs ⊢
      exact hbase p lvl hlb hat hs
    · rw [parenK_cons (by omega)] at hat hs ⊢
      have hin := AtT.app.1 hat.2
      have h0 : Rd T x (p + 1) (p + 1 + (tokX x).length) 0 := hbase (p + 1) 0 (Nat.zero_le _) hin.1 (StopT.of hin.2 quiet_paren 0)
      have h7 := Rd.paren hat h0
      have hlen : ((4, [40], 0) :: (tokX x ++ [(4, [41], 0)]) : List TK).length = (tokX x).length + 2 := by simp
      rw [hlen] at hs ⊢
      exact h7.descend (by omega) (Nat.le_refl _) (.inr (by rw [at_isT hat]; decide)) (.inr (by rw [at_isT hat]; decide)) lvl hl hs
  refine ⟨hpos, a, ?_, ?_⟩
  · rintro T p L i rfl h1 h5 h3 hat hs f hf
    by_cases hbl : b = L
    · unfold wrK at hat hs hf ⊢
      rw [hlv, hbl, parenK_same (by omega)] at hat hs hf ⊢
      exact hc T p L h1 h5 h3 hbl hat hs f hf
    · have hw : wrK x (L : Int) = wrK x ((L + 1 : Nat) : Int) := by
        unfold wrK parenK
        rw [hlv]
        dsimp only
        by_cases h : (b : Int) < L
        · rw [if_pos h, if_pos (by omega)]
        · rw [if_neg h, if_neg (by omega)]
      have := a T p (L + 1) _ rfl (by omega) (hw ▸ hat) (hw ▸ hs)
      rw [← hw] at this
      obtain ⟨f, rfl⟩ : ∃ k, f = k + 1 := ⟨f - 1, by omega⟩
      have h2 := this f (by omega)
      refine ⟨f, by omega, ?_⟩
      simp only [rdF]
      rw [if_neg (by omega), if_neg (by omega), if_neg (by omega), h2]
      simp
  · intro T p lvl hl hat
    unfold wrK at hat
    rw [hlv] at hat
    by_cases hlb : (b : Int) < lvl
    · rw [parenK_cons hlb] at hat
      rw [at_isT hat]; decide
    · rw [parenK_same hlb] at hat
      exact hif (by omega) T p hat
theorem wordS_val {v : Val} (hr : rightV v = true) (h1 : v.kind ≠ 1) (h2 : v.kind ≠ 2) : tokV v = (1, (tokV v).2.1, 0) ∧ wordS (tokV v).2.1 = some v ∧ (tokV v).2.1 ≠ [105, 102] := by
  obtain ⟨k, n, s⟩ := v
  dsimp only at h1 h2
  unfold rightV at hr
  dsimp only at hr
  unfold tokV
  dsimp only
  rw [if_neg h1, if_neg h2] at hr ⊢
  by_cases h0 : k = 0
  · rw [if_pos h0] at hr
    simp only [Bool.and_eq_true, decide_eq_true_eq] at hr
    subst h0
    obtain ⟨rfl, rfl⟩ := hr
    rw [if_neg (by decide)]
    exact ⟨rfl, rfl, by decide⟩
  · rw [if_neg h0] at hr
    split at hr
    · rename_i h3
      simp only [Bool.and_eq_true, Bool.or_eq_true, decide_eq_true_eq] at hr
      obtain ⟨rfl, hr⟩ := hr
      subst h3
      rw [if_pos rfl]
      rcases hr with rfl | rfl
      · exact ⟨rfl, rfl, by decide⟩
      · exact ⟨rfl, rfl, by decide⟩
    · cases hr
theorem nameS_word {s : Str} (h : nameS s = true) : wordS s = none ∧ s ≠ [105, 102] := by
  simp only [nameS, Bool.and_eq_true, Bool.not_eq_true', reservedS] at h
  have h2 := h.2
  have hne : ∀ w ∈ reservedL, s ≠ w := fun w hw e => by subst e; rw [List.contains_iff_mem.2 hw] at h2; cases h2
  refine ⟨?_, hne _ (by decide)⟩
  unfold wordS
  rw [if_neg (hne _ (by decide)), if_neg (hne _ (by decide)), if_neg (hne _ (by decide))]
theorem rd_value {v : Val} (hr : rightV v = true) (hn : v.kind ≠ 1 ∨ 0 ≤ v.n) : RdAll (.mk 1 v [] []) := by
  have ht : tokX (.mk 1 v [] []) = [tokV v] := by simp [tokX, joinK]
  have hk : v.kind = 1 ∧ tokV v = (2, [], v.n) ∧ v = ⟨1, v.n, []⟩ ∨ v.kind = 2 ∧ tokV v = (3, v.s, 0) ∧ v = ⟨2, 0, v.s⟩ ∨ (v.kind ≠ 1 ∧ v.kind ≠ 2) := by
    obtain ⟨k, n, s⟩ := v
    unfold rightV at hr
    dsimp only at hr
    by_cases h1 : k = 1
    · subst h1
      left
      rw [if_neg (by decide), if_pos rfl] at hr
      simp only [decide_eq_true_eq] at hr
      subst hr
      exact ⟨rfl, rfl, rfl⟩
    by_cases h2 : k = 2
    · subst h2
      right; left
      rw [if_neg (by decide), if_neg (by decide), if_pos rfl] at hr
      simp only [Bool.and_eq_true, decide_eq_true_eq] at hr
      obtain ⟨rfl, _⟩ := hr
      exact ⟨rfl, rfl, rfl⟩
    · exact .inr (.inr ⟨h1, h2⟩)
  refine RdAll.of 7 (Nat.le_refl _) rfl (by rw [ht]; simp) ?_ (fun T p L h1 h5 _ e => by omega) ?_ ?_
  · intro T p hat hs f hf
    rw [ht] at hat hs hf ⊢
    obtain ⟨f, rfl⟩ : ∃ k, f = k + 1 := ⟨f - 1, by simp at hf; omega⟩
    obtain ⟨a1, a2, a3⟩ := at_kind hat
    have e1 := at_isT hat 4 [40]
    simp only [rdF]
    rw [if_neg (by omega), if_neg (by omega), if_pos (by omega)]
    unfold atomW
    rcases hk with ⟨_, k2, k3⟩ | ⟨_, k2, k3⟩ | ⟨k1, k2⟩
    · rw [k2] at a1 a2 a3 e1
      dsimp only at a1 a2 a3 e1
      rw [e1, if_neg (by simp), if_pos a1, a3, ← k3]; rfl
    · rw [k2] at a1 a2 a3 e1
      dsimp only at a1 a2 a3 e1
      rw [e1, if_neg (by simp), if_neg (by omega), if_pos a1, a2, ← k3]; rfl
    · obtain ⟨w1, w2, w3⟩ := wordS_val hr k1 k2
      rw [w1] at a1 a2 a3 e1
      dsimp only at a1 a2 a3 e1
      rw [e1, if_neg (by simp), if_neg (by omega), if_neg (by omega), if_pos a1, a2, w2]; rfl
  · intro _ T p hat
    rw [ht] at hat
    rw [at_isT hat]
    rcases hk with ⟨_, k2, k3⟩ | ⟨_, k2, k3⟩ | ⟨k1, k2⟩
    · rw [k2]; rfl
    · rw [k2]; rfl
    · have := (wordS_val hr k1 k2).2.2
      simp [this]
  · intro _ T p hat
    rw [ht] at hat
    rw [at_isT hat]
    rcases hk with ⟨_, k2, k3⟩ | ⟨_, k2, k3⟩ | ⟨k1, k2⟩
    · rw [k2]; rfl
    · rw [k2]; rfl
    · rw [(wordS_val hr k1 k2).1]; rfl
theorem rd_name {s : Str} (hs : nameS s = true) : RdAll (.mk 2 v0 s []) := by
  have ht : tokX (.mk 2 v0 s []) = [(1, s, 0)] := by simp [tokX, joinK]
  obtain ⟨n1, n2⟩ := nameS_word hs
  refine RdAll.of 7 (Nat.le_refl _) rfl (by rw [ht]; simp) ?_ (fun T p L h1 h5 _ e => by omega) ?_ ?_
  · intro T p hat _ f hf
    rw [ht] at hat hf ⊢
    obtain ⟨f, rfl⟩ : ∃ k, f = k + 1 := ⟨f - 1, by simp at hf; omega⟩
    obtain ⟨a1, a2, a3⟩ := at_kind hat
    have e1 := at_isT hat 4 [40]
    dsimp only at a1 a2 a3 e1
    simp only [rdF]
    rw [if_neg (by omega), if_neg (by omega), if_pos (by omega)]
    unfold atomW
    rw [e1, if_neg (by simp), if_neg (by omega), if_neg (by omega), if_pos a1, a2, n1]
    dsimp only
    rw [if_pos hs]; rfl
  · intro _ T p hat
    rw [ht] at hat
    rw [at_isT hat]; simp [n2]
  · intro _ T p hat
    rw [ht] at hat
    rw [at_isT hat]; rfl
theorem rd_neg {a : Expr} (ha : RdAll a) : RdAll (.mk 3 v0 [] [a]) := by
  have ht : tokX (.mk 3 v0 [] [a]) = (4, [45], 0) :: wrK a 6 := by simp [tokX, tokL, joinK, wrK]
  refine RdAll.of 6 (by omega) rfl (by rw [ht]; simp) ?_ (fun T p L h1 h5 _ e => by omega) ?_ (fun e => by omega)
  · intro T p hat hs f hf
    rw [ht] at hat hs hf ⊢
    rw [List.length_cons] at hs hf ⊢
    obtain ⟨f, rfl⟩ : ∃ k, f = k + 1 := ⟨f - 1, by omega⟩
    have e1 : isT T p 4 [45] = true := by rw [at_isT hat]; rfl
    have h1 := ha.a T (p + 1) 6 6 rfl (by omega) hat.2 (by rw [show p + 1 + (wrK a 6).length = p + ((wrK a 6).length + 1) by omega]; exact hs) f (by omega)
    simp only [rdF]
    rw [if_neg (by omega), if_pos ⟨trivial, e1⟩, h1]
    simp; omega
  · intro _ T p hat
    rw [ht] at hat
    rw [at_isT hat]; rfl
theorem rd_if {a b c : Expr} (ha : RdAll a) (hb : RdAll b) (hc : RdAll c) : RdAll (.mk 16 v0 [] [a, b, c]) := by
  have ht : tokX (.mk 16 v0 [] [a, b, c]) = ifW1 :: (wrK a 0 ++ (thenW1 :: (wrK b 0 ++ (elseW1 :: wrK c 0)))) := by simp [tokX, tokL, joinK, wrK]
  refine RdAll.of 0 (by omega) rfl (by rw [ht]; simp) ?_ (fun T p L h1 h5 _ e => by omega) (fun e => by omega) (fun e => by omega)
  intro T p hat hs f hf
  rw [ht] at hat hs hf ⊢
  simp only [List.length_cons, List.length_append] at hs hf ⊢
  obtain ⟨f, rfl⟩ : ∃ k, f = k + 1 := ⟨f - 1, by omega⟩
  have e1 : isT T p 1 [105, 102] = true := by rw [at_isT hat]; rfl
  obtain ⟨q1, q2⟩ := AtT.app.1 hat.2
  obtain ⟨q3, q4⟩ := AtT.app.1 q2.2
  have h1 := ha.a T (p + 1) 0 0 rfl (by omega) q1 (StopT.of q2 quiet_then 0) f (by omega)
  have h2 := hb.a T (p + 1 + (wrK a 0).length + 1) 0 0 rfl (by omega) q3 (StopT.of q4 quiet_else 0) f (by omega)
  have h3 := hc.a T (p + 1 + (wrK a 0).length + 1 + (wrK b 0).length + 1) 0 0 rfl (by omega) q4.2 (by rw [show p + 1 + (wrK a 0).length + 1 + (wrK b 0).length + 1 + (wrK c 0).length = p + ((wrK a 0).length + ((wrK b 0).length + ((wrK c 0).length + 1) + 1) + 1) by omega]; exact hs) f (by omega)
  have o1 : onT T (p + 1 + (wrK a 0).length) false 1 thenS = true := by unfold onT; rw [at_isT q2]; rfl
  have o2 : onT T (p + 1 + (wrK a 0).length + 1 + (wrK b 0).length) false 1 elseS = true := by unfold onT; rw [at_isT q4]; rfl
  have eA : ifA (fun l q => rdF T f none l q) T (p + 1) = ⟨a, p + 1 + (wrK a 0).length + 1, false⟩ := by
    rw [show ifA (fun l q => rdF T f none l q) T (p + 1) = mustR T (rdF T f none 0 (p + 1)) 1 thenS from rfl, h1]; unfold mustR onP; dsimp only; rw [o1]; rfl
  have eB : ifB (fun l q => rdF T f none l q) T (p + 1) = ⟨b, p + 1 + (wrK a 0).length + 1 + (wrK b 0).length + 1, false⟩ := by
    unfold ifB; rw [eA, show ∀ q, rdB (fun l q => rdF T f none l q) 0 q false = rdF T f none 0 q from fun _ => rfl, h2]; unfold mustR onP; dsimp only; rw [o2]; rfl
  have eC : ifC (fun l q => rdF T f none l q) T (p + 1) = ⟨c, p + 1 + (wrK a 0).length + 1 + (wrK b 0).length + 1 + (wrK c 0).length, false⟩ := by
    unfold ifC; rw [eB, show ∀ q, rdB (fun l q => rdF T f none l q) 0 q false = rdF T f none 0 q from fun _ => rfl, h3]
  simp only [rdF]
  rw [if_pos trivial, if_pos e1]
  unfold ifW
  rw [eA, eB, eC]
  dsimp only
  congr 1; omega
theorem rd_bin {op : Int} {a b : Expr} (o1 : 4 ≤ op) (o2 : op ≤ 15) (lv1 : 1 ≤ (findB op).level) (lv5 : (findB op).level ≤ 5) (hlev : levelS op = (findB op).level) (hop : (findB op).op = op) (hmem : findB op ∈ binL) (ha : RdAll a) (hb : RdAll b) : RdAll (.mk op v0 [] [a, b]) := by
  have ht : tokX (.mk op v0 [] [a, b]) = wrK a (if (findB op).level = 3 then 4 else (findB op).level) ++ (signT op :: wrK b ((findB op).level + 1)) := by
    simp only [tokX, tokL, joinK]
    rw [if_neg (by omega), if_neg (by omega), if_neg (by omega), if_neg (by omega)]
    rfl
  have hop2 : ∀ l, opK (signT op) l = if (findB op).level = l then some (findB op) else none := fun l => opK_sign hmem 0 l
  obtain ⟨L, hL⟩ : ∃ L : Nat, (findB op).level = L := ⟨(findB op).level.toNat, by omega⟩
  rw [hL] at ht hlev lv1 lv5
  have e1 : ((L : Int) + 1) = ((L + 1 : Nat) : Int) := by omega
  rw [e1] at ht
  have pb := wrK_pos hb.pos ((L + 1 : Nat) : Int)
  have hC : ∀ (T : List Tok) (p : Nat), L ≠ 3 → AtT T p (tokX (.mk op v0 [] [a, b])) → StopT T (p + (tokX (.mk op v0 [] [a, b])).length) (L + 1) → ∀ f, 8 * (tokX (.mk op v0 [] [a, b])).length + (8 - L) ≤ f → ∃ f', f ≤ f' + 1 + (tokX (.mk op v0 [] [a, b])).length ∧ rdF T f none L p = rdF T f' (some (.mk op v0 [] [a, b])) L (p + (tokX (.mk op v0 [] [a, b])).length) := by
    intro T p h3 hat hs f hf
    rw [if_neg (by omega)] at ht
    rw [ht] at hat hs hf ⊢
    simp only [List.length_cons, List.length_append] at hs hf ⊢
    obtain ⟨q1, q2⟩ := AtT.app.1 hat
    have pa := wrK_pos ha.pos (L : Int)
    have hst : StopT T (p + (wrK a (L : Int)).length) (L + 1) := fun l hl => by rw [at_opB q2, hop2, if_neg (by omega)]
    obtain ⟨f1, r1, r2⟩ := ha.c T p L _ rfl (by omega) (by omega) h3 q1 hst f (by omega)
    obtain ⟨f1, rfl⟩ : ∃ k, f1 = k + 1 := ⟨f1 - 1, by omega⟩
    have h2 := hb.a T (p + (wrK a (L : Int)).length + 1) (L + 1) _ rfl (by omega) q2.2 (by rw [show p + (wrK a (L : Int)).length + 1 + (wrK b ((L + 1 : Nat) : Int)).length = p + ((wrK a (L : Int)).length + ((wrK b ((L + 1 : Nat) : Int)).length + 1)) by omega]; exact hs) f1 (by omega)
    refine ⟨f1, by omega, ?_⟩
    rw [r2]
    have ho : opB T (p + (wrK a (L : Int)).length) false (L : Int) = some (findB op) := by rw [at_opB q2, hop2, if_pos hL]
    simp only [rdF, ho, h2]
    rw [if_neg (by simp; omega), hop]
    congr 1; omega
  refine RdAll.of L (by omega) hlev (by rw [ht]; simp; omega) ?_ (fun T p L' _ _ h3 e => by subst e; exact hC T p h3) ?_ (fun e => by omega)
  · intro T p hat hs f hf
    by_cases h3 : L = 3
    · rw [if_pos (by omega)] at ht
      rw [ht] at hat hs hf ⊢
      simp only [List.length_cons, List.length_append] at hs hf ⊢
      obtain ⟨q1, q2⟩ := AtT.app.1 hat
      have hst : StopT T (p + (wrK a 4).length) 4 := fun l hl => by rw [at_opB q2, hop2, if_neg (by omega)]
      obtain ⟨f, rfl⟩ : ∃ k, f = k + 1 := ⟨f - 1, by omega⟩
      obtain ⟨f, rfl⟩ : ∃ k, f = k + 1 := ⟨f - 1, by omega⟩
      have h1 := ha.a T p 4 4 rfl (by omega) q1 hst (f + 1) (by omega)
      have h2 := hb.a T (p + (wrK a 4).length + 1) (L + 1) _ rfl (by omega) q2.2 (by rw [show p + (wrK a 4).length + 1 + (wrK b ((L + 1 : Nat) : Int)).length = p + ((wrK a 4).length + ((wrK b ((L + 1 : Nat) : Int)).length + 1)) by omega]; exact hs.up (by omega)) f (by omega)
      have ho : opB T (p + (wrK a 4).length) false (L : Int) = some (findB op) := by rw [at_opB q2, hop2, if_pos hL]
      subst h3
      rw [rdF.eq_def]
      dsimp only
      rw [if_neg (by omega), if_neg (by omega), if_neg (by omega), h1]
      dsimp only
      rw [if_neg (by simp)]
      simp only [rdF, ho, h2]
      rw [if_pos (.inl trivial), hop]
      congr 1; omega
    · have hs2 := hs.up (Nat.le_succ L)
      obtain ⟨f', r1, r2⟩ := hC T p h3 hat hs2 f (by omega)
      rw [r2]
      exact rd_some (by omega) (hs L (Nat.le_refl _))
  · intro _ T p hat
    rw [ht] at hat
    obtain ⟨q1, _⟩ := AtT.app.1 hat
    by_cases h3 : L = 3
    · rw [if_pos (by omega)] at q1
      exact ha.f T p 4 (by omega) q1
    · rw [if_neg (by omega)] at q1
      exact ha.f T p L (by omega) q1
theorem rd_all (x : Expr) : rightX x = true → RdAll x := by
  induction x using Expr.ind with
  | h op v s l ih =>
    intro hr
    rcases right_parts hr with ⟨rfl, rfl, rfl, h1, h2⟩ | ⟨rfl, rfl, rfl, h1⟩ | ⟨rfl, rfl, rfl, a, rfl, ha⟩ | ⟨rfl, rfl, rfl, a, b, c, rfl, ha, hb, hc⟩ | ⟨o1, o2, rfl, rfl, lv1, lv5, hlev, hop, hmem, a, b, rfl, ha, hb⟩
    · exact rd_value h1 h2
    · exact rd_name h1
    · exact rd_neg (ih a (by simp) ha)
    · exact rd_if (ih a (by simp) ha) (ih b (by simp) hb) (ih c (by simp) hc)
    · exact rd_bin o1 o2 lv1 lv5 hlev hop hmem (ih a (by simp) ha) (ih b (by simp) hb)
theorem readT_of {T : List Tok} {x : Expr} {p lvl : Nat} (hr : rightX x = true) (hl : lvl ≤ 7) (hat : AtT T p (wrK x lvl)) (hp : p ≤ T.length) (hs : StopT T (p + (wrK x lvl).length) lvl) (hlen : p + (wrK x lvl).length ≤ T.length) : readT T p lvl = (x, ((p + (wrK x lvl).length : Nat) : Int), 0) := by
  have h := (rd_all x hr).a T p lvl _ rfl hl hat hs (8 * T.length + 9) (by omega)
  unfold readT
  rw [if_neg (by omega), Int.toNat_natCast, Int.toNat_natCast, h]
  rfl
theorem parse_text (x : Expr) (h0 : (textX x).2 = 0) (hx : okX x) : (textX x).1 = writeX x ∧ parseS (textX x).1 = (x, 0, 0) ∧ rightX x = true ∧ deepS x ≤ 12 := by
  have hr : rightX x = true := by
    cases hq : rightX x with
    | true => rfl
    | false => unfold textX at h0; rw [if_pos hq] at h0; exact absurd h0 (by decide)
  have hd : deepS x ≤ 12 := by
    apply Nat.le_of_not_lt
    intro hq
    unfold textX at h0; rw [hr, if_neg (by simp), if_pos hq] at h0; exact absurd h0 (by decide)
  have hb : (writeX x).length ≤ 200 := by
    apply Nat.le_of_not_lt
    intro hq
    unfold textX at h0; rw [hr, if_neg (by simp), if_neg (by omega), if_pos (by simp [bigX, hq])] at h0; exact absurd h0 (by decide)
  have ht : textX x = (writeX x, 0) := by
    unfold textX; rw [hr, if_neg (by simp), if_neg (by omega), if_neg (by simp [bigX]; omega)]
  refine ⟨by rw [ht], ?_, hr, hd⟩
  rw [ht]
  dsimp only
  obtain ⟨T, hT, hk⟩ := lexS_of (lx_expr x hr hx) hb
  have hw : wrK x ((0 : Nat) : Int) = tokX x := by
    have := levelS_nonneg hr
    unfold wrK; exact parenK_same (by omega) _
  have hlen : (tokX x).length = T.length := by rw [← hk]; simp
  have hat : AtT T 0 (wrK x ((0 : Nat) : Int)) := by rw [hw, ← hk]; exact AtT.map T 0 (Nat.zero_le _)
  have hrd := readT_of hr (Nat.zero_le _) hat (Nat.zero_le _) (StopT.end (by rw [hw]; omega) 0) (by rw [hw]; omega)
  rw [hw, Nat.zero_add, hlen] at hrd
  unfold parseS
  rw [hT]
  dsimp only
  simp only [Int.natCast_zero] at hrd
  rw [if_neg (by decide), hrd]
  dsimp only
  rw [if_neg (by omega), if_neg (by decide), if_neg (by omega)]
end Go.Proofs.YthkhdedadacakaaGreatDoor
