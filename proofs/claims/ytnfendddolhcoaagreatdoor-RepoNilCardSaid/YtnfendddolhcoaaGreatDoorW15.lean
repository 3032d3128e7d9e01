/- Part of a proof: see Root. -/
import Derived.Test.YtnfendddolhcoaaGreatDoorW14
set_option linter.unnecessarySimpa false
set_option linter.unusedSectionVars false
set_option linter.unusedSimpArgs false
set_option linter.unusedVariables false
namespace Go.AM
variable {P : Program}
mutual
def AV.pur : AV → Bool
  | .own .. | .ref .. | .vref .. | .mp _ | .yld _ | .asl .. => false
  | .agg cs => AV.purL cs
  | .tup cs => AV.purL cs
  | .lst _ _ xs => AV.purL xs
  | .eref _ x _ => AV.pur x
  | .fn _ a b => AV.purL a && AV.purL b
  | .ifc _ v => AV.pur v
  | .undef | .bool _ | .int .. | .str _ | .nils | .nilp | .nilf | .nili | .nilm | .opq => true
def AV.purL : List AV → Bool
  | [] => true
  | a :: az => AV.pur a && AV.purL az
end
theorem purL_iff {l : List AV} : AV.purL l = true ↔ ∀ a ∈ l, a.pur = true := by
  induction l with
  | nil => simp [AV.purL]
  | cons a l ih => simp [AV.purL, ih]
theorem purL_getD {l : List AV} (h : AV.purL l = true) (i : Nat) : (l.getD i .undef).pur = true := by
  rw [List.getD_eq_getElem?_getD]
  by_cases hi : i < l.length
  · rw [List.getElem?_eq_getElem hi]; exact purL_iff.1 h _ (List.getElem_mem hi)
  · rw [List.getElem?_eq_none (Nat.le_of_not_lt hi)]; rfl
theorem purL_map {α : Type} (f : α → AV) (l : List α) (h : ∀ a, (f a).pur = true) : AV.purL (l.map f) = true := by
  rw [purL_iff]; intro a ha; obtain ⟨x, _, rfl⟩ := List.mem_map.1 ha; exact h x
theorem cell_pur {a : AV} (h : a.pur = true) (c : Nat) : (a.cell c).pur = true := by
  cases a <;> first | exact h | exact purL_getD h c
theorem VR.pur {g g' : Ghost} {w w' : World} (hi : ∀ b, g.imm b → g'.imm b ∧ w'.heap[b]? = w.heap[b]?) {a : AV} {v : Value} (h : VR g w a v) : a.pur = true → VR g' w' a v := by
  induction h with
  | undef v => exact fun _ => .undef v
  | bool b => exact fun _ => .bool b
  | int k n => exact fun _ => .int k n
  | str s => exact fun _ => .str s
  | agg cs vs hl hs _ ih => exact fun hp => .agg cs vs hl hs (fun i h => ih i h (purL_getD hp i))
  | tup cs vs hl _ ih => exact fun hp => .tup cs vs hl (fun i h => ih i h (purL_getD hp i))
  | nils => exact fun _ => .nils
  | lstE f el b cap hf => exact fun _ => .lstE f el b cap hf
  | lst f el xs b off cap hb hf hx ft hc _ ih =>
    intro hp
    obtain ⟨hi', he⟩ := hi b hb
    refine .lst f el xs b off cap hi' hf hx ft (fun i c h1 h2 => ?_) (fun i c h1 h2 => ?_)
    · rw [cell?_of_heap he]; exact hc i c h1 h2
    · rw [cellD_of_heap he]; exact ih i c h1 h2 (cell_pur (purL_getD hp i) c)
  | own el l m lo n v h => exact fun hp => by cases hp
  | ref l off v h => exact fun hp => by cases hp
  | eref el x off b o hb ft hc _ ih =>
    intro hp
    obtain ⟨hi', he⟩ := hi b hb
    refine .eref el x off b o hi' ft (fun c h2 => ?_) (fun c h2 => ?_)
    · rw [cell?_of_heap he]; exact hc c h2
    · rw [cellD_of_heap he]; exact ih c h2 (cell_pur (a := x) hp c)
  | vref el l m i off v h => exact fun hp => by cases hp
  | nilp => exact fun _ => .nilp
  | nilf => exact fun _ => .nilf
  | nili => exact fun _ => .nili
  | fn f first cap first' cap' hl hl' _ _ ih ih' =>
    intro hp
    simp only [AV.pur, Bool.and_eq_true] at hp
    exact .fn f first cap first' cap' hl hl' (fun i h => ih i h (purL_getD hp.1 i)) (fun i h => ih' i h (purL_getD hp.2 i))
  | ifc t a v _ ih => exact fun hp => .ifc t a v (ih hp)
  | nilm => exact fun _ => .nilm
  | opq v h => exact fun _ => .opq v h
  | mp l v h => exact fun hp => by cases hp
  | yld l v h => exact fun hp => by cases hp
  | asl el l off n v h => exact fun hp => by cases hp
mutual
def AV.flat : AV → Bool
  | .agg cs => AV.flatL cs
  | .tup cs => AV.flatL cs
  | .undef | .bool _ | .int .. | .str _ | .nils | .nilp | .nilf | .nili | .nilm | .opq => true
  | .lst _ _ [] => true
  | .ifc _ a => AV.flat a
  | _ => false
def AV.flatL : List AV → Bool
  | [] => true
  | a :: az => AV.flat a && AV.flatL az
end
theorem flatL_getD {l : List AV} (h : AV.flatL l = true) (i : Nat) : (l.getD i .undef).flat = true := by
  induction l generalizing i with
  | nil => simp [AV.flat]
  | cons a l ih =>
    simp only [AV.flatL, Bool.and_eq_true] at h
    cases i with
    | zero => simpa using h.1
    | succ i => simpa using ih h.2 i
theorem VR.flat {g g' : Ghost} {w w' : World} {a : AV} {v : Value} (h : VR g w a v) : a.flat = true → VR g' w' a v := by
  induction h with
  | undef v => exact fun _ => .undef v
  | bool b => exact fun _ => .bool b
  | int k n => exact fun _ => .int k n
  | str s => exact fun _ => .str s
  | agg cs vs hl hs _ ih => exact fun hp => .agg cs vs hl hs (fun i h => ih i h (flatL_getD hp i))
  | tup cs vs hl _ ih => exact fun hp => .tup cs vs hl (fun i h => ih i h (flatL_getD hp i))
  | nils => exact fun _ => .nils
  | lstE f el b cap hf => exact fun _ => .lstE f el b cap hf
  | lst f el xs b off cap hb hf hx ft hc _ ih =>
    intro hp
    cases xs with
    | nil => exact .lstE f el _ cap hf
    | cons x xs => simp [AV.flat] at hp
  | nilp => exact fun _ => .nilp
  | nilf => exact fun _ => .nilf
  | nili => exact fun _ => .nili
  | nilm => exact fun _ => .nilm
  | opq v h => exact fun _ => .opq v h
  | ifc t a v _ ih => exact fun hp => .ifc t a v (ih hp)
  | own | ref | eref | vref | fn | mp | yld | asl => exact fun hp => by simp [AV.flat] at hp
inductive View (σ : Store) : AV → AV → Prop where
  | refl (a : AV) (h : a.pur = true) : View σ a a
  | nils (el : El) : View σ .nils (.lst false el [])
  | weak (f : Bool) (el : El) (xs : List AV) (h : AV.purL xs = true) : View σ (.lst f el xs) (.lst false el xs)
  | lst (f : Bool) (el : El) (xs ys : List AV) (hl : xs.length = ys.length) (h : ∀ i, i < xs.length → View σ (xs.getD i .undef) (ys.getD i .undef)) : View σ (.lst f el xs) (.lst false el ys)
  | own (T : Option TypeId) (el : El) (l lo n : Nat) (xs ys : List AV) (hl : σ[l]? = some (.vecT T el xs)) (hy : ys.length = n) (hn : lo + n ≤ xs.length)
      (h : ∀ i, i < n → View σ (xs.getD (lo + i) .undef) (ys.getD i .undef)) : View σ (.own el l xs.length lo n) (.lst false el ys)
  | agg (cs ds : List AV) (hl : cs.length = ds.length) (h : ∀ i, i < cs.length → View σ (cs.getD i .undef) (ds.getD i .undef)) : View σ (.agg cs) (.agg ds)
  | tup (cs ds : List AV) (hl : cs.length = ds.length) (h : ∀ i, i < cs.length → View σ (cs.getD i .undef) (ds.getD i .undef)) : View σ (.tup cs) (.tup ds)
  | cell (l : Nat) (v : AV) (hl : σ[l]? = some (.cells [v])) (hs : v.fits ⟨false, 1⟩ = true) (hp : v.pur = true) : View σ (.ref l 0) (.eref ⟨false, 1⟩ v 0)
  | cells (l n : Nat) (cs : List AV) (hl : σ[l]? = some (.cells cs)) (hn : cs.length = n) (hp : AV.purL cs = true) : View σ (.ref l 0) (.eref ⟨true, n⟩ (.agg cs) 0)
  | opq (a : AV) (l : Nat) (o : AObj) (hl : σ[l]? = some o) (ho : o.live = true) (h : a.scalar = true) : View σ a .opq
  | cellsV (l n : Nat) (cs ds : List AV) (hl : σ[l]? = some (.cells cs)) (hn : cs.length = n) (hd : cs.length = ds.length) (h : ∀ i, i < cs.length → View σ (cs.getD i .undef) (ds.getD i .undef)) : View σ (.ref l 0) (.eref ⟨true, n⟩ (.agg ds) 0)
  | fn (f : Fn) (az bs cs ds : List AV) (hl : az.length = bs.length) (h : ∀ i, i < az.length → View σ (az.getD i .undef) (bs.getD i .undef))
      (hl' : cs.length = ds.length) (h' : ∀ i, i < cs.length → View σ (cs.getD i .undef) (ds.getD i .undef)) : View σ (.fn f az cs) (.fn f bs ds)
def ViewL (σ : Store) (cs ds : List AV) : Prop := cs.length = ds.length ∧ ∀ i, i < cs.length → View σ (cs.getD i .undef) (ds.getD i .undef)
theorem ViewL.nil (σ : Store) : ViewL σ [] [] := ⟨rfl, fun _ h => absurd h (Nat.not_lt_zero _)⟩
theorem ViewL.cons {σ : Store} {a b : AV} {cs ds : List AV} (h : View σ a b) (hs : ViewL σ cs ds) : ViewL σ (a :: cs) (b :: ds) :=
  ⟨by simp [hs.1], fun i hi => by
    cases i with
    | zero => simpa using h
    | succ i => simpa using hs.2 i (by simpa using hi)⟩
theorem ViewL.refl {σ : Store} {cs : List AV} (h : AV.purL cs = true) : ViewL σ cs cs := ⟨rfl, fun i _ => .refl _ (purL_getD h i)⟩
theorem View.agg' {σ : Store} {cs ds : List AV} (h : ViewL σ cs ds) : View σ (.agg cs) (.agg ds) := .agg cs ds h.1 h.2
theorem View.tup' {σ : Store} {cs ds : List AV} (h : ViewL σ cs ds) : View σ (.tup cs) (.tup ds) := .tup cs ds h.1 h.2
theorem View.lstL {σ : Store} {f : Bool} {el : El} {xs ys : List AV} (h : ViewL σ xs ys) : View σ (.lst f el xs) (.lst false el ys) := .lst f el xs ys h.1 h.2
theorem View.vec {σ : Store} {T : Option TypeId} {el : El} {l m n : Nat} {xs : List AV} (hl : σ[l]? = some (.vecT T el xs)) (hm : m = xs.length) (hn : n = xs.length) (h : AV.purL xs = true) : View σ (.own el l m 0 n) (.lst false el xs) := by
  subst hm; subst hn
  exact .own T el l 0 xs.length xs xs hl rfl (by omega) (fun i _ => by rw [Nat.zero_add]; exact .refl _ (purL_getD h i))
theorem View.scalar {σ : Store} {a b : AV} (h : View σ a b) : b.scalar = a.scalar := by
  cases h <;> first | rfl | skip
  case opq => rename_i h; exact h.symm
theorem View.fits {σ : Store} {a b : AV} (h : View σ a b) (el : El) (hf : a.fits el = true) : b.fits el = true := by
  cases h with
  | agg cs ds hl h =>
    simp only [AV.fits, Bool.and_eq_true, List.all_eq_true, beq_iff_eq] at hf ⊢
    refine ⟨⟨hf.1.1, by rw [← hl]; exact hf.1.2⟩, fun x hx => ?_⟩
    obtain ⟨i, hi, rfl⟩ := List.getElem_of_mem hx
    have h1 := (h i (by omega)).scalar
    rw [List.getD_eq_getElem?_getD, List.getD_eq_getElem?_getD, List.getElem?_eq_getElem hi, List.getElem?_eq_getElem (by omega : i < cs.length)] at h1
    rw [Option.getD_some, Option.getD_some] at h1
    rw [h1]; exact hf.2 _ (List.getElem_mem _)
  | refl => exact hf
  | nils => exact hf
  | weak => exact hf
  | lst => exact hf
  | own => exact hf
  | tup => exact hf
  | cell => exact hf
  | cells => exact hf
  | cellsV => exact hf
  | opq _ l o hl ho h => cases a <;> first | exact hf | (simp [AV.scalar] at h; done)
  | fn => exact hf
theorem View.mono {σ σ' : Store} (hs : ∀ (l : Nat) o, σ[l]? = some o → σ'[l]? = some o) {a b : AV} (h : View σ a b) : View σ' a b := by
  induction h with
  | refl a h => exact .refl a h
  | nils el => exact .nils el
  | weak f el xs h => exact .weak f el xs h
  | lst f el xs ys hl _ ih => exact .lst f el xs ys hl ih
  | own T el l lo n xs ys hl hy hn _ ih => exact .own T el l lo n xs ys (hs _ _ hl) hy hn ih
  | agg cs ds hl _ ih => exact .agg cs ds hl ih
  | tup cs ds hl _ ih => exact .tup cs ds hl ih
  | cell l v hl h hp => exact .cell l v (hs _ _ hl) h hp
  | cells l n cs hl hn hp => exact .cells l n cs (hs _ _ hl) hn hp
  | cellsV l n cs ds hl hn hd h ih => exact .cellsV l n cs ds (hs _ _ hl) hn hd ih
  | opq a l o hl ho h => exact .opq a l o (hs _ _ hl) ho h
  | fn f az bs cs ds hl _ hl' _ ih ih' => exact .fn f az bs cs ds hl ih hl' ih'
theorem cells_vr {g g' : Ghost} {w : World} {σ : Store} {x y : AV} {el : El} (ih : ∀ u, VR g w x u → VR g' w y u) (h : View σ x y) (hf : x.fits el = true) (u : Nat → Value)
    (hu : ∀ k, k < el.sz → VR g w (x.cell k) (u k)) (c : Nat) (hc : c < el.sz) : VR g' w (y.cell c) (u c) := by
  by_cases hx : ∃ cs, x = .agg cs
  · obtain ⟨cs, rfl⟩ := hx
    simp only [AV.fits, Bool.and_eq_true, beq_iff_eq] at hf
    have h1 : VR g w (.agg cs) (.agg (Array.ofFn fun i : Fin cs.length => u i)) := by
      refine .agg cs _ (by simp) hf.2 (fun i hi => ?_)
      have := hu i (by omega)
      simpa [hi, AV.cell] using this
    have h2 := ih _ h1
    generalize hq : y = q at h2
    have : ∃ ds, q = .agg ds := by
      subst hq
      cases h with
      | refl => exact ⟨_, rfl⟩
      | agg _ ds => exact ⟨ds, rfl⟩
      | opq _ _ _ _ _ h => simp [AV.scalar] at h
    obtain ⟨ds, rfl⟩ := this
    cases h2 with
    | agg _ vs hl hs hh =>
      simp only [Array.size_ofFn] at hl
      have := hh c (by omega)
      have hcl : c < cs.length := by omega
      simpa [hcl, AV.cell] using this
  · have e1 : x.cell c = x := by cases x <;> first | rfl | exact absurd ⟨_, rfl⟩ hx
    have e2 : y.cell c = y := by
      cases h <;> first | rfl | (exact absurd ⟨_, rfl⟩ hx) | exact e1
    rw [e2]
    have := hu c hc
    rw [e1] at this
    exact ih _ this
theorem View.vr {g g' : Ghost} {w : World} {σ : Store} (hR : Rel g w σ) (hi : ∀ b, g.imm b → g'.imm b) (ht : ∀ b, Tracked σ g b → g'.imm b) {a b : AV} (hv : View σ a b) :
    ∀ {v : Value}, VR g w a v → VR g' w b v := by
  have hi2 : ∀ b, g.imm b → g'.imm b ∧ w.heap[b]? = w.heap[b]? := fun b hb => ⟨hi b hb, rfl⟩
  induction hv with
  | refl a h => exact fun hr => hr.pur hi2 h
  | nils el => intro v hr; cases hr; exact .lstE false el none 0 (fun h => by cases h)
  | weak f el xs h =>
    intro v hr
    cases hr with
    | lstE f el b cap hf => exact .lstE false el b cap (fun h => by cases h)
    | lst f el xs b off cap hb hf hx ft hc hh =>
      exact .lst false el xs b off cap (hi b hb) (fun h => by cases h) hx ft hc (fun i c h1 h2 => (hh i c h1 h2).pur hi2 (cell_pur (purL_getD h i) c))
  | lst f el xs ys hl h ih =>
    intro v hr
    cases hr with
    | lstE f el b cap hf =>
      have : ys = [] := List.length_eq_zero_iff.1 hl.symm
      subst this
      exact .lstE false el b cap (fun h => by cases h)
    | lst f el xs b off cap hb hf hx ft hc hh =>
      rw [hl]
      refine .lst false el ys b off cap (hi b hb) (fun h => by cases h) (hl ▸ hx) (fun i h1 => (h i (hl ▸ h1)).fits el (ft i (hl ▸ h1))) (fun i c h1 h2 => hc i c (hl ▸ h1) h2) (fun i c h1 h2 => ?_)
      exact cells_vr (fun u => ih i (hl ▸ h1)) (h i (hl ▸ h1)) (ft i (hl ▸ h1)) (fun k => cellD w ⟨b, off + (i * el.sz + k), none⟩) (fun k hk => hh i k (hl ▸ h1) hk) c h2
  | own T el l lo n xs ys hl hy hn h ih =>
    intro v hr
    cases hr with
    | own _ _ _ _ _ _ hO =>
      obtain ⟨_, _, A, cap, rfl, h4⟩ := hO
      obtain ⟨hv0, hf0, hrow⟩ := hR.ok l _ hl
      by_cases hn0 : n = 0
      · subst hn0
        have : ys = [] := List.length_eq_zero_iff.1 hy
        subst this
        exact .lstE false el A cap (fun h => by cases h)
      rcases hrow with ⟨hx, _, _⟩ | ⟨b, vs, hb, hrow, hsz, hle, hc, _⟩
      · subst hx; simp at hn; omega
      obtain ⟨_, h6, h7⟩ := h4 hv0.symm
      have hlt : lo < g.cap l := by omega
      have hA := h7 hlt
      rw [hb] at hA
      simp only [Option.map_some] at hA
      subst hA
      have hidx : ∀ i c, i < n → c < el.sz → g.off l + (lo + i) * el.sz + c < vs.size := fun i c h1 h2 => by
        rw [hsz]
        have : (lo + i) * el.sz + el.sz ≤ g.cap l * el.sz := by rw [← Nat.succ_mul]; exact Nat.mul_le_mul_right _ (by omega)
        omega
      have hoff : ∀ i c, g.off l + lo * el.sz + (i * el.sz + c) = g.off l + (lo + i) * el.sz + c := fun i c => by rw [Nat.add_mul]; omega
      subst hy
      refine .lst false el ys b (g.off l + lo * el.sz) cap (ht b ⟨l, ⟨_, hl, rfl⟩, hb⟩) (fun h => by cases h) (by omega) (fun i h1 => ?_) (fun i c h1 h2 => ?_) (fun i c h1 h2 => ?_)
      · exact (h i h1).fits el (hf0 (lo + i) (by omega))
      · rw [hoff, hrow.cell (hidx i c h1 h2)]; rfl
      · rw [hoff]
        have e1 : cellD w ⟨b, g.off l + (lo + i) * el.sz + c, none⟩ = vs.getD (g.off l + (lo + i) * el.sz + c) Go.undef := by
          simp only [cellD, hrow.cell (hidx i c h1 h2), Option.getD_some]
        rw [e1]
        exact cells_vr (fun u => ih i h1) (h i h1) (hf0 (lo + i) (by omega)) (fun k => vs.getD (g.off l + (lo + i) * el.sz + k) Go.undef) (fun k hk => hc (lo + i) k (by omega) hk) c h2
  | agg cs ds hl h ih =>
    intro v hr
    cases hr with
    | agg _ vs hl' hs hh =>
      refine .agg ds vs (by omega) ?_ (fun i h1 => ih i (by omega) (hh i (by omega)))
      rw [List.all_eq_true] at hs ⊢
      intro x hx
      obtain ⟨i, hi', rfl⟩ := List.getElem_of_mem hx
      have h1 := (h i (by omega)).scalar
      rw [List.getD_eq_getElem?_getD, List.getD_eq_getElem?_getD, List.getElem?_eq_getElem hi', List.getElem?_eq_getElem (by omega : i < cs.length)] at h1
      rw [Option.getD_some, Option.getD_some] at h1
      rw [h1]; exact hs _ (List.getElem_mem _)
  | tup cs ds hl h ih =>
    intro v hr
    cases hr with
    | tup _ vs hl' hh => exact .tup ds vs (by omega) (fun i h1 => ih i (by omega) (hh i (by omega)))
  | cell l x hl hs hp =>
    intro v hr
    cases hr with
    | ref _ _ _ hO =>
      obtain ⟨_, A, rfl, h2⟩ := hO
      obtain ⟨hv0, _, b, vs, hb, hrow, hsz, hc, _⟩ := hR.ok l _ hl
      obtain ⟨h3, h4⟩ := h2 hv0
      rw [hb] at h3; cases h3
      rw [h4]
      have h5 : (0 : Nat) < vs.size := by simpa using Nat.lt_of_lt_of_eq Nat.zero_lt_one hsz.symm
      have hcell := hrow.cell h5
      have hx := hc 0 (by simp)
      simp only [List.getD_cons_zero] at hx
      refine .eref ⟨false, 1⟩ x 0 A.block 0 (ht _ ⟨l, ⟨_, hl, rfl⟩, hb⟩) hs (fun c h1 => ?_) (fun c h1 => ?_)
      · have : c = 0 := by have : c < 1 := h1; omega
        subst this; rw [Nat.zero_add, hcell]; rfl
      · have : c = 0 := by have : c < 1 := h1; omega
        subst this
        have e1 : x.cell 0 = x := by cases x <;> first | rfl | simp [AV.fits] at hs
        simp only [Nat.zero_add, cellD, hcell, Option.getD_some, e1]
        exact hx.pur hi2 hp
  | cells l n cs hl hn hp =>
    intro v hr
    cases hr with
    | ref _ _ _ hO =>
      obtain ⟨_, A, rfl, h2⟩ := hO
      obtain ⟨hv0, hsc, b, vs, hb, hrow, hsz, hc, _⟩ := hR.ok l _ hl
      obtain ⟨h3, h4⟩ := h2 hv0
      rw [hb] at h3; cases h3
      rw [h4]
      refine .eref ⟨true, n⟩ (.agg cs) 0 A.block 0 (ht _ ⟨l, ⟨_, hl, rfl⟩, hb⟩) (by simp [AV.fits, hn]; simpa using hsc) (fun c h1 => ?_) (fun c h1 => ?_)
      · have h1 : c < n := h1
        rw [Nat.zero_add, hrow.cell (by omega)]; rfl
      · have h1 : c < n := h1
        simp only [Nat.zero_add, cellD, hrow.cell (show c < vs.size by omega), Option.getD_some]
        exact (hc c (by omega)).pur hi2 (purL_getD hp c)
  | opq a l o hl ho h => intro v hr; exact .opq v (hr.oneCell h)
  | cellsV l n cs ds hl hn hd h ih =>
    intro v hr
    cases hr with
    | ref _ _ _ hO =>
      obtain ⟨_, A, rfl, h2⟩ := hO
      obtain ⟨hv0, hsc, b, vs, hb, hrow, hsz, hc, _⟩ := hR.ok l _ hl
      obtain ⟨h3, h4⟩ := h2 hv0
      rw [hb] at h3; cases h3
      rw [h4]
      refine .eref ⟨true, n⟩ (.agg ds) 0 A.block 0 (ht _ ⟨l, ⟨_, hl, rfl⟩, hb⟩) ?_ (fun c h1 => ?_) (fun c h1 => ?_)
      · simp only [AV.fits, Bool.true_and, Bool.and_eq_true, beq_iff_eq]
        refine ⟨by omega, List.all_eq_true.2 fun x hx => ?_⟩
        obtain ⟨i, hi, rfl⟩ := List.getElem_of_mem hx
        have := (h i (by omega)).scalar
        rw [List.getD_eq_getElem?_getD, List.getD_eq_getElem?_getD, List.getElem?_eq_getElem hi, List.getElem?_eq_getElem (by omega : i < cs.length)] at this
        rw [Option.getD_some, Option.getD_some] at this
        rw [this]; exact List.all_eq_true.1 hsc _ (List.getElem_mem _)
      · have h1 : c < n := h1
        rw [Nat.zero_add, hrow.cell (by omega)]; rfl
      · have h1 : c < n := h1
        simp only [Nat.zero_add, cellD, hrow.cell (show c < vs.size by omega), Option.getD_some]
        exact ih c (by omega) (hc c (by omega))
  | fn f az bs cs ds hl h hl' h' ih ih' =>
    intro v hr
    cases hr with
    | fn _ _ _ first' cap' k1 k2 k3 k4 => exact .fn f bs ds first' cap' (by omega) (by omega) (fun i h1 => ih i (by omega) (k3 i (by omega))) (fun i h1 => ih' i (by omega) (k4 i (by omega)))
def CallF (P : Program) (f : FuncId) (args : List AV) (r : AV) : Prop := ∀ σ, CallQ P f args σ r
theorem not_tracked_nil {g : Ghost} {b : Nat} : ¬ Tracked [] g b := fun ⟨_, ⟨_, h, _⟩, _⟩ => by simp at h
def Ghost.addNew (g : Ghost) (lo hi : Nat) : Ghost := { g with imm := fun b => g.imm b ∨ (lo ≤ b ∧ b < hi) }
theorem Rel.addNew {g : Ghost} {w w' : World} {σ : Store} (h : Rel g w σ) (hsz : w.heap.size ≤ w'.heap.size) (hos : w'.os = w.os) (htape : w'.tape = w.tape) (hout : w'.output = w.output)
    (hf : ∀ b, b < w.heap.size → w'.heap[b]? = w.heap[b]?) : Rel (g.addNew w.heap.size w'.heap.size) w' σ ∧ Evo σ g w σ (g.addNew w.heap.size w'.heap.size) w' := by
  have hm : Mono g w (g.addNew w.heap.size w'.heap.size) w' := ⟨fun b hb => ⟨.inl hb, hf b (h.lt b hb)⟩, Nat.le_refl _, fun _ _ => ⟨Nat.le_refl _, fun _ => ⟨rfl, rfl, rfl⟩⟩⟩
  refine ⟨⟨h.len, fun b hb => ?_, fun l o ho => ?_, h.inj, fun l b hl hb hi => ?_, h.glob.mono hm.imm⟩, ⟨hm, hsz, hos, htape, hout, fun b hb _ => hf b hb, fun b hb hi => ?_, fun b _ ht => ht⟩⟩
  · rcases hb with hb | hb
    · exact Nat.lt_of_lt_of_le (h.lt b hb) hsz
    · exact hb.2
  · have hl : l < g.n := by rw [← h.len]; exact (List.getElem?_eq_some_iff.1 ho).1
    by_cases hv : o.live = true
    · exact (h.ok l o ho).step hm hl rfl (fun b hb => hf b (h.base_lt ⟨o, ho, hv⟩ hb))
    · cases o <;> simp [AObj.live] at hv
      trivial
  · rcases hi with hi | hi
    · exact h.dis l b hl hb hi
    · have := h.base_lt hl hb; omega
  · rcases hi with hi | hi
    · exact .inl hi
    · omega
def Ghost.bare (I : Nat → Prop) : Ghost := ⟨I, 0, fun _ => 0, fun _ => none, fun _ => 0, fun _ => 0⟩
theorem Rel.bare {I : Nat → Prop} {w : World} (h : ∀ b, I b → b < w.heap.size) (hg : GlobR (Ghost.bare I) w) : Rel (Ghost.bare I) w [] :=
  ⟨rfl, h, fun _ _ h => by simp at h, fun _ _ _ ⟨_, h, _⟩ => by simp at h, fun _ _ ⟨_, h, _⟩ => by simp at h, hg⟩
theorem CallF.of_nil {f : FuncId} {args : List AV} {r : AV} (h : CallA P f args [] fun o σ' => ∃ r0, o = .ret r0 ∧ View σ' r0 r) (hp : AV.purL args = true) : CallF P f args r := by
  intro σ
  refine ⟨h.1, fun g w vs hR hlen hv => ?_⟩
  refine (h.2 (Ghost.bare g.imm) w vs (Rel.bare hR.lt ⟨hR.glob.1, hR.glob.2⟩) hlen (fun i hi => VR.pur (g := g) (g' := Ghost.bare g.imm) (fun b hb => ⟨hb, rfl⟩) (hv i hi) (purL_getD hp i))).mono ?_
  rintro e w' ⟨out, g', σ', hR', hE, hO, r0, rfl, hview⟩
  have hfr : ∀ b, b < w.heap.size → w'.heap[b]? = w.heap[b]? := fun b hb => hE.frame b hb not_tracked_nil
  obtain ⟨h1, h2⟩ := hR.addNew hE.size hE.os hE.tape hE.output hfr
  refine ⟨.ret r, _, σ, h1, h2, ?_, rfl, rfl⟩
  cases e with
  | returned v =>
    refine hview.vr hR' (fun b hb => ?_) (fun b hb => ?_) hO
    · by_cases hlt : b < w.heap.size
      · rcases hE.immold b hlt hb with h3 | h3
        · exact .inl h3
        · exact absurd h3 not_tracked_nil
      · exact .inr ⟨by omega, hR'.lt b hb⟩
    · by_cases hlt : b < w.heap.size
      · exact absurd (hE.trk b hlt hb) not_tracked_nil
      · exact .inr ⟨by omega, hR'.tracked_lt hb⟩
  | panicked c => exact hO.elim
  | outgrown => exact hO.elim
theorem CallF.view {f : FuncId} {args args' : List AV} {r : AV} {σ : Store} (h : CallF P f args' r) (hv : ViewL σ args args') (hr : r.flat = true) : CallQ P f args σ r := by
  refine ⟨(h []).1, fun g w vs hR hlen hvs => ?_⟩
  let I : Nat → Prop := fun b => g.imm b ∨ Tracked σ g b
  have hlt : ∀ b, I b → b < w.heap.size := fun b hb => by
    rcases hb with hb | hb
    · exact hR.lt b hb
    · exact hR.tracked_lt hb
  refine ((h []).2 (Ghost.bare I) w vs (Rel.bare hlt ⟨fun b hb => .inl (hR.glob.1 b hb), hR.glob.2⟩) (hv.1 ▸ hlen) (fun i hi => ?_)).mono ?_
  · exact (hv.2 i (hv.1 ▸ hi)).vr (g' := Ghost.bare I) hR (fun b hb => .inl hb) (fun b hb => .inr hb) (hvs i (hv.1 ▸ hi))
  rintro e w' ⟨out, g', σ', hR', hE, hO, rfl, rfl⟩
  have hfr : ∀ b, b < w.heap.size → w'.heap[b]? = w.heap[b]? := fun b hb => hE.frame b hb not_tracked_nil
  obtain ⟨h1, h2⟩ := hR.addNew hE.size hE.os hE.tape hE.output hfr
  refine ⟨.ret r, _, σ, h1, h2, ?_, rfl, rfl⟩
  cases e with
  | returned v => exact VR.flat (a := r) hO hr
  | panicked c => exact hO.elim
  | outgrown => exact hO.elim
inductive FView (σ : Store) : AV → AV → Prop where
  | flat (a : AV) (h : a.flat = true) : FView σ a a
  | own (T : Option TypeId) (el : El) (l lo n : Nat) (xs ys : List AV) (hl : σ[l]? = some (.vecT T el xs)) (hy : ys.length = n) (hn : lo + n ≤ xs.length)
      (h : ∀ i, i < n → FView σ (xs.getD (lo + i) .undef) (ys.getD i .undef)) : FView σ (.own el l xs.length lo n) (.lst false el ys)
  | agg (cs ds : List AV) (hl : cs.length = ds.length) (h : ∀ i, i < cs.length → FView σ (cs.getD i .undef) (ds.getD i .undef)) : FView σ (.agg cs) (.agg ds)
  | tup (cs ds : List AV) (hl : cs.length = ds.length) (h : ∀ i, i < cs.length → FView σ (cs.getD i .undef) (ds.getD i .undef)) : FView σ (.tup cs) (.tup ds)
mutual
theorem AV.pur_flat : ∀ (a : AV), a.flat = true → a.pur = true
  | .agg cs, h => AV.purL_flat cs h
  | .tup cs, h => AV.purL_flat cs h
  | .undef, _ | .bool _, _ | .int .., _ | .str _, _ | .nils, _ | .nilp, _ | .nilf, _ | .nili, _ | .nilm, _ | .opq, _ => rfl
  | .lst _ _ [], _ => rfl
  | .ifc _ a, h => AV.pur_flat a h
  | .lst _ _ (_ :: _), h | .own .., h | .ref .., h | .eref .., h | .vref .., h | .fn .., h | .mp _, h | .yld _, h | .asl .., h => by simp [AV.flat] at h
theorem AV.purL_flat : ∀ (l : List AV), AV.flatL l = true → AV.purL l = true
  | [], _ => rfl
  | a :: l, h => by
    simp only [AV.flatL, Bool.and_eq_true] at h
    simp only [AV.purL, Bool.and_eq_true]
    exact ⟨AV.pur_flat a h.1, AV.purL_flat l h.2⟩
end
theorem FView.view {σ : Store} {a b : AV} (h : FView σ a b) : View σ a b := by
  induction h with
  | flat a h => exact .refl a (AV.pur_flat a h)
  | own T el l lo n xs ys hl hy hn _ ih => exact .own T el l lo n xs ys hl hy hn ih
  | agg cs ds hl _ ih => exact .agg cs ds hl ih
  | tup cs ds hl _ ih => exact .tup cs ds hl ih
theorem FView.vr {g g' : Ghost} {w : World} {σ : Store} (hR : Rel g w σ) (ht : ∀ b, Tracked σ g b → g'.imm b) {a b : AV} (hv : FView σ a b) : ∀ {v : Value}, VR g w a v → VR g' w b v := by
  induction hv with
  | flat a h => exact fun hr => hr.flat h
  | own T el l lo n xs ys hl hy hn h ih =>
    intro v hr
    cases hr with
    | own _ _ _ _ _ _ hO =>
      obtain ⟨_, _, A, cap, rfl, h4⟩ := hO
      obtain ⟨hv0, hf0, hrow⟩ := hR.ok l _ hl
      by_cases hn0 : n = 0
      · subst hn0
        have : ys = [] := List.length_eq_zero_iff.1 hy
        subst this
        exact .lstE false el A cap (fun h => by cases h)
      rcases hrow with ⟨hx, _, _⟩ | ⟨b, vs, hb, hrow, hsz, hle, hc, _⟩
      · subst hx; simp at hn; omega
      obtain ⟨_, h6, h7⟩ := h4 hv0.symm
      have hlt : lo < g.cap l := by omega
      have hA := h7 hlt
      rw [hb] at hA
      simp only [Option.map_some] at hA
      subst hA
      have hidx : ∀ i c, i < n → c < el.sz → g.off l + (lo + i) * el.sz + c < vs.size := fun i c h1 h2 => by
        rw [hsz]
        have : (lo + i) * el.sz + el.sz ≤ g.cap l * el.sz := by rw [← Nat.succ_mul]; exact Nat.mul_le_mul_right _ (by omega)
        omega
      have hoff : ∀ i c, g.off l + lo * el.sz + (i * el.sz + c) = g.off l + (lo + i) * el.sz + c := fun i c => by rw [Nat.add_mul]; omega
      subst hy
      refine .lst false el ys b (g.off l + lo * el.sz) cap (ht b ⟨l, ⟨_, hl, rfl⟩, hb⟩) (fun h => by cases h) (by omega) (fun i h1 => ?_) (fun i c h1 h2 => ?_) (fun i c h1 h2 => ?_)
      · exact (h i h1).view.fits el (hf0 (lo + i) (by omega))
      · rw [hoff, hrow.cell (hidx i c h1 h2)]; rfl
      · rw [hoff]
        have e1 : cellD w ⟨b, g.off l + (lo + i) * el.sz + c, none⟩ = vs.getD (g.off l + (lo + i) * el.sz + c) Go.undef := by
          simp only [cellD, hrow.cell (hidx i c h1 h2), Option.getD_some]
        rw [e1]
        exact cells_vr (fun u => ih i h1) (h i h1).view (hf0 (lo + i) (by omega)) (fun k => vs.getD (g.off l + (lo + i) * el.sz + k) Go.undef) (fun k hk => hc (lo + i) k (by omega) hk) c h2
  | agg cs ds hl h ih =>
    intro v hr
    cases hr with
    | agg _ vs hl' hs hh =>
      refine .agg ds vs (by omega) ?_ (fun i h1 => ih i (by omega) (hh i (by omega)))
      rw [List.all_eq_true] at hs ⊢
      intro x hx
      obtain ⟨i, hi', rfl⟩ := List.getElem_of_mem hx
      have h1 := (h i (by omega)).view.scalar
      rw [List.getD_eq_getElem?_getD, List.getD_eq_getElem?_getD, List.getElem?_eq_getElem hi', List.getElem?_eq_getElem (by omega : i < cs.length)] at h1
      rw [Option.getD_some, Option.getD_some] at h1
      rw [h1]; exact hs _ (List.getElem_mem _)
  | tup cs ds hl h ih =>
    intro v hr
    cases hr with
    | tup _ vs hl' hh => exact .tup ds vs (by omega) (fun i h1 => ih i (by omega) (hh i (by omega)))
theorem CallQ.of_new {f : FuncId} {args args' : List AV} {r : AV} {σ : Store} (h : CallA P f args' [] fun o σ' => ∃ r0, o = .ret r0 ∧ FView σ' r0 r) (hv : ViewL σ args args') : CallQ P f args σ r := by
  refine ⟨h.1, fun g w vs hR hlen hvs => ?_⟩
  let I : Nat → Prop := fun b => g.imm b ∨ Tracked σ g b
  have hlt : ∀ b, I b → b < w.heap.size := fun b hb => by
    rcases hb with hb | hb
    · exact hR.lt b hb
    · exact hR.tracked_lt hb
  refine (h.2 (Ghost.bare I) w vs (Rel.bare hlt ⟨fun b hb => .inl (hR.glob.1 b hb), hR.glob.2⟩) (hv.1 ▸ hlen) (fun i hi => ?_)).mono ?_
  · exact (hv.2 i (hv.1 ▸ hi)).vr (g' := Ghost.bare I) hR (fun b hb => .inl hb) (fun b hb => .inr hb) (hvs i (hv.1 ▸ hi))
  rintro e w' ⟨out, g', σ', hR', hE, hO, r0, rfl, hview⟩
  have hfr : ∀ b, b < w.heap.size → w'.heap[b]? = w.heap[b]? := fun b hb => hE.frame b hb not_tracked_nil
  obtain ⟨h1, h2⟩ := hR.addNew hE.size hE.os hE.tape hE.output hfr
  refine ⟨.ret r, _, σ, h1, h2, ?_, rfl, rfl⟩
  cases e with
  | returned v =>
    have hnew : ∀ b, Tracked σ' g' b → (g.addNew w.heap.size w'.heap.size).imm b := fun b hb => by
      refine Or.inr ⟨?_, hR'.tracked_lt hb⟩
      by_cases hlt : b < w.heap.size
      · exact absurd (hE.trk b hlt hb) not_tracked_nil
      · omega
    exact FView.vr hR' hnew hview hO
  | panicked c => exact hO.elim
  | outgrown => exact hO.elim
theorem View.pur0 {a b : AV} (h : View [] a b) : a.pur = true := by
  induction h with
  | refl a h => exact h
  | nils => rfl
  | weak f el xs h => exact h
  | lst f el xs ys hl h ih =>
    refine purL_iff.2 fun x hx => ?_
    obtain ⟨i, hi, rfl⟩ := List.getElem_of_mem hx
    have := ih i hi
    rwa [List.getD_eq_getElem?_getD, List.getElem?_eq_getElem hi, Option.getD_some] at this
  | own T el l lo n xs ys hl => simp at hl
  | agg cs ds hl h ih =>
    refine purL_iff.2 fun x hx => ?_
    obtain ⟨i, hi, rfl⟩ := List.getElem_of_mem hx
    have := ih i hi
    rwa [List.getD_eq_getElem?_getD, List.getElem?_eq_getElem hi, Option.getD_some] at this
  | tup cs ds hl h ih =>
    refine purL_iff.2 fun x hx => ?_
    obtain ⟨i, hi, rfl⟩ := List.getElem_of_mem hx
    have := ih i hi
    rwa [List.getD_eq_getElem?_getD, List.getElem?_eq_getElem hi, Option.getD_some] at this
  | cell l v hl => simp at hl
  | cells l n cs hl => simp at hl
  | cellsV l n cs ds hl => simp at hl
  | opq a l o hl => simp at hl
  | fn f az bs cs ds hl h hl' h' ih ih' =>
    simp only [AV.pur, Bool.and_eq_true]
    refine ⟨purL_iff.2 fun x hx => ?_, purL_iff.2 fun x hx => ?_⟩
    · obtain ⟨i, hi, rfl⟩ := List.getElem_of_mem hx
      have := ih i hi
      rwa [List.getD_eq_getElem?_getD, List.getElem?_eq_getElem hi, Option.getD_some] at this
    · obtain ⟨i, hi, rfl⟩ := List.getElem_of_mem hx
      have := ih' i hi
      rwa [List.getD_eq_getElem?_getD, List.getElem?_eq_getElem hi, Option.getD_some] at this
theorem View.weakvr {g : Ghost} {w : World} {a b : AV} (h : View [] a b) {v : Value} (hv : VR g w a v) : VR (Ghost.bare g.imm) w a v := VR.pur (g := g) (g' := Ghost.bare g.imm) (fun _ hb => ⟨hb, rfl⟩) hv h.pur0
theorem CallF.weak {f : FuncId} {args args' : List AV} {r : AV} (h : CallF P f args' r) (hv : ViewL [] args args') : CallF P f args r := by
  intro σ
  refine ⟨(h []).1, fun g w vs hR hlen hvs => ?_⟩
  refine ((h σ).2 g w vs hR (hv.1 ▸ hlen) (fun i hi => ?_))
  refine View.vr (σ := []) (g := Ghost.bare g.imm) (g' := g) (Rel.bare hR.lt ⟨hR.glob.1, hR.glob.2⟩) (fun b hb => hb) (fun b hb => absurd hb not_tracked_nil) (hv.2 i (hv.1 ▸ hi)) ?_
  exact View.weakvr (hv.2 i (hv.1 ▸ hi)) (hvs i (hv.1 ▸ hi))
end Go.AM
namespace Go.AM
variable {P : Program}
def CallM (P : Program) (f : FuncId) (off : Nat) (args : List AV) (cs ds : List AV) (r : AV) : Prop :=
  ∀ (σ : Store) (k : Nat), σ[k]? = some (.cells cs) → CallA P f (.ref k off :: args) σ fun o σ' => o = .ret r ∧ σ' = σ.set k (.cells ds)
theorem getElem?_set_eq {σ : Store} {k : Nat} {o o' : AObj} (h : σ[k]? = some o) : (σ.set k o')[k]? = some o' := by
  have := (List.getElem?_eq_some_iff.1 h).1
  simp [this]
theorem CallM.of_gen {f : FuncId} {off : Nat} {A : Nat → List AV} {cs ds : List AV} {r : AV} (hl : ∀ k, (A k).length = (A 0).length)
    (h : CallA P f (.ref 0 off :: A 0) [.cells cs] fun o σ' => ∃ r0 ds0 τ, o = .ret r0 ∧ σ' = .cells ds0 :: τ ∧ View (.dead :: τ) r0 r ∧ ViewL (.dead :: τ) ds0 ds)
    (hA : ∀ (g g0 : Ghost) (w : World) (k : Nat), (∀ c, g.imm c → g0.imm c ∧ w.heap[c]? = w.heap[c]?) → (∀ o v, VR g w (.ref k o) v → VR g0 w (.ref 0 o) v) → ∀ i v, VR g w ((A k).getD i .undef) v → VR g0 w ((A 0).getD i .undef) v) (hc : AV.purL cs = true) :
    ∀ (σ : Store) (k : Nat), σ[k]? = some (.cells cs) → CallA P f (.ref k off :: A k) σ fun o σ' => o = .ret r ∧ σ' = σ.set k (.cells ds) := by
  intro σ k hk
  refine ⟨h.1, fun g w vs hR hlen hv => ?_⟩
  have hkn : k < g.n := by rw [← hR.len]; exact (List.getElem?_eq_some_iff.1 hk).1
  have hlive : Live σ k := ⟨_, hk, rfl⟩
  obtain ⟨hver, hsc, b, us, hb, hrow, hus, hcell, _⟩ := hR.ok k _ hk
  let g0 : Ghost := ⟨g.imm, 1, fun _ => 1, fun _ => some b, fun _ => g.cap k, fun _ => g.off k⟩
  have hblt : b < w.heap.size := hrow.lt
  have hnimm : ¬ g.imm b := hR.dis k b hlive hb
  have hpi : ∀ c, g.imm c → g0.imm c ∧ w.heap[c]? = w.heap[c]? := fun c hc => ⟨hc, rfl⟩
  have hR0 : Rel g0 w [.cells cs] := by
    refine ⟨rfl, hR.lt, fun l o ho => ?_, fun l l' c hl hl' _ _ => ?_, fun l c hl hc => ?_, ⟨hR.glob.1, hR.glob.2⟩⟩
    · cases l with
      | zero =>
        simp at ho; subst ho
        exact ⟨rfl, hsc, b, us, rfl, hrow, hus, fun i hi => (hcell i hi).pur hpi (purL_getD hc i), trivial⟩
      | succ l => simp at ho
    · have h1 := hl.lt; have h2 := hl'.lt
      simp at h1 h2; omega
    · have : c = b := by simpa [g0] using hc.symm
      subst this; exact hnimm
  have htr0 : ∀ c, Tracked [.cells cs] g0 c ↔ c = b := fun c => by
    constructor
    · rintro ⟨l, _, hc⟩; simpa [g0] using hc.symm
    · rintro rfl; exact ⟨0, ⟨_, rfl, rfl⟩, rfl⟩
  have href : ∀ o v, VR g w (.ref k o) v → VR g0 w (.ref 0 o) v := fun o v this => by
    cases this with
    | ref _ _ _ hh =>
      obtain ⟨_, A, e, h2⟩ := hh
      refine .ref _ _ _ ⟨⟨Nat.zero_lt_one, Nat.le_refl _⟩, A, e, fun _ => ?_⟩
      have := h2 hver
      rw [hb] at this
      exact this
  have hv0 : ∀ i, i < (AV.ref 0 off :: A 0).length → VR g0 w ((AV.ref 0 off :: A 0).getD i .undef) (vs.getD i Go.undef) := fun i hi => by
    have := hv i (by simpa [hl k] using hi)
    cases i with
    | zero =>
      simp only [List.getD_cons_zero] at this ⊢
      exact href _ _ this
    | succ i =>
      simp only [List.getD_cons_succ] at this ⊢
      exact hA g g0 w k hpi href i _ this
  refine (h.2 g0 w vs hR0 (by simpa [hl k] using hlen) hv0).mono ?_
  rintro e w' ⟨out, g', σ', hR', hE, hO, r0, ds0, τ, rfl, rfl, hview, hviewd⟩
  have hfr : ∀ c, c < w.heap.size → c ≠ b → w'.heap[c]? = w.heap[c]? := fun c hc hne => hE.frame c hc (fun t => hne ((htr0 c).1 t))
  obtain ⟨hver', hsc', b', us', hb', hrow', hus', hcell', _⟩ := hR'.ok 0 _ rfl
  have hbb : b' = b := by
    have := (hE.mono.ver 0 (by show 0 < 1; omega)).2 hver'
    rw [hb'] at this
    simpa [g0] using this.1
  subst hbb
  let g2 : Ghost := { g with imm := fun c => g.imm c ∨ (w.heap.size ≤ c ∧ c < w'.heap.size) }
  have himm2 : ∀ c, g'.imm c → g2.imm c := fun c hc => by
    by_cases hlt : c < w.heap.size
    · rcases hE.immold c hlt hc with h3 | h3
      · exact .inl h3
      · exfalso
        have := (htr0 c).1 h3
        subst this
        exact hR'.dis 0 c ⟨_, rfl, rfl⟩ hb' hc
    · exact .inr ⟨by omega, hR'.lt c hc⟩
  have hm : Mono g w g2 w' := ⟨fun c hc => ⟨.inl hc, hfr c (hR.lt c hc) (fun e => hnimm (e ▸ hc))⟩, Nat.le_refl _, fun _ _ => ⟨Nat.le_refl _, fun _ => ⟨rfl, rfl, rfl⟩⟩⟩
  have himm2b : ¬ g2.imm b' := fun hh => by
    rcases hh with hh | hh
    · exact hnimm hh
    · omega
  have hview2 : ∀ {x y : AV}, View (.dead :: τ) x y → ∀ {v : Value}, VR g' w' x v → VR g2 w' y v := fun {x y} hxy' {v} hxv => by
    have hRd : Rel g' w' (.dead :: τ) := by
      have hlen := hR'.len
      refine ⟨by simpa using hlen, hR'.lt, fun l o ho => ?_, fun l l' c hl hl' => ?_, fun l c hl => ?_, hR'.glob⟩
      · cases l with
        | zero => simp at ho; subst ho; trivial
        | succ l => exact hR'.ok (l + 1) o (by simpa using ho)
      · have lift : ∀ l, Live (.dead :: τ) l → Live (.cells ds0 :: τ) l := fun l hl => by
          obtain ⟨o, ho, hv⟩ := hl
          cases l with
          | zero => simp at ho; subst ho; cases hv
          | succ l => exact ⟨o, by simpa using ho, hv⟩
        exact hR'.inj l l' c (lift l hl) (lift l' hl')
      · obtain ⟨o, ho, hv⟩ := hl
        cases l with
        | zero => simp at ho; subst ho; cases hv
        | succ l => exact hR'.dis (l + 1) c ⟨o, by simpa using ho, hv⟩
    refine hxy'.vr hRd himm2 (fun c hc => ?_) hxv
    obtain ⟨l, ⟨o, ho, hv⟩, hc⟩ := hc
    cases l with
    | zero => simp at ho; subst ho; cases hv
    | succ l =>
      have hl1 : Live (.cells ds0 :: τ) (l + 1) := ⟨o, by simpa using ho, hv⟩
      refine .inr ⟨?_, hR'.base_lt hl1 hc⟩
      apply Nat.le_of_not_lt
      intro hlt
      have := (htr0 c).1 (hE.trk c hlt ⟨_, hl1, hc⟩)
      subst this
      have := hR'.inj (l + 1) 0 c hl1 ⟨_, rfl, rfl⟩ hc hb'
      omega
  have hds : ds0.length = ds.length := hviewd.1
  have hR2 : Rel g2 w' (σ.set k (.cells ds)) := by
    refine ⟨by simp [g2, hR.len], fun c hc => ?_, fun l o ho => ?_, fun l l' c hl hl' => ?_, fun l c hl hc hi => ?_, hR.glob.mono hm.imm⟩
    · rcases hc with hc | hc
      · exact Nat.lt_of_lt_of_le (hR.lt c hc) hE.size
      · exact hc.2
    · by_cases hlk : l = k
      · subst hlk
        rw [getElem?_set_eq hk] at ho
        cases ho
        refine ⟨hver, ?_, b', us', hb, hrow', by omega, fun i hi => hview2 (hviewd.2 i (by omega)) (hcell' i (by omega)), trivial⟩
        rw [List.all_eq_true] at hsc' ⊢
        intro x hx
        obtain ⟨i, hi, rfl⟩ := List.getElem_of_mem hx
        have h1 := (hviewd.2 i (by omega)).scalar
        rw [List.getD_eq_getElem?_getD, List.getD_eq_getElem?_getD, List.getElem?_eq_getElem hi, List.getElem?_eq_getElem (by omega : i < ds0.length)] at h1
        rw [Option.getD_some, Option.getD_some] at h1
        rw [h1]; exact hsc' _ (List.getElem_mem _)
      · rw [List.getElem?_set_ne (Ne.symm hlk)] at ho
        have hl : l < g.n := by rw [← hR.len]; exact (List.getElem?_eq_some_iff.1 ho).1
        by_cases hvv : o.live = true
        · exact (hR.ok l o ho).step hm hl rfl (fun c hc => hfr c (hR.base_lt ⟨o, ho, hvv⟩ hc) (fun e => hlk (hR.inj l k c ⟨o, ho, hvv⟩ hlive hc (e ▸ hb))))
        · cases o <;> simp [AObj.live] at hvv
          trivial
    · have lift : ∀ l, Live (σ.set k (.cells ds)) l → Live σ l := fun l hl => by
        rcases live_set hl with ⟨rfl, _, _⟩ | ⟨_, hl⟩
        · exact hlive
        · exact hl
      exact hR.inj l l' c (lift l hl) (lift l' hl')
    · have hl' : Live σ l := by
        rcases live_set hl with ⟨rfl, _, _⟩ | ⟨_, hl⟩
        · exact hlive
        · exact hl
      rcases hi with hi | hi
      · exact hR.dis l c hl' hc hi
      · have := hR.base_lt hl' hc; omega
  refine ⟨.ret r, g2, _, hR2, ⟨hm, hE.size, hE.os, hE.tape, hE.output, fun c hc ht => ?_, fun c hc hi => ?_, fun c hc ht => ?_⟩, ?_, rfl, rfl⟩
  · exact hfr c hc (fun e => ht ⟨k, hlive, e ▸ hb⟩)
  · rcases hi with hi | hi
    · exact .inl hi
    · omega
  · obtain ⟨l, hl, hc2⟩ := ht
    rcases live_set hl with ⟨rfl, _, _⟩ | ⟨_, hl⟩
    · exact ⟨_, hlive, hc2⟩
    · exact ⟨l, hl, hc2⟩
  · cases e with
    | returned v => exact hview2 hview hO
    | panicked c => exact hO.elim
    | outgrown => exact hO.elim
theorem CallM.of_one {f : FuncId} {off : Nat} {args cs ds : List AV} {r : AV}
    (h : CallA P f (.ref 0 off :: args) [.cells cs] fun o σ' => ∃ r0 ds0 τ, o = .ret r0 ∧ σ' = .cells ds0 :: τ ∧ View (.dead :: τ) r0 r ∧ ViewL (.dead :: τ) ds0 ds) (hp : AV.purL args = true) (hc : AV.purL cs = true) :
    CallM P f off args cs ds r := CallM.of_gen (A := fun _ => args) (fun _ => rfl) h (fun _ _ _ _ hpi _ i _ hv => hv.pur hpi (purL_getD hp i)) hc
def CallMF (P : Program) (f : FuncId) (cs ds : List AV) (r : AV) (F : FuncId) : Prop :=
  ∀ (σ : Store) (k : Nat), σ[k]? = some (.cells cs) → CallA P f [.ref k 0, .fn (.func F) [.ref k 0] []] σ fun o σ' => o = .ret r ∧ σ' = σ.set k (.cells ds)
theorem CallMF.of_one {f F : FuncId} {cs ds : List AV} {r : AV}
    (h : CallA P f [.ref 0 0, .fn (.func F) [.ref 0 0] []] [.cells cs] fun o σ' => ∃ r0 ds0 τ, o = .ret r0 ∧ σ' = .cells ds0 :: τ ∧ View (.dead :: τ) r0 r ∧ ViewL (.dead :: τ) ds0 ds) (hc : AV.purL cs = true) : CallMF P f cs ds r F := by
  refine CallM.of_gen (A := fun k => [.fn (.func F) [.ref k 0] []]) (fun _ => rfl) h (fun g g0 w k hpi href i v hv => ?_) hc
  cases i with
  | succ i => exact hv.pur hpi rfl
  | zero =>
    cases hv with
    | fn f' first cap first' cap' hl hl' h1 h2 =>
      refine .fn _ _ _ _ _ hl hl' (fun i hi => ?_) (fun i hi => absurd hi (Nat.not_lt_zero _))
      cases i with
      | zero => exact href _ _ (h1 0 (Nat.zero_lt_one))
      | succ i => simp at hi
section
variable {n : FuncId} {args : List AV} {σ : Store} {K Kp : AV → Store → Prop} {r : AV}
theorem callL_f (h : CallF P n args r) (hk : bindV r (.mk : Tg fun r => K r σ)) : callL P n args σ (.mk : Tg (K, Kp)) := callL_i h hk
theorem callD_f (h : CallF P n args r) (hk : bindV r (.mk : Tg fun r => K r σ)) : callD P n args σ (.mk : Tg (K, Kp)) := callD_i h hk
theorem callL_mf {k : Nat} {F : FuncId} {cs ds : List AV} (h : CallMF P n cs ds r F) (hσ : σ[k]? = some (.cells cs)) (hk : bindV r (.mk : Tg fun r => bindS (σ.set k (.cells ds)) (.mk : Tg fun σ => K r σ))) :
    callL P n [.ref k 0, .fn (.func F) [.ref k 0] []] σ (.mk : Tg (K, Kp)) :=
  (h σ k hσ).mono fun o s ⟨h1, h2⟩ => by subst h1; subst h2; exact hk
theorem callL_m {k off : Nat} {cs ds : List AV} (h : CallM P n off args cs ds r) (hσ : σ[k]? = some (.cells cs)) (hk : bindV r (.mk : Tg fun r => bindS (σ.set k (.cells ds)) (.mk : Tg fun σ => K r σ))) :
    callL P n (.ref k off :: args) σ (.mk : Tg (K, Kp)) :=
  (h σ k hσ).mono fun o s ⟨h1, h2⟩ => by subst h1; subst h2; exact hk
def CallX (P : Program) (f : FuncId) (args : List AV) (o : Out) : Prop := ∀ s, CallA P f args s fun o' s' => o' = o ∧ s' = s
theorem CallX.ret {f : FuncId} {args : List AV} {r : AV} (h : CallF P f args r) : CallX P f args (.ret r) := h
theorem CallX.weak {f : FuncId} {args args' : List AV} {o : Out} (h : CallX P f args' o) (hv : ViewL [] args args') : CallX P f args o := by
  intro σ
  refine ⟨(h []).1, fun g w vs hR hlen hvs => ?_⟩
  refine ((h σ).2 g w vs hR (hv.1 ▸ hlen) (fun i hi => ?_))
  refine View.vr (σ := []) (g := Ghost.bare g.imm) (g' := g) (Rel.bare hR.lt ⟨hR.glob.1, hR.glob.2⟩) (fun b hb => hb) (fun b hb => absurd hb not_tracked_nil) (hv.2 i (hv.1 ▸ hi)) ?_
  exact View.weakvr (hv.2 i (hv.1 ▸ hi)) (hvs i (hv.1 ▸ hi))
end
theorem CallX.of_nil {f : FuncId} {args : List AV} {v : AV} (h : CallA P f args [] fun o _ => o = .panic v) (hp : AV.purL args = true) (hv : v.flat = true) : CallX P f args (.panic v) := by
  intro σ
  refine ⟨h.1, fun g w vs hR hlen hvs => ?_⟩
  refine (h.2 (Ghost.bare g.imm) w vs (Rel.bare hR.lt ⟨hR.glob.1, hR.glob.2⟩) hlen (fun i hi => VR.pur (g := g) (g' := Ghost.bare g.imm) (fun b hb => ⟨hb, rfl⟩) (hvs i hi) (purL_getD hp i))).mono ?_
  rintro e w' ⟨out, g', σ', hR', hE, hO, rfl⟩
  have hfr : ∀ b, b < w.heap.size → w'.heap[b]? = w.heap[b]? := fun b hb => hE.frame b hb not_tracked_nil
  obtain ⟨h1, h2⟩ := hR.addNew hE.size hE.os hE.tape hE.output hfr
  refine ⟨.panic v, _, σ, h1, h2, ?_, rfl, rfl⟩
  cases e with
  | returned v => exact hO.elim
  | panicked c => obtain ⟨v', hc, hr⟩ := hO; exact ⟨v', hc, VR.flat hr hv⟩
  | outgrown => exact hO.elim
end Go.AM
