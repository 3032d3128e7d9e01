/- Part of a proof: see Root. -/
import Derived.Test.YtnfendddolhcoaaGreatDoorW01
set_option linter.unnecessarySimpa false
set_option linter.unusedSectionVars false
set_option linter.unusedSimpArgs false
set_option linter.unusedVariables false
namespace Go.AM
variable {P : Program}
theorem binA_mono {op : BinOp} {x y : AV} {K K' : AV → Prop} (h : ∀ v, K v → K' v) : binA op x y K → binA op x y K' := by
  unfold binA
  split <;> intro hh <;> first | exact h _ hh | exact ⟨hh.1, h _ hh.2⟩ | exact ⟨hh.1, hh.2.1, h _ hh.2.2⟩ | exact hh.elim
theorem binA_ex {op : BinOp} {x y : AV} {K : AV → Prop} : binA op x y K → ∃ v, binA op x y (fun v' => v' = v) ∧ K v := by
  unfold binA
  split <;> intro hh <;> first | exact ⟨_, rfl, hh⟩ | exact ⟨_, ⟨hh.1, rfl⟩, hh.2⟩ | exact ⟨_, ⟨hh.1, hh.2.1, rfl⟩, hh.2.2⟩ | exact hh.elim
theorem unA_mono {op : UnOp} {x : AV} {K K' : AV → Prop} (h : ∀ v, K v → K' v) : unA op x K → unA op x K' := by
  unfold unA
  split <;> intro hh <;> simp_all
theorem unA_ex {op : UnOp} {x : AV} {K : AV → Prop} : unA op x K → ∃ v, unA op x (fun v' => v' = v) ∧ K v := by
  unfold unA
  split <;> intro hh <;> simp_all
theorem bound_mono {x : Option AV} {d y : Nat} {K K' : Nat → Prop} (h : ∀ v, K v → K' v) : bound x d y K → bound x d y K' := by
  unfold bound
  split <;> intro hh <;> simp_all
theorem bound_ex {x : Option AV} {d y : Nat} {K : Nat → Prop} : bound x d y K → ∃ v, bound x d y (fun v' => v' = v) ∧ K v := by
  unfold bound
  split <;> intro hh <;> simp_all
theorem partOf_mono {el : El} {x : AV} {off : Nat} {ag : Bool} {n : Nat} {K K' : AV → Prop} (h : ∀ v, K v → K' v) : partOf el x off ag n K → partOf el x off ag n K' := by
  unfold partOf
  split
  · exact h _
  · rintro ⟨h1, h2⟩
    refine ⟨h1, ?_⟩
    split at h2
    · exact ⟨h _ h2.1, h2.2⟩
    · exact h2.elim
theorem partOf_ex {el : El} {x : AV} {off : Nat} {ag : Bool} {n : Nat} {K : AV → Prop} : partOf el x off ag n K → ∃ v, partOf el x off ag n (fun v' => v' = v) ∧ K v := by
  unfold partOf
  split
  · intro h; exact ⟨_, rfl, h⟩
  · rintro ⟨h1, h2⟩
    split at h2
    · exact ⟨_, ⟨h1, rfl, h2.2⟩, h2.1⟩
    · exact h2.elim
theorem getElem?_app {σ : Store} {l : Nat} {o : AObj} (τ : Store) (h : σ[l]? = some o) : (σ ++ τ)[l]? = some o := by
  rw [List.getElem?_append_left (List.getElem?_eq_some_iff.1 h).1]; exact h
theorem loadA_mono {σ : Store} {ag : Bool} {n : Nat} {p : AV} {K K' : AV → Prop} (h : ∀ v, K v → K' v) : loadA σ ag n p K → loadA σ ag n p K' := by
  unfold loadA
  intro hh
  split at hh
  · split at hh
    · exact ⟨hh.1, hh.2.1, h _ hh.2.2⟩
    · exact hh.elim
  · exact partOf_mono h hh
  · split at hh
    · exact ⟨hh.1, hh.2.1, hh.2.2.1, partOf_mono h hh.2.2.2⟩
    · exact hh.elim
  · exact hh.elim
theorem loadA_ex {σ : Store} {ag : Bool} {n : Nat} {p : AV} {K : AV → Prop} (hh : loadA σ ag n p K) : ∃ v, (∀ τ, loadA (σ ++ τ) ag n p (fun v' => v' = v)) ∧ K v := by
  unfold loadA at hh
  split at hh
  · split at hh
    · rename_i h
      exact ⟨_, fun τ => by simp only [loadA, getElem?_app τ h]; exact ⟨hh.1, hh.2.1, trivial⟩, hh.2.2⟩
    · exact hh.elim
  · obtain ⟨v, h1, h2⟩ := partOf_ex hh
    exact ⟨v, fun τ => h1, h2⟩
  · split at hh
    · rename_i h
      obtain ⟨v, h1, h2⟩ := partOf_ex hh.2.2.2
      exact ⟨v, fun τ => by simp only [loadA, getElem?_app τ h]; exact ⟨hh.1, hh.2.1, hh.2.2.1, h1⟩, h2⟩
    · exact hh.elim
  · exact hh.elim
theorem storeA_mono {σ : Store} {n : Nat} {p v : AV} {K K' : Store → Prop} (h : ∀ v, K v → K' v) : storeA σ n p v K → storeA σ n p v K' := by
  unfold storeA
  rintro ⟨h1, h2, hh⟩
  refine ⟨h1, h2, ?_⟩
  split at hh
  · split at hh
    · exact ⟨hh.1, h _ hh.2⟩
    · exact hh.elim
  · split at hh
    · exact ⟨hh.1, hh.2.1, hh.2.2.1, hh.2.2.2.1, hh.2.2.2.2.1, h _ hh.2.2.2.2.2⟩
    · exact hh.elim
  · exact hh.elim
theorem listA_mono {σ : Store} {el : El} {x : AV} {K K' : List AV → Prop} (h : ∀ v, K v → K' v) : listA σ el x K → listA σ el x K' := by
  unfold listA
  intro hh
  split at hh
  · exact h _ hh
  · exact ⟨hh.1, h _ hh.2⟩
  · refine ⟨hh.1, ?_⟩
    have hh := hh.2
    split at hh
    · exact ⟨hh.1, hh.2.1, h _ hh.2.2⟩
    · exact hh.elim
  · exact ⟨hh.1, h _ hh.2⟩
  · exact ⟨hh.1, hh.2.1, loadA_mono (fun _ => h _) hh.2.2⟩
  · exact hh.elim
theorem listA_ex {σ : Store} {el : El} {x : AV} {K : List AV → Prop} (hh : listA σ el x K) : ∃ v, (∀ τ, listA (σ ++ τ) el x (fun v' => v' = v)) ∧ K v := by
  unfold listA at hh
  split at hh
  · exact ⟨_, fun τ => rfl, hh⟩
  · exact ⟨_, fun τ => ⟨hh.1, rfl⟩, hh.2⟩
  · obtain ⟨h0, hh⟩ := hh
    split at hh
    · rename_i h
      exact ⟨_, fun τ => by simp only [listA, getElem?_app τ h]; exact ⟨h0, hh.1, hh.2.1, trivial⟩, hh.2.2⟩
    · exact hh.elim
  · exact ⟨_, fun τ => ⟨hh.1, rfl⟩, hh.2⟩
  · obtain ⟨h0, h1, hh⟩ := hh
    obtain ⟨v, h2, h3⟩ := loadA_ex hh
    exact ⟨_, fun τ => ⟨h0, h1, loadA_mono (fun v' e => congrArg AV.cells e) (h2 τ)⟩, h3⟩
  · exact hh.elim
theorem appA_mono {σ : Store} {T : Option TypeId} {el : El} {x y : AV} {K K' : AV → Store → Prop} (h : ∀ v s, K v s → K' v s) : appA σ T el x y K → appA σ T el x y K' := by
  unfold appA
  refine listA_mono fun ys hh => ⟨hh.1, ?_⟩
  have hh := hh.2
  split at hh
  · split at hh
    · simp_all
    · rename_i h0; simp only [h0, if_false]; exact ⟨hh.1, h _ _ hh.2⟩
  · refine ⟨hh.1, ?_⟩
    have hh := hh.2
    split at hh
    · rename_i h0; simp only [h0, if_true]; exact h _ _ hh
    · rename_i h0; simp only [h0, if_false]; exact ⟨hh.1, h _ _ hh.2⟩
  · refine ⟨hh.1, ?_⟩
    have hh := hh.2
    split at hh
    · exact ⟨hh.1, hh.2.1, hh.2.2.1, hh.2.2.2.1, hh.2.2.2.2.1, hh.2.2.2.2.2.1, h _ _ hh.2.2.2.2.2.2⟩
    · exact hh.elim
  · exact hh.elim
theorem minA_mono {op : Bool} {x y : AV} {K K' : AV → Prop} (h : ∀ v, K v → K' v) : minA op x y K → minA op x y K' := by
  unfold minA
  split <;> intro hh <;> simp_all
theorem minA_ex {op : Bool} {x y : AV} {K : AV → Prop} : minA op x y K → ∃ v, minA op x y (fun v' => v' = v) ∧ K v := by
  unfold minA
  split <;> intro hh <;> simp_all
theorem minsA_mono {op : Bool} {K K' : AV → Prop} (h : ∀ v, K v → K' v) : ∀ (ys : List AV) (x : AV), minsA op x ys K → minsA op x ys K'
  | [], x => h x
  | y :: ys, x => minA_mono fun z => minsA_mono h ys z
theorem minsA_ex {op : Bool} {K : AV → Prop} : ∀ (ys : List AV) (x : AV), minsA op x ys K → ∃ v, minsA op x ys (fun v' => v' = v) ∧ K v
  | [], x => fun h => ⟨x, rfl, h⟩
  | y :: ys, x => fun h => by
    obtain ⟨z, h1, h2⟩ := minA_ex h
    obtain ⟨v, h3, h4⟩ := minsA_ex ys z h2
    exact ⟨v, minA_mono (fun z' e => by subst e; exact h3) h1, h4⟩
theorem buildA_mono {e : Env} {K K' : List AV → Prop} (h : ∀ v, K v → K' v) : ∀ (ps : List (Nat × Nat × AX)) (z : List AV), buildA z e ps K → buildA z e ps K'
  | [], z => h z
  | (off, n, x) :: r, z => fun hh => ⟨hh.1, hh.2.1, hh.2.2.1, buildA_mono h r _ hh.2.2.2⟩
theorem buildA_ex {e : Env} {K : List AV → Prop} : ∀ (ps : List (Nat × Nat × AX)) (z : List AV), buildA z e ps K → ∃ v, buildA z e ps (fun v' => v' = v) ∧ K v
  | [], z => fun h => ⟨z, rfl, h⟩
  | (off, n, x) :: r, z => fun hh => by
    obtain ⟨v, h1, h2⟩ := buildA_ex r _ hh.2.2.2
    exact ⟨v, ⟨hh.1, hh.2.1, hh.2.2.1, h1⟩, h2⟩
theorem bsliceA_mono {el : El} {e : Env} {K K' : List AV → Prop} (h : ∀ v, K v → K' v) : ∀ (ps : List (Nat × AX)) (z : List AV), bsliceA el z e ps K → bsliceA el z e ps K'
  | [], z => h z
  | (i, x) :: r, z => fun hh => ⟨hh.1, hh.2.1, bsliceA_mono h r _ hh.2.2⟩
theorem bsliceA_ex {el : El} {e : Env} {K : List AV → Prop} : ∀ (ps : List (Nat × AX)) (z : List AV), bsliceA el z e ps K → ∃ v, bsliceA el z e ps (fun v' => v' = v) ∧ K v
  | [], z => fun h => ⟨z, rfl, h⟩
  | (i, x) :: r, z => fun hh => by
    obtain ⟨v, h1, h2⟩ := bsliceA_ex r _ hh.2.2
    exact ⟨v, ⟨hh.1, hh.2.1, h1⟩, h2⟩
def AX.uses : AX → List Nat
  | .t n => [n]
  | .c _ => []
def AX.usesO : Option AX → List Nat
  | some x => x.uses
  | none => []
def AX.usesL (l : List AX) : List Nat := l.flatMap AX.uses
def AOp.uses : AOp → List Nat
  | .mv x | .box x | .boxT _ x | .load _ _ x | .nilck x | .un _ x | .cint _ x | .cid x | .s2b x | .b2s x | .mkifc _ x | .faddr _ x | .field _ _ _ x | .ext x _ | .len _ x | .panic x | .rngS x | .nxtS x | .usd _ x | .p2u x | .u2p _ x | .noesc _ x => x.uses
  | .pick c a b => c.uses ++ a.uses ++ b.uses
  | .alloc _ _ | .mkvec _ | .hold => []
  | .ex _ xs => AX.usesL xs
  | .allocAt k _ _ => [k]
  | .appAt k _ _ x y => k :: (x.uses ++ y.uses)
  | .mksAt k _ _ x y => k :: (x.uses ++ y.uses)
  | .build _ ps => AX.usesL (ps.map (·.2.2))
  | .bslice _ _ _ _ ps => AX.usesL (ps.map (·.2))
  | .store _ x v => x.uses ++ v.uses
  | .bin _ x y | .eqf _ _ _ x y | .iaddr _ _ x y | .idxS x y | .idxA _ _ x y | .app _ _ x y | .ustr _ x y | .eqp _ x y | .mkslice _ _ x y | .eqnil _ _ x y => x.uses ++ y.uses
  | .mkfn _ f c => AX.usesL f ++ AX.usesL c
  | .slS x lo hi | .slL _ x lo hi => x.uses ++ AX.usesO lo ++ AX.usesO hi
  | .call _ f args | .meth f args => f.uses ++ AX.usesL args
  | .min x xs | .max x xs => x.uses ++ AX.usesL xs
theorem AX.ev_congr {e e' : Env} {x : AX} (h : ∀ t ∈ x.uses, e t = e' t) : x.ev e = x.ev e' := by
  cases x with
  | t n => exact h n (by simp [AX.uses])
  | c a => rfl
theorem AX.evO_congr {e e' : Env} {x : Option AX} (h : ∀ t ∈ AX.usesO x, e t = e' t) : x.map (AX.ev e) = x.map (AX.ev e') := by
  cases x with
  | none => rfl
  | some x => exact congrArg some (AX.ev_congr h)
theorem AX.evL_congr {e e' : Env} {l : List AX} (h : ∀ t ∈ AX.usesL l, e t = e' t) : l.map (AX.ev e) = l.map (AX.ev e') := by
  refine List.map_congr_left fun x hx => AX.ev_congr fun t ht => h t ?_
  exact List.mem_flatMap.2 ⟨x, hx, ht⟩
theorem buildA_congr {e e' : Env} {K : List AV → Prop} : ∀ (ps : List (Nat × Nat × AX)) (z : List AV), (∀ t ∈ AX.usesL (ps.map (·.2.2)), e t = e' t) → buildA z e ps K = buildA z e' ps K
  | [], z, _ => rfl
  | (off, n, x) :: r, z, h => by
    have h1 : x.ev e = x.ev e' := AX.ev_congr fun t ht => h t (by simp [AX.usesL, ht])
    simp only [buildA, h1]
    rw [buildA_congr r _ fun t ht => h t (by simp only [List.map_cons, AX.usesL, List.flatMap_cons, List.mem_append]; exact .inr ht)]
theorem bsliceA_congr {el : El} {e e' : Env} {K : List AV → Prop} : ∀ (ps : List (Nat × AX)) (z : List AV), (∀ t ∈ AX.usesL (ps.map (·.2)), e t = e' t) → bsliceA el z e ps K = bsliceA el z e' ps K
  | [], z, _ => rfl
  | (i, x) :: r, z, h => by
    have h1 : x.ev e = x.ev e' := AX.ev_congr fun t ht => h t (by simp [AX.usesL, ht])
    simp only [bsliceA, h1]
    rw [bsliceA_congr r _ fun t ht => h t (by simp only [List.map_cons, AX.usesL, List.flatMap_cons, List.mem_append]; exact .inr ht)]
theorem run_congr {o : AOp} {e e' : Env} {σ : Store} {K Kp : AV → Store → Prop} (h : ∀ t ∈ o.uses, e t = e' t) : o.run P e σ K Kp = o.run P e' σ K Kp := by
  cases o <;> simp only [AOp.uses, List.mem_append] at h
  case build z ps => exact buildA_congr ps _ h
  case bslice mt el z n ps => exact bsliceA_congr ps _ h
  case ex o xs => simp only [AOp.run, AX.evL_congr h]
  case alloc => rfl
  case mkvec => rfl
  case hold => rfl
  case allocAt k T cs => simp only [AOp.run, h k (by simp)]
  case appAt k T el x y => simp only [AOp.run, h k (by simp), AX.ev_congr (x := x) (fun t ht => h t (by simp [ht])), AX.ev_congr (x := y) (fun t ht => h t (by simp [ht]))]
  case mksAt k el z x y => simp only [AOp.run, h k (by simp), AX.ev_congr (x := x) (fun t ht => h t (by simp [ht])), AX.ev_congr (x := y) (fun t ht => h t (by simp [ht]))]
  case pick c a b => simp only [AOp.run, AX.ev_congr (fun t ht => h t (.inl (.inl ht))), AX.ev_congr (fun t ht => h t (.inl (.inr ht))), AX.ev_congr (fun t ht => h t (.inr ht))]
  case mkfn f a b => simp only [AOp.run, AX.evL_congr (fun t ht => h t (.inl ht)), AX.evL_congr (fun t ht => h t (.inr ht))]
  case slS x lo hi => simp only [AOp.run, AX.ev_congr (fun t ht => h t (.inl (.inl ht))), AX.evO_congr (fun t ht => h t (.inl (.inr ht))), AX.evO_congr (fun t ht => h t (.inr ht))]
  case slL el x lo hi => simp only [AOp.run, AX.ev_congr (fun t ht => h t (.inl (.inl ht))), AX.evO_congr (fun t ht => h t (.inl (.inr ht))), AX.evO_congr (fun t ht => h t (.inr ht))]
  case call q f args => simp only [AOp.run, AX.ev_congr (fun t ht => h t (.inl ht)), AX.evL_congr (fun t ht => h t (.inr ht))]
  case meth f args => simp only [AOp.run, AX.ev_congr (fun t ht => h t (.inl ht)), AX.evL_congr (fun t ht => h t (.inr ht))]
  case min x xs => simp only [AOp.run, AX.ev_congr (fun t ht => h t (.inl ht)), AX.evL_congr (fun t ht => h t (.inr ht))]
  case max x xs => simp only [AOp.run, AX.ev_congr (fun t ht => h t (.inl ht)), AX.evL_congr (fun t ht => h t (.inr ht))]
  all_goals first
    | simp only [AOp.run, AX.ev_congr h]
    | simp only [AOp.run, AX.ev_congr (fun t ht => h t (.inl ht)), AX.ev_congr (fun t ht => h t (.inr ht))]
inductive Cls where
  | pu | rd | al | st | ap | cw | no
deriving DecidableEq
def XOp.cls : XOp → Cls
  | .slA .. | .sl3p .. | .tas .. => .pu
  | .inv _ | .pc _ | .nilU _ => .no
  | .lkup .. | .lenm | .appL _ | .nilS _ => .rd
  | .mkmap => .al
  | .cw .. => .cw
  | _ => .cw
def AOp.cls : AOp → Cls
  | .ex o _ => o.cls
  | .mv _ | .pick .. | .build .. | .nilck _ | .bin .. | .eqf .. | .un .. | .cint .. | .cid _ | .mkifc .. | .mkfn .. | .slS .. | .faddr .. | .field .. | .idxS .. | .idxA .. | .ext .. | .len .. | .min .. | .max .. | .eqnil .. => .pu
  | .bslice mt .. => if mt then .al else .pu
  | .load .. | .b2s _ | .slL .. | .iaddr .. | .usd .. => .rd
  | .call q .. => if q then .rd else .no
  | .alloc .. | .box _ | .boxT .. | .s2b _ | .mkslice .. | .mkvec _ => .al
  | .store .. | .meth .. | .allocAt .. | .appAt .. | .mksAt .. => .st
  | .app .. => .ap
  | _ => .no
theorem bound3_mono {lo : Option AV} {hi mx : AV} {cap : Nat} {K K' : Nat → Nat → Nat → Prop} (h : ∀ a b c, K a b c → K' a b c) : bound3 lo hi mx cap K → bound3 lo hi mx cap K' :=
  bound_mono fun _ => bound_mono fun _ => bound_mono fun _ => h _ _ _
theorem sl3A_mono {σ : Store} {el : El} {x : AV} {lo : Option AV} {hi mx : AV} {K K' : AV → Store → Prop} (h : ∀ v s, K v s → K' v s) : sl3A σ el x lo hi mx K → sl3A σ el x lo hi mx K' := by
  unfold sl3A
  split
  · exact bound3_mono fun _ _ _ => h _ _
  · exact fun hh => ⟨hh.1, bound3_mono (fun _ _ _ => h _ _) hh.2⟩
  · refine fun hh => ⟨hh.1, ?_⟩
    have hh := hh.2
    split at hh
    · refine ⟨hh.1, hh.2.1, hh.2.2.1, bound3_mono (fun l b m => ?_) hh.2.2.2⟩
      by_cases e : m = l
      · simp only [e, if_true]; exact h _ _
      · simp only [e, if_false]; exact fun k => ⟨k.1, h _ _ k.2⟩
    · exact hh.elim
  · exact id
theorem apxA_mono {σ : Store} {el : El} {x y : AV} {K K' : AV → Store → Prop} (h : ∀ v s, K v s → K' v s) : apxA σ el x y K → apxA σ el x y K' := by
  unfold apxA
  split
  · refine fun hh => ⟨hh.1, listA_mono (fun ys hh => ⟨hh.1, ?_⟩) hh.2⟩
    have hh := hh.2
    split at hh
    · exact ⟨hh.1, hh.2.1, hh.2.2.1, hh.2.2.2.1, h _ _ hh.2.2.2.2⟩
    · exact hh.elim
  · exact appA_mono h
theorem copyA_mono {σ : Store} {el : El} {x y : AV} {K K' : AV → Store → Prop} (h : ∀ v s, K v s → K' v s) : copyA σ el x y K → copyA σ el x y K' := by
  unfold copyA
  refine listA_mono fun ys hh => ⟨hh.1, ?_⟩
  have hh := hh.2
  unfold copyTo at *
  split at hh
  · exact h _ _ hh
  · exact ⟨hh.1, h _ _ hh.2⟩
  · exact ⟨hh.1, hh.2.1, storeA_mono (fun s => h _ s) hh.2.2⟩
  · refine ⟨hh.1, ?_⟩
    have hh := hh.2
    split at hh
    · exact ⟨hh.1, hh.2.1, hh.2.2.1, h _ _ hh.2.2.2⟩
    · exact hh.elim
  · exact hh.elim
theorem slAA_mono {el : El} {n : Nat} {p : AV} {lo hi : Option AV} {K K' : AV → Prop} (h : ∀ v, K v → K' v) : slAA el n p lo hi K → slAA el n p lo hi K' :=
  fun hh => ⟨hh.1, bound_mono (fun _ => bound_mono fun _ => h _) hh.2⟩
theorem sl3pA_mono {el : El} {x : AV} {lo : Option AV} {hi mx : AV} {K K' : AV → Prop} (h : ∀ v, K v → K' v) : sl3pA el x lo hi mx K → sl3pA el x lo hi mx K' := by
  unfold sl3pA
  split
  · exact bound3_mono fun _ _ _ => h _
  · exact fun hh => ⟨hh.1, bound3_mono (fun _ _ _ => h _) hh.2⟩
  · exact fun hh => ⟨hh.1, bound3_mono (fun _ _ _ => h _) hh.2⟩
  · exact id
theorem appLA_mono {σ : Store} {el : El} {x y : AV} {K K' : AV → Prop} (h : ∀ v, K v → K' v) : appLA σ el x y K → appLA σ el x y K' := by
  unfold appLA
  refine listA_mono fun ys hh => ⟨hh.1, hh.2.1, ?_⟩
  have hh := hh.2.2
  split at hh
  · exact ⟨hh.1, h _ hh.2⟩
  · exact ⟨hh.1, hh.2.1, h _ hh.2.2⟩
  · exact hh.elim
theorem nilSA_mono {σ : Store} {x : AV} {K K' : Bool → Prop} (h : ∀ v, K v → K' v) : nilSA σ x K → nilSA σ x K' := by
  unfold nilSA
  split
  · exact h _
  · exact h _
  · exact h _
  · split
    · exact fun hh => ⟨hh.1, hh.2.1, h _ hh.2.2⟩
    · exact id
  · exact id
theorem nilUA_mono {σ : Store} {x : AV} {K K' : Bool → Prop} (h : ∀ v, K v → K' v) : nilUA σ x K → nilUA σ x K' := by
  unfold nilUA
  split
  · exact fun hh => ⟨h _ hh.1, h _ hh.2⟩
  · exact nilSA_mono h
theorem nilSA_ex {σ : Store} {x : AV} {K : Bool → Prop} (hh : nilSA σ x K) : ∃ v, (∀ τ, nilSA (σ ++ τ) x (fun v' => v' = v)) ∧ K v := by
  unfold nilSA at hh ⊢
  split at hh
  · exact ⟨_, fun _ => rfl, hh⟩
  · exact ⟨_, fun _ => rfl, hh⟩
  · exact ⟨_, fun _ => rfl, hh⟩
  · split at hh
    · rename_i h1
      exact ⟨false, fun τ => by simp only [getElem?_app τ h1]; exact ⟨hh.1, hh.2.1, trivial⟩, hh.2.2⟩
    · exact hh.elim
  · exact hh.elim
theorem tasA_mono {T : TypeId} {ok : Bool} {z x : AV} {K K' : AV → Prop} (h : ∀ v, K v → K' v) : tasA T ok z x K → tasA T ok z x K' := by
  unfold tasA
  split
  · split
    · exact h _
    · exact fun hh => ⟨hh.1, h _ hh.2⟩
  · exact fun hh => ⟨hh.1, h _ hh.2⟩
  · exact id
theorem s2aA_mono {σ : Store} {n : Nat} {x : AV} {K K' : AV → Store → Prop} (h : ∀ v s, K v s → K' v s) : s2aA σ n x K → s2aA σ n x K' := by
  unfold s2aA
  split
  · exact fun hh => ⟨hh.1, hh.2.1, hh.2.2.1, h _ _ hh.2.2.2⟩
  · refine fun hh => ⟨hh.1, ?_⟩
    have hh := hh.2
    split at hh
    · exact ⟨hh.1, hh.2.1, hh.2.2.1, hh.2.2.2.1, hh.2.2.2.2.1, h _ _ hh.2.2.2.2.2⟩
    · exact hh.elim
  · exact id
theorem mentA_mono {σ : Store} {kd : Option IntKind} {zero x k : AV} {K K' : AV → Store → Prop} (h : ∀ v s, K v s → K' v s) : mentA σ kd zero x k K → mentA σ kd zero x k K' := by
  unfold mentA
  split
  · refine fun hh => ⟨hh.1, ?_⟩
    have hh := hh.2
    split at hh
    · split at hh
      · exact h _ _ hh
      · exact h _ _ hh
      · exact hh.elim
    · exact hh.elim
  · exact id
theorem estsA_mono {σ : Store} {x s v : AV} {K K' : Store → Prop} (h : ∀ s, K s → K' s) : estsA σ x s v K → estsA σ x s v K' := by
  unfold estsA
  split
  · split
    · exact fun hh => ⟨hh.1, hh.2.1, h _ hh.2.2⟩
    · exact id
  · exact id
theorem clrA_mono {σ : Store} {el : El} {zero x : AV} {K K' : Store → Prop} (h : ∀ s, K s → K' s) : clrA σ el zero x K → clrA σ el zero x K' := by
  unfold clrA
  split
  · exact h _
  · exact h _
  · refine fun hh => ⟨hh.1, hh.2.1, ?_⟩
    have hh := hh.2.2
    split at hh
    · exact ⟨hh.1, hh.2.1, hh.2.2.1, h _ hh.2.2.2⟩
    · exact hh.elim
  · exact id
theorem tasA_ex {T : TypeId} {ok : Bool} {z x : AV} {K : AV → Prop} (hh : tasA T ok z x K) : ∃ v, tasA T ok z x (fun v' => v' = v) ∧ K v := by
  unfold tasA at hh ⊢
  split at hh
  · split at hh
    · rename_i e; exact ⟨_, by rw [if_pos e], hh⟩
    · rename_i e; exact ⟨_, by rw [if_neg e]; exact ⟨hh.1, rfl⟩, hh.2⟩
  · exact ⟨_, ⟨hh.1, rfl⟩, hh.2⟩
  · exact hh.elim
theorem s2aA_ex {σ : Store} {n : Nat} {x : AV} {K : AV → Store → Prop} (hh : s2aA σ n x K) : ∃ v σ', s2aA σ n x (fun v' s' => v' = v ∧ s' = σ') ∧ K v σ' := by
  unfold s2aA at hh ⊢
  split at hh
  · exact ⟨_, _, ⟨hh.1, hh.2.1, hh.2.2.1, rfl, rfl⟩, hh.2.2.2⟩
  · obtain ⟨h0, hh⟩ := hh
    split at hh
    · exact ⟨_, _, ⟨h0, hh.1, hh.2.1, hh.2.2.1, hh.2.2.2.1, hh.2.2.2.2.1, rfl, rfl⟩, hh.2.2.2.2.2⟩
    · exact hh.elim
  · exact hh.elim
theorem mentA_ex {σ : Store} {kd : Option IntKind} {zero x k : AV} {K : AV → Store → Prop} (hh : mentA σ kd zero x k K) : ∃ v σ', mentA σ kd zero x k (fun v' s' => v' = v ∧ s' = σ') ∧ K v σ' := by
  unfold mentA at hh ⊢
  split at hh
  · obtain ⟨h0, hh⟩ := hh
    split at hh
    · split at hh
      · exact ⟨_, _, ⟨h0, rfl, rfl⟩, hh⟩
      · exact ⟨_, _, ⟨h0, rfl, rfl⟩, hh⟩
      · exact hh.elim
    · exact hh.elim
  · exact hh.elim
theorem estsA_ex {σ : Store} {x s v : AV} {K : Store → Prop} (hh : estsA σ x s v K) : ∃ σ', estsA σ x s v (fun s' => s' = σ') ∧ K σ' := by
  unfold estsA at hh ⊢
  split at hh
  · split at hh
    · exact ⟨_, ⟨hh.1, hh.2.1, rfl⟩, hh.2.2⟩
    · exact hh.elim
  · exact hh.elim
theorem frzA_mono {σ : Store} {x : AV} {K K' : AV → Store → Prop} (h : ∀ v s, K v s → K' v s) : frzA σ x K → frzA σ x K' := by
  unfold frzA
  split
  · exact h _ _
  · exact h _ _
  · split
    · exact fun ⟨a, b, c, d⟩ => ⟨a, b, c, h _ _ d⟩
    · exact id
  · exact id
theorem clrA_ex {σ : Store} {el : El} {zero x : AV} {K : Store → Prop} (hh : clrA σ el zero x K) : ∃ σ', clrA σ el zero x (fun s' => s' = σ') ∧ K σ' := by
  unfold clrA at hh ⊢
  split at hh
  · exact ⟨_, rfl, hh⟩
  · exact ⟨_, rfl, hh⟩
  · obtain ⟨h0, h1, hh⟩ := hh
    split at hh
    · exact ⟨_, ⟨h0, h1, hh.1, hh.2.1, hh.2.2.1, rfl⟩, hh.2.2.2⟩
    · exact hh.elim
  · exact hh.elim
theorem XOp.run_mono {o : XOp} {vs : List AV} {σ : Store} {K K' Kp Kp' : AV → Store → Prop} (h : ∀ v s, K v s → K' v s) (hp : ∀ v s, Kp v s → Kp' v s) : o.run P vs σ K Kp → o.run P vs σ K' Kp' := by
  unfold XOp.run
  split
  · exact sl3A_mono h
  · exact sl3A_mono h
  · exact h _ _
  · exact fun hh => ⟨hh.1, h _ _ hh.2⟩
  · refine fun hh => ⟨hh.1, ?_⟩
    have hh := hh.2
    split at hh
    · split at hh
      · exact h _ _ hh
      · exact h _ _ hh
      · exact hh.elim
    · exact hh.elim
  · refine fun hh => ⟨hh.1, ?_⟩
    have hh := hh.2
    split at hh
    · split at hh
      · exact h _ _ hh
      · exact hh.elim
    · exact hh.elim
  · exact h _ _
  · split
    · exact h _ _
    · exact id
  · exact slAA_mono fun v => h v σ
  · exact slAA_mono fun v => h v σ
  · exact slAA_mono fun v => h v σ
  · exact slAA_mono fun v => h v σ
  · exact copyA_mono h
  · exact apxA_mono h
  · exact appLA_mono fun v => h v σ
  · exact nilSA_mono fun v => h _ σ
  · exact fun ⟨r, s2, h1, h2, h3⟩ => ⟨r, s2, h1, h2, h _ _ h3⟩
  · exact sl3pA_mono fun v => h v σ
  · exact sl3pA_mono fun v => h v σ
  · split
    · refine fun hh => hh.mono fun o s => ?_
      cases o
      · exact h _ _
      · exact hp _ _
    · exact id
  · exact tasA_mono fun v => h v σ
  · exact s2aA_mono h
  · exact mentA_mono h
  · exact estsA_mono fun s => h _ s
  · exact clrA_mono fun s => h _ s
  · rintro ⟨o, h1, h2⟩
    refine ⟨o, h1, ?_⟩
    cases o
    · exact h _ _ h2
    · exact fun s => hp _ _ (h2 s)
  · exact frzA_mono h
  · exact nilUA_mono fun v => h _ σ
  · exact id
theorem run_mono {o : AOp} {e : Env} {σ : Store} {K K' Kp Kp' : AV → Store → Prop} (h : ∀ v s, K v s → K' v s) (hp : ∀ v s, Kp v s → Kp' v s) : o.run P e σ K Kp → o.run P e σ K' Kp' := by
  cases o <;> simp only [AOp.run]
  case ex o xs => exact XOp.run_mono h hp
  case mv x => exact h _ _
  case alloc T cs => exact h _ _
  case mkvec el => exact h _ _
  case hold => exact h _ _
  case boxT => exact fun hh => ⟨hh.1, h _ _ hh.2⟩
  case allocAt k T cs =>
    split
    · split
      · exact h _ _
      · exact id
    · exact id
  case appAt k T el x y =>
    split
    · split
      · split
        · exact fun hh => ⟨hh.1, hh.2.1, hh.2.2.1, h _ _ hh.2.2.2⟩
        · exact id
      · exact id
    · exact id
  case mksAt k el z x y =>
    split
    · split
      · split
        · exact fun hh => ⟨hh.1, hh.2.1, hh.2.2.1, hh.2.2.2.1, h _ _ hh.2.2.2.2⟩
        · exact id
      · exact id
    · exact id
  case mkifc t x => exact h _ _
  case mkfn f a b => exact h _ _
  case box x => exact fun hh => ⟨hh.1, h _ _ hh.2⟩
  case build z ps => exact buildA_mono (fun v => h _ _) _ _
  case bslice mt el z n ps => exact bsliceA_mono (fun v => by split <;> exact h _ _) _ _
  case load ag n x => exact loadA_mono fun v => h _ _
  case store n x v => exact storeA_mono fun v => h _ _
  case bin op x y => exact binA_mono fun v => h _ _
  case un op x => exact unA_mono fun v => h _ _
  case app T el x y => exact appA_mono h
  case noesc => exact fun hh => ⟨hh.1, h _ _ hh.2⟩
  case usd =>
    split
    · exact h _ _
    · refine fun hh => ⟨hh.1, ?_⟩
      have hh := hh.2
      split at hh
      · exact ⟨hh.1, hh.2.1, hh.2.2.1, h _ _ hh.2.2.2⟩
      · exact hh.elim
    · exact id
  case ustr =>
    split
    · exact fun hh => ⟨hh.1, h _ _ hh.2⟩
    · refine fun hh => ⟨hh.1, hh.2.1, hh.2.2.1, ?_⟩
      have hh := hh.2.2.2
      split at hh
      · obtain ⟨a1, a2, a3, a4, a5, s, a6, a7⟩ := hh
        exact ⟨a1, a2, a3, a4, a5, s, a6, h _ _ a7⟩
      · exact hh.elim
    · exact id
  case p2u =>
    split
    · split
      · exact fun hh => ⟨hh.1, h _ _ hh.2⟩
      · exact id
    · exact id
  case u2p =>
    split
    · split
      · exact fun hh => ⟨hh.1, h _ _ hh.2⟩
      · exact id
    · exact id
  case eqp =>
    split
    · refine fun hh => ⟨hh.1, hh.2.1, ?_⟩
      have hh := hh.2.2
      split at hh
      · exact h _ _ hh
      · exact hh.elim
    · exact id
  case min x xs => exact minsA_mono (fun v => h _ _) _ _
  case max x xs => exact minsA_mono (fun v => h _ _) _ _
  case b2s x => exact fun hh => ⟨hh.1, listA_mono (fun v ⟨s, h1, h2⟩ => ⟨s, h1, h _ _ h2⟩) hh.2⟩
  case pick c a b => split <;> first | exact h _ _ | exact id
  case nilck x => split <;> first | exact h _ _ | exact id
  case eqf => split <;> first | exact h _ _ | exact id
  case cint => split <;> first | exact h _ _ | exact id
  case cid => split <;> first | exact h _ _ | exact id
  case eqnil => split <;> first | exact h _ _ | exact id
  case faddr => split <;> first | exact h _ _ | exact id
  case panic => split <;> first | exact hp _ _ | exact id
  case rngS => split <;> first | exact h _ _ | exact id
  case nxtS =>
    split
    · split
      · split <;> exact h _ _
      · exact id
    · exact id
  case len => split <;> first | exact h _ _ | exact id
  case s2b => split <;> first | exact fun hh => ⟨hh.1, h _ _ hh.2⟩ | exact id
  case ext => split <;> first | exact fun hh => ⟨hh.1, h _ _ hh.2⟩ | exact id
  case field => split <;> first | exact fun hh => ⟨hh.1, hh.2.1, h _ _ hh.2.2⟩ | exact id
  case idxS => split <;> first | exact fun hh => ⟨hh.1, hh.2.1, h _ _ hh.2.2⟩ | exact id
  case idxA => split <;> first | exact fun hh => ⟨hh.1, hh.2.1, hh.2.2.1, hh.2.2.2.1, h _ _ hh.2.2.2.2⟩ | exact id
  case mkslice => split <;> first | exact fun hh => ⟨hh.1, hh.2.1, hh.2.2.1, hh.2.2.2.1, h _ _ hh.2.2.2.2⟩ | exact id
  case slS x lo hi => split <;> first | exact bound_mono (fun _ => bound_mono fun _ => h _ _) | exact id
  case slL el x lo hi =>
    split
    · exact bound_mono (fun _ => bound_mono fun _ => h _ _)
    · exact fun hh => ⟨hh.1, bound_mono (fun _ => bound_mono fun _ => h _ _) hh.2⟩
    · refine fun hh => ⟨hh.1, ?_⟩
      have hh := hh.2
      split at hh
      · exact ⟨hh.1, hh.2.1, hh.2.2.1, bound_mono (fun _ => bound_mono fun _ => h _ _) hh.2.2.2⟩
      · exact hh.elim
    · exact id
  case iaddr el arr x i =>
    intro hh
    split at hh
    · split at hh
      · exact ⟨hh.1, hh.2.1, hh.2.2.1, h _ _ hh.2.2.2⟩
      · refine ⟨hh.1, hh.2.1, hh.2.2.1, ?_⟩
        have hh := hh.2.2.2
        split at hh
        · exact ⟨hh.1, hh.2.1, h _ _ hh.2.2⟩
        · exact hh.elim
      · exact ⟨hh.1, hh.2.1, h _ _ hh.2.2⟩
      · exact ⟨hh.1, hh.2.1, h _ _ hh.2.2⟩
      · exact ⟨hh.1, hh.2.1, h _ _ hh.2.2⟩
      · exact hh.elim
    · exact hh.elim
  case meth f args =>
    split
    · unfold methA
      split
      · exact fun ⟨l, ob, ob', r, h1, h2, h3, h4, h5⟩ => ⟨l, ob, ob', r, h1, h2, h3, h4, h _ _ h5⟩
      · exact id
    · exact id
  case call q f args =>
    split
    · split
      · exact fun ⟨r, h1, h2⟩ => ⟨r, h1, h _ _ h2⟩
      · exact fun hh => hh.mono fun o s => by cases o <;> first | exact h _ _ | exact hp _ _
    · split
      · exact id
      · exact fun hh => hh.mono fun o s => by cases o <;> first | exact h _ _ | exact hp _ _
    · exact id
abbrev Is (v : AV) (σ : Store) : AV → Store → Prop := fun v' σ' => v' = v ∧ σ' = σ
abbrev No : AV → Store → Prop := fun _ _ => False
theorem slAA_ex {el : El} {n : Nat} {p : AV} {lo hi : Option AV} {K : AV → Prop} (hh : slAA el n p lo hi K) : ∃ v, slAA el n p lo hi (fun v' => v' = v) ∧ K v := by
  obtain ⟨v, h1, h2⟩ := bound_ex hh.2
  obtain ⟨u, h3, h4⟩ := bound_ex h2
  exact ⟨_, ⟨hh.1, bound_mono (fun v' e => by subst e; exact bound_mono (fun u' e => by subst e; rfl) h3) h1⟩, h4⟩
theorem bound3_ex {lo : Option AV} {hi mx : AV} {cap : Nat} {K : Nat → Nat → Nat → Prop} (h : bound3 lo hi mx cap K) : ∃ a b c, bound3 lo hi mx cap (fun a' b' c' => a' = a ∧ b' = b ∧ c' = c) ∧ K a b c := by
  obtain ⟨m, h1, h2⟩ := bound_ex h
  obtain ⟨b, h3, h4⟩ := bound_ex h2
  obtain ⟨a, h5, h6⟩ := bound_ex h4
  exact ⟨a, b, m, bound_mono (fun m' e => by subst e; exact bound_mono (fun b' e => by subst e; exact bound_mono (fun a' e => ⟨e, rfl, rfl⟩) h5) h3) h1, h6⟩
theorem sl3pA_ex {el : El} {x : AV} {lo : Option AV} {hi mx : AV} {K : AV → Prop} (hh : sl3pA el x lo hi mx K) : ∃ v, sl3pA el x lo hi mx (fun v' => v' = v) ∧ K v := by
  unfold sl3pA at hh ⊢
  split at hh
  · obtain ⟨a, b, c, h1, h2⟩ := bound3_ex hh
    exact ⟨_, bound3_mono (fun _ _ _ _ => rfl) h1, h2⟩
  · obtain ⟨a, b, c, h1, h2⟩ := bound3_ex hh.2
    exact ⟨_, ⟨hh.1, bound3_mono (fun _ _ _ e => by obtain ⟨rfl, rfl, rfl⟩ := e; rfl) h1⟩, h2⟩
  · obtain ⟨a, b, c, h1, h2⟩ := bound3_ex hh.2
    exact ⟨_, ⟨hh.1, bound3_mono (fun _ _ _ _ => rfl) h1⟩, h2⟩
  · exact hh.elim
theorem XOp.pu_ex {o : XOp} {vs : List AV} {σ : Store} {K Kp : AV → Store → Prop} (hc : o.cls = .pu) (hh : o.run P vs σ K Kp) : ∃ v, (∀ σ', o.run P vs σ' (Is v σ') No) ∧ K v σ := by
  cases o <;> simp only [XOp.cls] at hc <;> (try (cases hc; done))
  · unfold XOp.run at hh ⊢
    split at hh <;> (try (rename_i h; cases h)) <;> first
      | (obtain ⟨v, h1, h2⟩ := slAA_ex hh; exact ⟨v, fun σ' => slAA_mono (fun v' e => ⟨e, rfl⟩) h1, h2⟩)
      | exact hh.elim
  · unfold XOp.run at hh ⊢
    split at hh <;> (try (rename_i h; cases h)) <;> first
      | (obtain ⟨v, h1, h2⟩ := sl3pA_ex hh; exact ⟨v, fun σ' => sl3pA_mono (fun v' e => ⟨e, rfl⟩) h1, h2⟩)
      | exact hh.elim
  · unfold XOp.run at hh ⊢
    split at hh <;> (try (rename_i h; cases h)) <;> first
      | (obtain ⟨v, h1, h2⟩ := tasA_ex hh; exact ⟨v, fun σ' => tasA_mono (fun v' e => ⟨e, rfl⟩) h1, h2⟩)
      | exact hh.elim
theorem XOp.rd_ex {o : XOp} {vs : List AV} {σ : Store} {K Kp : AV → Store → Prop} (hc : o.cls = .rd) (hh : o.run P vs σ K Kp) : ∃ v, (∀ τ, o.run P vs (σ ++ τ) (Is v (σ ++ τ)) No) ∧ K v σ := by
  cases o <;> simp only [XOp.cls] at hc <;> (try (cases hc; done))
  case nilS neg =>
    unfold XOp.run at hh ⊢
    split at hh <;> (try (rename_i h; cases h)) <;> (try exact hh.elim)
    obtain ⟨v, h1, h2⟩ := nilSA_ex hh
    exact ⟨_, fun τ => nilSA_mono (fun v' e => by subst e; exact ⟨rfl, rfl⟩) (h1 τ), h2⟩
  case appL el =>
    unfold XOp.run at hh ⊢
    split at hh <;> (try (rename_i h; cases h)) <;> (try exact hh.elim)
    unfold appLA at hh ⊢
    obtain ⟨ys, h1, h2, h3, h4⟩ := listA_ex hh
    split at h4
    · exact ⟨_, fun τ => listA_mono (fun zs (e : zs = ys) => by subst e; exact ⟨h2, h3, h4.1, rfl, rfl⟩) (h1 τ), h4.2⟩
    · exact ⟨_, fun τ => listA_mono (fun zs (e : zs = ys) => by subst e; exact ⟨h2, h3, h4.1, h4.2.1, rfl, rfl⟩) (h1 τ), h4.2.2⟩
    · exact h4.elim
  case lkup kd ok zero =>
    unfold XOp.run at hh ⊢
    split at hh <;> (try (rename_i h; cases h))
    · exact ⟨_, fun τ => ⟨hh.1, rfl, rfl⟩, hh.2⟩
    · obtain ⟨h0, hh⟩ := hh
      split at hh
      · rename_i h1
        split at hh
        · rename_i h2
          exact ⟨_, fun τ => by simp only [getElem?_app τ h1, h2]; exact ⟨h0, rfl, rfl⟩, hh⟩
        · rename_i h2
          exact ⟨_, fun τ => by simp only [getElem?_app τ h1, h2]; exact ⟨h0, rfl, rfl⟩, hh⟩
        · exact hh.elim
      · exact hh.elim
    · exact hh.elim
  case lenm =>
    unfold XOp.run at hh ⊢
    split at hh <;> (try (rename_i h; cases h))
    · exact ⟨_, fun τ => ⟨rfl, rfl⟩, hh⟩
    · split at hh
      · rename_i h1
        exact ⟨_, fun τ => by simp only [getElem?_app τ h1]; exact ⟨rfl, rfl⟩, hh⟩
      · exact hh.elim
    · exact hh.elim
theorem XOp.al_ex {o : XOp} {vs : List AV} {σ : Store} {K Kp : AV → Store → Prop} (hc : o.cls = .al) (hh : o.run P vs σ K Kp) : ∃ v τ, o.run P vs σ (Is v (σ ++ τ)) No ∧ K v (σ ++ τ) := by
  cases o <;> simp only [XOp.cls] at hc <;> (try (cases hc; done))
  unfold XOp.run at hh ⊢
  split at hh <;> (try (rename_i h; cases h))
  · exact ⟨_, _, ⟨rfl, rfl⟩, hh⟩
  · exact hh.elim
theorem XOp.cls_st {o : XOp} : o.cls ≠ .st ∧ o.cls ≠ .ap := by cases o <;> simp [XOp.cls]
theorem pu_ex {o : AOp} {e : Env} {σ : Store} {K Kp : AV → Store → Prop} (hc : o.cls = .pu) (hh : o.run P e σ K Kp) : ∃ v, (∀ σ', o.run P e σ' (Is v σ') No) ∧ K v σ := by
  cases o <;> simp only [AOp.cls] at hc <;> (try (cases hc; done)) <;> simp only [AOp.run] at hh ⊢
  case ex o xs => exact XOp.pu_ex hc hh
  case mv x => exact ⟨_, fun _ => ⟨rfl, rfl⟩, hh⟩
  case mkifc t x => exact ⟨_, fun _ => ⟨rfl, rfl⟩, hh⟩
  case mkfn f a b => exact ⟨_, fun _ => ⟨rfl, rfl⟩, hh⟩
  case build z ps => obtain ⟨v, h1, h2⟩ := buildA_ex _ _ hh; exact ⟨_, fun _ => buildA_mono (fun v' e => ⟨congrArg AV.agg e, rfl⟩) _ _ h1, h2⟩
  case bslice mt el z n ps =>
    cases mt
    · obtain ⟨v, h1, h2⟩ := bsliceA_ex _ _ hh
      simp only [Bool.false_eq_true, if_false] at h2 ⊢
      exact ⟨_, fun _ => bsliceA_mono (fun v' e => ⟨congrArg (AV.lst true el) e, rfl⟩) _ _ h1, h2⟩
    · cases hc
  case bin op x y => obtain ⟨v, h1, h2⟩ := binA_ex hh; exact ⟨v, fun _ => binA_mono (fun v' e => ⟨e, rfl⟩) h1, h2⟩
  case un op x => obtain ⟨v, h1, h2⟩ := unA_ex hh; exact ⟨v, fun _ => unA_mono (fun v' e => ⟨e, rfl⟩) h1, h2⟩
  case min x xs => obtain ⟨v, h1, h2⟩ := minsA_ex _ _ hh; exact ⟨v, fun _ => minsA_mono (fun v' e => ⟨e, rfl⟩) _ _ h1, h2⟩
  case max x xs => obtain ⟨v, h1, h2⟩ := minsA_ex _ _ hh; exact ⟨v, fun _ => minsA_mono (fun v' e => ⟨e, rfl⟩) _ _ h1, h2⟩
  case pick c a b => split at hh <;> first | exact ⟨_, fun _ => ⟨rfl, rfl⟩, hh⟩ | exact hh.elim
  case nilck x => split at hh <;> first | exact ⟨_, fun _ => ⟨rfl, rfl⟩, hh⟩ | exact hh.elim
  case eqf => split at hh <;> first | exact ⟨_, fun _ => ⟨rfl, rfl⟩, hh⟩ | exact hh.elim
  case cint => split at hh <;> first | exact ⟨_, fun _ => ⟨rfl, rfl⟩, hh⟩ | exact hh.elim
  case cid => split at hh <;> first | exact ⟨_, fun _ => ⟨rfl, rfl⟩, hh⟩ | exact hh.elim
  case eqnil => split at hh <;> first | exact ⟨_, fun _ => ⟨rfl, rfl⟩, hh⟩ | exact hh.elim
  case faddr => split at hh <;> first | exact ⟨_, fun _ => ⟨rfl, rfl⟩, hh⟩ | exact hh.elim
  case len => split at hh <;> first | exact ⟨_, fun _ => ⟨rfl, rfl⟩, hh⟩ | exact hh.elim
  case ext => split at hh <;> first | exact ⟨_, fun _ => ⟨hh.1, rfl, rfl⟩, hh.2⟩ | exact hh.elim
  case field => split at hh <;> first | exact ⟨_, fun _ => ⟨hh.1, hh.2.1, rfl, rfl⟩, hh.2.2⟩ | exact hh.elim
  case idxS => split at hh <;> first | exact ⟨_, fun _ => ⟨hh.1, hh.2.1, rfl, rfl⟩, hh.2.2⟩ | exact hh.elim
  case idxA => split at hh <;> first | exact ⟨_, fun _ => ⟨hh.1, hh.2.1, hh.2.2.1, hh.2.2.2.1, rfl, rfl⟩, hh.2.2.2.2⟩ | exact hh.elim
  case slS x lo hi =>
    split at hh
    · obtain ⟨v, h1, h2⟩ := bound_ex hh
      obtain ⟨u, h3, h4⟩ := bound_ex h2
      exact ⟨_, fun _ => bound_mono (fun v' e => by subst e; exact bound_mono (fun u' e => by subst e; exact ⟨rfl, rfl⟩) h3) h1, h4⟩
    · exact hh.elim
  case call q f args => split at hc <;> cases hc
theorem rd_ex {o : AOp} {e : Env} {σ : Store} {K Kp : AV → Store → Prop} (hc : o.cls = .rd) (hh : o.run P e σ K Kp) : ∃ v, (∀ τ, o.run P e (σ ++ τ) (Is v (σ ++ τ)) No) ∧ K v σ := by
  cases o <;> simp only [AOp.cls] at hc <;> (try (cases hc; done)) <;> simp only [AOp.run] at hh ⊢
  case ex o xs => exact XOp.rd_ex hc hh
  case bslice mt el z n ps => split at hc <;> cases hc
  case load ag n x => obtain ⟨v, h1, h2⟩ := loadA_ex hh; exact ⟨v, fun τ => loadA_mono (fun v' e => ⟨e, rfl⟩) (h1 τ), h2⟩
  case b2s x =>
    obtain ⟨v, h1, s, h2, h3⟩ := listA_ex hh.2
    exact ⟨_, fun τ => ⟨hh.1, listA_mono (fun v' (e : v' = v) => ⟨s, by rw [e]; exact h2, rfl, rfl⟩) (h1 τ)⟩, h3⟩
  case usd el x =>
    split at hh
    · exact ⟨_, fun _ => ⟨rfl, rfl⟩, hh⟩
    · obtain ⟨h0, hh⟩ := hh
      split at hh
      · rename_i h
        refine ⟨_, fun τ => ⟨h0, ?_⟩, hh.2.2.2⟩
        simp only [getElem?_app τ h]
        exact ⟨hh.1, hh.2.1, hh.2.2.1, by trivial⟩
      · exact hh.elim
    · exact hh.elim
  case slL el x lo hi =>
    split at hh
    · obtain ⟨v, h1, h2⟩ := bound_ex hh
      obtain ⟨u, h3, h4⟩ := bound_ex h2
      exact ⟨_, fun _ => bound_mono (fun v' e => by subst e; exact bound_mono (fun u' e => by subst e; exact ⟨rfl, rfl⟩) h3) h1, h4⟩
    · obtain ⟨v, h1, h2⟩ := bound_ex hh.2
      obtain ⟨u, h3, h4⟩ := bound_ex h2
      exact ⟨_, fun _ => ⟨hh.1, bound_mono (fun v' e => by subst e; exact bound_mono (fun u' e => by subst e; exact ⟨rfl, rfl⟩) h3) h1⟩, h4⟩
    · obtain ⟨h0, hh⟩ := hh
      split at hh
      · rename_i h
        obtain ⟨v, h1, h2⟩ := bound_ex hh.2.2.2
        obtain ⟨u, h3, h4⟩ := bound_ex h2
        refine ⟨_, fun τ => ⟨h0, ?_⟩, h4⟩
        simp only [getElem?_app τ h]
        exact ⟨hh.1, hh.2.1, hh.2.2.1, bound_mono (fun v' e => by subst e; exact bound_mono (fun u' e => by subst e; exact ⟨rfl, rfl⟩) h3) h1⟩
      · exact hh.elim
    · exact hh.elim
  case iaddr el arr x i =>
    split at hh
    · split at hh
      · exact ⟨_, fun τ => ⟨hh.1, hh.2.1, hh.2.2.1, rfl, rfl⟩, hh.2.2.2⟩
      · obtain ⟨h0, h1, h2, hh⟩ := hh
        split at hh
        · rename_i h
          refine ⟨_, fun τ => ⟨h0, h1, h2, ?_⟩, hh.2.2⟩
          simp only [getElem?_app τ h]
          exact ⟨hh.1, hh.2.1, by trivial⟩
        · exact hh.elim
      · exact ⟨_, fun τ => ⟨hh.1, hh.2.1, rfl, rfl⟩, hh.2.2⟩
      · exact ⟨_, fun τ => ⟨hh.1, hh.2.1, rfl, rfl⟩, hh.2.2⟩
      · exact ⟨_, fun τ => ⟨hh.1, hh.2.1, rfl, rfl⟩, hh.2.2⟩
      · exact hh.elim
    · exact hh.elim
  case call q f args =>
    cases q with
    | false => cases hc
    | true =>
      split at hh
      · simp only [if_true] at hh ⊢
        obtain ⟨r, h1, h2⟩ := hh
        exact ⟨r, fun τ => ⟨r, fun τ' => by rw [List.append_assoc σ]; exact h1 _, rfl, rfl⟩, h2⟩
      · exact hh.elim
      · exact hh.elim
theorem al_ex {o : AOp} {e : Env} {σ : Store} {K Kp : AV → Store → Prop} (hc : o.cls = .al) (hh : o.run P e σ K Kp) : ∃ v τ, o.run P e σ (Is v (σ ++ τ)) No ∧ K v (σ ++ τ) := by
  cases o <;> simp only [AOp.cls] at hc <;> (try (cases hc; done)) <;> simp only [AOp.run] at hh ⊢
  case ex o xs => exact XOp.al_ex hc hh
  case alloc T cs => exact ⟨_, _, ⟨rfl, rfl⟩, hh⟩
  case boxT => exact ⟨_, _, ⟨hh.1, rfl, rfl⟩, hh.2⟩
  case mkvec el => exact ⟨_, _, ⟨rfl, rfl⟩, hh⟩
  case box x => exact ⟨_, _, ⟨hh.1, rfl, rfl⟩, hh.2⟩
  case s2b x => split at hh <;> first | exact ⟨_, _, ⟨hh.1, rfl, rfl⟩, hh.2⟩ | exact hh.elim
  case mkslice => split at hh <;> first | exact ⟨_, _, ⟨hh.1, hh.2.1, hh.2.2.1, hh.2.2.2.1, rfl, rfl⟩, hh.2.2.2.2⟩ | exact hh.elim
  case call q f args => split at hc <;> cases hc
  case bslice mt el z n ps =>
    cases mt
    · cases hc
    · obtain ⟨v, h1, h2⟩ := bsliceA_ex _ _ hh
      simp only [if_true] at h2 ⊢
      exact ⟨_, _, bsliceA_mono (fun v' e => by subst e; exact ⟨rfl, rfl⟩) _ _ h1, h2⟩
theorem storeA_ex {σ : Store} {n : Nat} {p v : AV} {K : Store → Prop} (hh : storeA σ n p v K) : ∃ l o o', σ[l]? = some o ∧ o.like o' ∧ p.obj = some l ∧ storeA σ n p v (fun s => s = σ.set l o') ∧ K (σ.set l o') := by
  unfold storeA at hh
  obtain ⟨h1, h2, hh⟩ := hh
  split at hh
  · split at hh
    · rename_i h
      exact ⟨_, _, _, h, trivial, rfl, by simp only [storeA, h]; exact ⟨h1, h2, hh.1, trivial⟩, hh.2⟩
    · exact hh.elim
  · split at hh
    · rename_i h
      obtain ⟨e1, e2, e3, e4, e5, hK⟩ := hh
      subst e1
      exact ⟨_, _, _, h, ⟨_, rfl, by simp⟩, rfl, by simp only [storeA, h]; exact ⟨h1, h2, trivial, e2, e3, e4, e5, trivial⟩, hK⟩
    · exact hh.elim
  · exact hh.elim
theorem st_ex {o : AOp} {e : Env} {σ : Store} {K Kp : AV → Store → Prop} (hc : o.cls = .st) (hh : o.run P e σ K Kp) : ∃ v σ', o.run P e σ (Is v σ') No ∧ K v σ' := by
  cases o <;> simp only [AOp.cls] at hc <;> (try (cases hc; done)) <;> simp only [AOp.run] at hh ⊢
  case ex => exact absurd hc XOp.cls_st.1
  case bslice => split at hc <;> cases hc
  case call => split at hc <;> cases hc
  case meth f args =>
    split at hh
    · unfold methA at *
      split at hh
      · obtain ⟨l, ob, ob', r, h1, h2, h3, h4, h5⟩ := hh
        exact ⟨r, _, ⟨l, ob, ob', r, h1, h2, h3, h4, rfl, rfl⟩, h5⟩
      · exact hh.elim
    · exact hh.elim
  case store n x v =>
    obtain ⟨l, o, o', _, _, _, h1, h2⟩ := storeA_ex hh
    exact ⟨_, _, storeA_mono (fun s e => ⟨rfl, e⟩) h1, h2⟩
  case allocAt k T cs =>
    split at hh
    · rename_i n h1
      split at hh
      · rename_i h2
        exact ⟨_, _, ⟨rfl, rfl⟩, hh⟩
      · exact hh.elim
    · exact hh.elim
  case appAt k T el x y =>
    split at hh
    · split at hh
      · split at hh
        · exact ⟨_, _, ⟨hh.1, hh.2.1, hh.2.2.1, rfl, rfl⟩, hh.2.2.2⟩
        · exact hh.elim
      · exact hh.elim
    · exact hh.elim
  case mksAt k el z x y =>
    split at hh
    · split at hh
      · split at hh
        · exact ⟨_, _, ⟨hh.1, hh.2.1, hh.2.2.1, hh.2.2.2.1, rfl, rfl⟩, hh.2.2.2.2⟩
        · exact hh.elim
      · exact hh.elim
    · exact hh.elim
theorem ap_ex {o : AOp} {e : Env} {σ : Store} {K Kp : AV → Store → Prop} (hc : o.cls = .ap) (hh : o.run P e σ K Kp) : ∃ v σ', o.run P e σ (Is v σ') No ∧ K v σ' := by
  cases o <;> simp only [AOp.cls] at hc <;> (try (cases hc; done)) <;> simp only [AOp.run] at hh ⊢
  case ex => exact absurd hc XOp.cls_st.2
  case bslice => split at hc <;> cases hc
  case call => split at hc <;> cases hc
  case app T el x y =>
    have key : ∀ ys : List AV, ∀ K' : AV → Store → Prop, (ys.all (fun a => a.fits el) = true ∧ match x.ev e with
        | .nils => if ys.length = 0 then K' .nils σ else roomOk ys.length el ∧ K' (.own el σ.length ys.length 0 ys.length) (σ ++ [.vecT T el ys])
        | .lst true el' xs => el' = el ∧ if ys.length = 0 then K' (.lst true el xs) σ else roomOk (xs.length + ys.length) el ∧ K' (.own el σ.length (xs.length + ys.length) 0 (xs.length + ys.length)) (σ ++ [.vecT T el (xs ++ ys)])
        | .own el' l m lo n => el' = el ∧ match σ[l]? with
          | some (.vecT T' el'' xs) => (T' = none ∨ T' = T) ∧ el'' = el ∧ m = xs.length ∧ lo = 0 ∧ n = xs.length ∧ roomOk (xs.length + ys.length) el ∧ K' (.own el l (xs.length + ys.length) 0 (xs.length + ys.length)) (σ.set l (.vecT T' el (xs ++ ys)))
          | _ => False
        | _ => False) → ∃ v σ', K' v σ' ∧ (ys.all (fun a => a.fits el) = true ∧ match x.ev e with
        | .nils => if ys.length = 0 then Is v σ' .nils σ else roomOk ys.length el ∧ Is v σ' (.own el σ.length ys.length 0 ys.length) (σ ++ [.vecT T el ys])
        | .lst true el' xs => el' = el ∧ if ys.length = 0 then Is v σ' (.lst true el xs) σ else roomOk (xs.length + ys.length) el ∧ Is v σ' (.own el σ.length (xs.length + ys.length) 0 (xs.length + ys.length)) (σ ++ [.vecT T el (xs ++ ys)])
        | .own el' l m lo n => el' = el ∧ match σ[l]? with
          | some (.vecT T' el'' xs) => (T' = none ∨ T' = T) ∧ el'' = el ∧ m = xs.length ∧ lo = 0 ∧ n = xs.length ∧ roomOk (xs.length + ys.length) el ∧ Is v σ' (.own el l (xs.length + ys.length) 0 (xs.length + ys.length)) (σ.set l (.vecT T' el (xs ++ ys)))
          | _ => False
        | _ => False) := fun ys K' => by
      rintro ⟨h1, h2⟩
      split at h2
      · split at h2
        · exact ⟨_, _, h2, h1, by rw [if_pos (by assumption)]; exact ⟨rfl, rfl⟩⟩
        · exact ⟨_, _, h2.2, h1, by rw [if_neg (by assumption)]; exact ⟨h2.1, rfl, rfl⟩⟩
      · obtain ⟨rfl, h2⟩ := h2
        split at h2
        · exact ⟨_, _, h2, h1, rfl, by rw [if_pos (by assumption)]; exact ⟨rfl, rfl⟩⟩
        · exact ⟨_, _, h2.2, h1, rfl, by rw [if_neg (by assumption)]; exact ⟨h2.1, rfl, rfl⟩⟩
      · obtain ⟨rfl, h2⟩ := h2
        split at h2
        · rename_i hk
          refine ⟨_, _, h2.2.2.2.2.2.2, h1, rfl, ?_⟩
          exact ⟨h2.1, h2.2.1, h2.2.2.1, h2.2.2.2.1, h2.2.2.2.2.1, h2.2.2.2.2.2.1, rfl, rfl⟩
        · exact h2.elim
      · exact h2.elim
    have hh : listA σ el (y.ev e) fun ys => ∃ v σ', K v σ' ∧ _ := listA_mono (fun ys h => key ys K h) hh
    have out : ∀ {B : List AV → AV → Store → Prop}, (listA σ el (y.ev e) fun ys => ∃ v σ', K v σ' ∧ B ys v σ') → ∃ v σ', (listA σ el (y.ev e) fun ys => B ys v σ') ∧ K v σ' := fun {B} h => by
      unfold listA at *
      split at h
      · obtain ⟨v, s, h1, h2⟩ := h; exact ⟨v, s, h2, h1⟩
      · obtain ⟨h0, v, s, h1, h2⟩ := h; exact ⟨v, s, ⟨h0, h2⟩, h1⟩
      · obtain ⟨h0, h⟩ := h
        split at h
        · obtain ⟨q1, q2, v, s, h1, h2⟩ := h; exact ⟨v, s, ⟨h0, q1, q2, h2⟩, h1⟩
        · exact h.elim
      · obtain ⟨h0, v, s, h1, h2⟩ := h; exact ⟨v, s, ⟨h0, h2⟩, h1⟩
      · obtain ⟨h0, h0', h⟩ := h
        obtain ⟨u, h1, v, s, h2, h3⟩ := loadA_ex h
        exact ⟨v, s, ⟨h0, h0', loadA_mono (fun u' (e : u' = u) => by subst e; exact h3) (by simpa using h1 [])⟩, h2⟩
      · exact h.elim
    exact out hh
theorem listA_one {σ : Store} {el : El} {x : AV} {K : List AV → Prop} (hh : listA σ el x K) : ∃ v, listA σ el x (fun v' => v' = v) ∧ K v := by
  obtain ⟨v, h1, h2⟩ := listA_ex hh
  exact ⟨v, by simpa using h1 [], h2⟩
theorem appA_ex {σ : Store} {T : Option TypeId} {el : El} {x y : AV} {K : AV → Store → Prop} (hh : appA σ T el x y K) : ∃ v σ', appA σ T el x y (Is v σ') ∧ K v σ' := by
  have := ap_ex (P := default) (o := .app T el (.c x) (.c y)) (e := fun _ => .undef) (σ := σ) (K := K) (Kp := No) rfl hh
  obtain ⟨v, σ', h1, h2⟩ := this
  exact ⟨v, σ', h1, h2⟩
theorem frzA_ex {σ : Store} {x : AV} {K : AV → Store → Prop} (hh : frzA σ x K) : ∃ v σ', frzA σ x (Is v σ') ∧ K v σ' := by
  unfold frzA at hh ⊢
  split at hh
  · exact ⟨_, _, ⟨rfl, rfl⟩, hh⟩
  · exact ⟨_, _, ⟨rfl, rfl⟩, hh⟩
  · split at hh
    · exact ⟨_, _, ⟨hh.1, hh.2.1, hh.2.2.1, rfl, rfl⟩, hh.2.2.2⟩
    · exact hh.elim
  · exact hh.elim
theorem XOp.det {o : XOp} {vs : List AV} {σ : Store} {K Kp : AV → Store → Prop} (hni : o.cls ≠ .no) (hh : o.run P vs σ K Kp) : ∃ v σ', o.run P vs σ (Is v σ') No ∧ K v σ' := by
  cases o with
  | inv n => exact absurd rfl hni
  | pc n => exact absurd rfl hni
  | nilU n => exact absurd rfl hni
  | cw n k lds =>
    unfold XOp.run at hh ⊢
    split at hh <;> (try (rename_i h; cases h)) <;> (try exact hh.elim)
    obtain ⟨r, s2, h1, h2, h3⟩ := hh
    exact ⟨r, s2, ⟨r, s2, h1, h2, rfl, rfl⟩, h3⟩
  | nilS neg =>
    obtain ⟨v, h1, h2⟩ := XOp.rd_ex (o := .nilS neg) rfl hh
    exact ⟨v, σ, by simpa using h1 [], h2⟩
  | appL el =>
    obtain ⟨v, h1, h2⟩ := XOp.rd_ex (o := .appL el) rfl hh
    exact ⟨v, σ, by simpa using h1 [], h2⟩
  | sl3p el lo =>
    obtain ⟨v, h1, h2⟩ := XOp.pu_ex (o := .sl3p el lo) rfl hh
    exact ⟨v, σ, h1 _, h2⟩
  | tas T ok z =>
    obtain ⟨v, h1, h2⟩ := XOp.pu_ex (o := .tas T ok z) rfl hh
    exact ⟨v, σ, h1 _, h2⟩
  | s2a n =>
    unfold XOp.run at hh ⊢
    split at hh <;> (try (rename_i h; cases h)) <;> (try exact hh.elim)
    obtain ⟨v, σ', h1, h2⟩ := s2aA_ex hh
    exact ⟨v, σ', h1, h2⟩
  | ment kd z =>
    unfold XOp.run at hh ⊢
    split at hh <;> (try (rename_i h; cases h)) <;> (try exact hh.elim)
    obtain ⟨v, σ', h1, h2⟩ := mentA_ex hh
    exact ⟨v, σ', h1, h2⟩
  | ests =>
    unfold XOp.run at hh ⊢
    split at hh <;> (try (rename_i h; cases h)) <;> (try exact hh.elim)
    obtain ⟨σ', h1, h2⟩ := estsA_ex hh
    exact ⟨_, σ', estsA_mono (fun s e => ⟨rfl, e⟩) h1, h2⟩
  | clr el z =>
    unfold XOp.run at hh ⊢
    split at hh <;> (try (rename_i h; cases h)) <;> (try exact hh.elim)
    obtain ⟨σ', h1, h2⟩ := clrA_ex hh
    exact ⟨_, σ', clrA_mono (fun s e => ⟨rfl, e⟩) h1, h2⟩
  | frz =>
    unfold XOp.run at hh ⊢
    split at hh <;> (try (rename_i h; cases h)) <;> (try exact hh.elim)
    obtain ⟨v, σ', h1, h2⟩ := frzA_ex hh
    exact ⟨v, σ', h1, h2⟩
  | slA el n lo hi =>
    obtain ⟨v, h1, h2⟩ := XOp.pu_ex (o := .slA el n lo hi) rfl hh
    exact ⟨v, σ, h1 σ, h2⟩
  | lkup kd ok zero =>
    obtain ⟨v, h1, h2⟩ := XOp.rd_ex (o := .lkup kd ok zero) rfl hh
    exact ⟨v, σ, by simpa using h1 [], h2⟩
  | lenm =>
    obtain ⟨v, h1, h2⟩ := XOp.rd_ex (o := .lenm) rfl hh
    exact ⟨v, σ, by simpa using h1 [], h2⟩
  | mkmap =>
    obtain ⟨v, τ, h1, h2⟩ := XOp.al_ex (o := .mkmap) rfl hh
    exact ⟨v, _, h1, h2⟩
  | mapset kd =>
    unfold XOp.run at hh ⊢
    split at hh <;> (try (rename_i h; cases h)) <;> (try exact hh.elim)
    obtain ⟨h0, hh⟩ := hh
    split at hh
    · rename_i h1
      split at hh
      · rename_i h2
        refine ⟨_, _, ?_, hh⟩
        exact ⟨h0, rfl, rfl⟩
      · exact hh.elim
    · exact hh.elim
  | sl3 el lo =>
    have key : ∀ {x : AV} {l : Option AV} {h m : AV}, sl3A σ el x l h m K → ∃ v σ', sl3A σ el x l h m (Is v σ') ∧ K v σ' := fun {x l h m} hh => by
      unfold sl3A at hh ⊢
      split at hh
      · obtain ⟨a, b, c, h1, h2⟩ := bound3_ex hh
        exact ⟨_, _, bound3_mono (fun _ _ _ _ => ⟨rfl, rfl⟩) h1, h2⟩
      · obtain ⟨a, b, c, h1, h2⟩ := bound3_ex hh.2
        exact ⟨_, _, ⟨hh.1, bound3_mono (fun _ _ _ e => by obtain ⟨rfl, rfl, rfl⟩ := e; exact ⟨rfl, rfl⟩) h1⟩, h2⟩
      · obtain ⟨h0, hh⟩ := hh
        split at hh
        · rename_i hk
          obtain ⟨k1, k2, k3, hh⟩ := hh
          obtain ⟨a, b, c, h1, h2⟩ := bound3_ex hh
          by_cases e : c = a
          · rw [if_pos e] at h2
            exact ⟨_, _, ⟨h0, k1, k2, k3, bound3_mono (fun _ _ _ e' => by obtain ⟨rfl, rfl, rfl⟩ := e'; rw [if_pos e]; exact ⟨rfl, rfl⟩) h1⟩, h2⟩
          · rw [if_neg e] at h2
            exact ⟨_, _, ⟨h0, k1, k2, k3, bound3_mono (fun _ _ _ e' => by obtain ⟨rfl, rfl, rfl⟩ := e'; rw [if_neg e]; exact ⟨h2.1, rfl, rfl⟩) h1⟩, h2.2⟩
        · exact hh.elim
      · exact hh.elim
    unfold XOp.run at hh ⊢
    split at hh <;> (try (rename_i h; cases h)) <;> first | exact key hh | exact hh.elim
  | copy el =>
    unfold XOp.run at hh ⊢
    split at hh <;> (try (rename_i h; cases h)) <;> (try exact hh.elim)
    · rename_i x y
      obtain ⟨ys, h1, h2, h3⟩ := listA_one hh
      have key : ∃ v σ', copyTo σ el x ys (Is v σ') ∧ K v σ' := by
        unfold copyTo at h3 ⊢
        split at h3
        · exact ⟨_, _, ⟨rfl, rfl⟩, h3⟩
        · exact ⟨_, _, ⟨h3.1, rfl, rfl⟩, h3.2⟩
        · obtain ⟨l, o, o', _, _, _, h4, h5⟩ := storeA_ex h3.2.2
          exact ⟨_, _, ⟨h3.1, h3.2.1, storeA_mono (fun s e => ⟨rfl, e⟩) h4⟩, h5⟩
        · obtain ⟨h0, h3⟩ := h3
          split at h3
          · exact ⟨_, _, ⟨h0, h3.1, h3.2.1, h3.2.2.1, rfl, rfl⟩, h3.2.2.2⟩
          · exact h3.elim
        · exact h3.elim
      obtain ⟨v, σ', h4, h5⟩ := key
      exact ⟨v, σ', listA_mono (fun ys' (e : ys' = ys) => by subst e; exact ⟨h2, h4⟩) h1, h5⟩
  | apx el =>
    unfold XOp.run at hh ⊢
    split at hh <;> (try (rename_i h; cases h)) <;> (try exact hh.elim)
    · unfold apxA at hh ⊢
      split at hh
      · obtain ⟨h0, hh⟩ := hh
        obtain ⟨ys, h1, h2, h3⟩ := listA_one hh
        split at h3
        · rename_i hk
          refine ⟨_, _, ⟨h0, listA_mono (fun ys' (e : ys' = ys) => ⟨e ▸ h2, ?_⟩) h1⟩, h3.2.2.2.2⟩
          subst e
          exact ⟨h3.1, h3.2.1, h3.2.2.1, h3.2.2.2.1, rfl, rfl⟩
        · exact h3.elim
      · exact appA_ex hh
def AOp.D (P : Program) (o : AOp) (e : Env) (σ : Store) (v : AV) (σ' : Store) : Prop :=
  match o.cls with
  | .pu => (∀ s, o.run P e s (Is v s) No) ∧ σ' = σ
  | .rd => (∀ τ, o.run P e (σ ++ τ) (Is v (σ ++ τ)) No) ∧ σ' = σ
  | .al => o.run P e σ (Is v σ') No
  | .st => o.run P e σ (Is v σ') No
  | .ap => o.run P e σ (Is v σ') No
  | .cw => o.run P e σ (Is v σ') No
  | .no => False
theorem run_of_is {o : AOp} {e : Env} {σ : Store} {K Kp : AV → Store → Prop} {v : AV} {σ' : Store} (hK : K v σ') (h : o.run P e σ (Is v σ') No) : o.run P e σ K Kp :=
  run_mono (fun v' s h => by obtain ⟨e1, e2⟩ := h; subst e1; subst e2; exact hK) (fun _ _ h => False.elim h) h
theorem cw_ex {o : AOp} {e : Env} {σ : Store} {K Kp : AV → Store → Prop} (hc : o.cls = .cw) (hh : o.run P e σ K Kp) : ∃ v σ', o.run P e σ (Is v σ') No ∧ K v σ' := by
  cases o <;> simp only [AOp.cls] at hc <;> (try (cases hc; done))
  case bslice => split at hc <;> cases hc
  case call => split at hc <;> cases hc
  case ex o xs => exact XOp.det (by rw [hc]; decide) (show o.run P (xs.map (AX.ev e)) σ K Kp from hh)
theorem run_iff {o : AOp} {e : Env} {σ : Store} {K Kp : AV → Store → Prop} (hc : o.cls ≠ .no) : o.run P e σ K Kp ↔ ∃ v σ', o.D P e σ v σ' ∧ K v σ' := by
  unfold AOp.D
  constructor
  · intro hh
    split
    · rename_i h; obtain ⟨v, h1, h2⟩ := pu_ex h hh; exact ⟨v, σ, ⟨h1, rfl⟩, h2⟩
    · rename_i h; obtain ⟨v, h1, h2⟩ := rd_ex h hh; exact ⟨v, σ, ⟨h1, rfl⟩, h2⟩
    · rename_i h; obtain ⟨v, τ, h1, h2⟩ := al_ex h hh; exact ⟨v, _, h1, h2⟩
    · rename_i h; exact st_ex h hh
    · rename_i h; exact ap_ex h hh
    · rename_i h; exact cw_ex h hh
    · rename_i h; exact (hc h).elim
  · rintro ⟨v, σ', hD, hK⟩
    split at hD
    · obtain ⟨h1, rfl⟩ := hD
      exact run_of_is hK (h1 _)
    · obtain ⟨h1, rfl⟩ := hD
      have h2 := h1 []
      rw [List.append_nil] at h2
      exact run_of_is hK h2
    · exact run_of_is hK hD
    · exact run_of_is hK hD
    · exact run_of_is hK hD
    · exact run_of_is hK hD
    · exact hD.elim
theorem D_congr {o : AOp} {e e' : Env} {σ : Store} {v : AV} {σ' : Store} (h : ∀ t ∈ o.uses, e t = e' t) (hD : o.D P e σ v σ') : o.D P e' σ v σ' := by
  unfold AOp.D at *
  split at hD
  · exact ⟨fun s => by rw [← run_congr h]; exact hD.1 s, hD.2⟩
  · exact ⟨fun s => by rw [← run_congr h]; exact hD.1 s, hD.2⟩
  · rw [← run_congr h]; exact hD
  · rw [← run_congr h]; exact hD
  · rw [← run_congr h]; exact hD
  · rw [← run_congr h]; exact hD
  · exact hD.elim
theorem D_same {o : AOp} {e : Env} {σ : Store} {v : AV} {σ' : Store} (hc : o.cls = .pu ∨ o.cls = .rd) (hD : o.D P e σ v σ') : σ' = σ := by
  unfold AOp.D at hD
  rcases hc with hc | hc <;> simp only [hc] at hD <;> exact hD.2
theorem D_push {o : AOp} {e : Env} {σ : Store} {v : AV} {σ' : Store} (hc : o.cls = .pu ∨ o.cls = .rd) (hD : o.D P e σ v σ') (τ : Store) : o.D P e (σ ++ τ) v (σ ++ τ) := by
  unfold AOp.D at *
  rcases hc with hc | hc <;> simp only [hc] at hD ⊢
  · exact ⟨hD.1, trivial⟩
  · exact ⟨fun τ'' => by rw [List.append_assoc]; exact hD.1 _, trivial⟩
theorem D_pure {o : AOp} {e : Env} {σ : Store} {v : AV} {σ' : Store} (hc : o.cls = .pu) (hD : o.D P e σ v σ') (s : Store) : o.D P e s v s := by
  unfold AOp.D at *
  simp only [hc] at hD ⊢
  exact ⟨hD.1, trivial⟩
theorem D_al {o : AOp} {e : Env} {σ : Store} {v : AV} {σ' : Store} (hc : o.cls = .al) (hD : o.D P e σ v σ') : ∃ τ, σ' = σ ++ τ := by
  unfold AOp.D at hD
  simp only [hc] at hD
  obtain ⟨v', τ, _, h⟩ := al_ex hc hD
  exact ⟨τ, h.2.symm⟩
def AOp.readsAt : AOp → Option (Option AX)
  | .load _ _ x => some (some x)
  | .slL .. | .iaddr .. => some none
  | _ => none
def AOp.storesAt : AOp → Option AX
  | .store _ x _ => some x
  | .meth _ (x :: _) => some x
  | .allocAt k _ _ => some (.t k)
  | .appAt k _ _ _ _ => some (.t k)
  | .mksAt k _ _ _ _ => some (.t k)
  | .app _ _ x _ => some x
  | _ => none
def apartA (p q : AV) : Prop := ∀ l, p.obj = some l → q.obj = some l → False
theorem set_app {σ τ : Store} {l : Nat} {o : AObj} (h : l < σ.length) : σ.set l o ++ τ = (σ ++ τ).set l o := by
  rw [List.set_append_left _ _ h]
theorem loadA_set {σ : Store} {ag : Bool} {n : Nat} {p : AV} {K : AV → Prop} {l : Nat} {o : AObj} (h : p.obj ≠ some l) (hh : loadA σ ag n p K) : loadA (σ.set l o) ag n p K := by
  unfold loadA at *
  split at hh
  · rename_i l' off
    have hne : l ≠ l' := fun e => h (by rw [e]; rfl)
    rw [List.getElem?_set_ne hne]; exact hh
  · exact hh
  · rename_i el l' m i off
    have hne : l ≠ l' := fun e => h (by rw [e]; rfl)
    rw [List.getElem?_set_ne hne]; exact hh
  · exact hh
theorem D_set {o : AOp} {e : Env} {σ : Store} {v : AV} {σ' : Store} {l : Nat} {ob ob' : AObj} {rx : Option AX} (hr : o.readsAt = some rx) (hl : σ[l]? = some ob) (hlike : ob.like ob') (hap : ∀ x, rx = some x → (x.ev e).obj ≠ some l) (hD : o.D P e σ v σ') :
    o.D P e (σ.set l ob') v (σ.set l ob') := by
  have hlt : l < σ.length := (List.getElem?_eq_some_iff.1 hl).1
  have hc : o.cls = .rd := by cases o <;> simp [AOp.readsAt] at hr <;> rfl
  unfold AOp.D at *
  simp only [hc] at hD ⊢
  refine ⟨fun τ => ?_, trivial⟩
  have h := hD.1 τ
  rw [set_app hlt]
  have hl' : (σ ++ τ)[l]? = some ob := getElem?_app τ hl
  generalize σ ++ τ = s at *
  have hlt' : l < s.length := (List.getElem?_eq_some_iff.1 hl').1
  have shape : ∀ (k : Nat) (T : Option TypeId) (el : El) (xs : List AV), s[k]? = some (.vecT T el xs) → ∃ ys, (s.set l ob')[k]? = some (.vecT T el ys) ∧ ys.length = xs.length := fun k T el xs hk => by
    by_cases hkl : l = k
    · subst hkl
      rw [hl'] at hk
      cases hk
      obtain ⟨ys, rfl, h2⟩ := hlike
      exact ⟨ys, by simp [hlt'], h2⟩
    · exact ⟨xs, by rw [List.getElem?_set_ne hkl]; exact hk, rfl⟩
  cases o <;> simp only [AOp.readsAt] at hr <;> (try (cases hr; done)) <;> simp only [AOp.run] at h ⊢
  case load ag n x =>
    cases hr
    exact loadA_mono (fun v' h => ⟨h.1, rfl⟩) (loadA_set (hap x rfl) h)
  case slL el x lo hi =>
    split at h
    · exact bound_mono (fun _ => bound_mono fun _ h => ⟨h.1, rfl⟩) h
    · exact ⟨h.1, bound_mono (fun _ => bound_mono fun _ h => ⟨h.1, rfl⟩) h.2⟩
    · refine ⟨h.1, ?_⟩
      have h := h.2
      split at h
      · rename_i hk
        obtain ⟨ys, h1, h2⟩ := shape _ _ _ _ hk
        simp only [h1, h2]
        exact ⟨h.1, h.2.1, h.2.2.1, bound_mono (fun _ => bound_mono fun _ h => ⟨h.1, rfl⟩) h.2.2.2⟩
      · exact h.elim
    · exact h
  case iaddr el arr x i =>
    split at h
    · split at h
      · exact ⟨h.1, h.2.1, h.2.2.1, h.2.2.2.1, rfl⟩
      · refine ⟨h.1, h.2.1, h.2.2.1, ?_⟩
        have h := h.2.2.2
        split at h
        · rename_i hk
          obtain ⟨ys, h1, h2⟩ := shape _ _ _ _ hk
          simp only [h1, h2]
          exact ⟨h.1, h.2.1, h.2.2.1, rfl⟩
        · exact h.elim
      · exact ⟨h.1, h.2.1, h.2.2.1, rfl⟩
      · exact ⟨h.1, h.2.1, h.2.2.1, rfl⟩
      · exact ⟨h.1, h.2.1, h.2.2.1, rfl⟩
      · exact h.elim
    · exact h.elim
theorem D_st {o : AOp} {e : Env} {σ : Store} {v : AV} {σ' : Store} (hc : o.cls = .st) (hD : o.D P e σ v σ') : ∃ y l ob ob', o.storesAt = some y ∧ σ[l]? = some ob ∧ ob.like ob' ∧ (y.ev e).obj = some l ∧ σ' = σ.set l ob' := by
  unfold AOp.D at hD
  simp only [hc] at hD
  cases o <;> simp only [AOp.cls] at hc <;> (try (cases hc; done)) <;> simp only [AOp.run] at hD
  case ex => exact absurd hc XOp.cls_st.1
  case bslice => split at hc <;> cases hc
  case call => split at hc <;> cases hc
  case meth f args =>
    split at hD
    · cases args with
      | nil => exact hD.elim
      | cons x xs =>
        obtain ⟨l, ob, ob', r, h1, h2, h3, _, h5⟩ := hD
        exact ⟨x, l, ob, ob', rfl, h2, h3, h1, h5.2.symm⟩
    · exact hD.elim
  case store n x v =>
    obtain ⟨l, ob, ob', h1, h2, h3, _, h5⟩ := storeA_ex hD
    exact ⟨x, l, ob, ob', rfl, h1, h2, h3, h5.2.symm⟩
  case allocAt k T cs =>
    split at hD
    · rename_i n h1
      split at hD
      · rename_i h2
        refine ⟨.t k, n, .resv, .cellsT T cs, rfl, h2, trivial, ?_, hD.2.symm⟩
        simp only [AX.ev, h1, AV.obj]
      · exact hD.elim
    · exact hD.elim
  case appAt k T el x y =>
    split at hD
    · rename_i n h1
      split at hD
      · rename_i h2
        split at hD
        · refine ⟨.t k, n, .resv, .vecT T el _, rfl, h2, trivial, ?_, hD.2.2.2.2.symm⟩
          simp only [AX.ev, h1, AV.obj]
        · exact hD.elim
      · exact hD.elim
    · exact hD.elim
  case mksAt k el z x y =>
    split at hD
    · rename_i n h1
      split at hD
      · rename_i h2
        split at hD
        · refine ⟨.t k, n, .resv, .vec el _, rfl, h2, trivial, ?_, hD.2.2.2.2.2.symm⟩
          simp only [AX.ev, h1, AV.obj]
        · exact hD.elim
      · exact hD.elim
    · exact hD.elim
def AOp.resAt : AOp → Option Nat
  | .allocAt k _ _ => some k
  | .appAt k _ _ _ _ => some k
  | .mksAt k _ _ _ _ => some k
  | _ => none
theorem D_res {o : AOp} {k : Nat} {e : Env} {σ : Store} {v : AV} {σ' : Store} (h : o.resAt = some k) (hD : o.D P e σ v σ') :
    ∃ n ob, e k = .ref n 0 ∧ σ[n]? = some .resv ∧ ob ≠ .resv ∧ σ' = σ.set n ob ∧ ∀ s : Store, s[n]? = some .resv → o.D P e s v (s.set n ob) := by
  cases o <;> simp [AOp.resAt] at h
  case allocAt k' T cs =>
    subst h
    have hD : AOp.run P (.allocAt k' T cs) e σ (Is v σ') No := hD
    simp only [AOp.run] at hD
    split at hD
    · rename_i n h1
      split at hD
      · rename_i h2
        refine ⟨n, _, h1, h2, by simp, hD.2.symm, fun s hs => ?_⟩
        show AOp.run P (.allocAt k' T cs) e s (Is v _) No
        simp only [AOp.run, h1, hs]
        exact ⟨hD.1, rfl⟩
      · exact hD.elim
    · exact hD.elim
  case appAt k' T el x y =>
    subst h
    have hD : AOp.run P (.appAt k' T el x y) e σ (Is v σ') No := hD
    simp only [AOp.run] at hD
    split at hD
    · rename_i n h1
      split at hD
      · rename_i h2
        split at hD
        · rename_i ys h3
          refine ⟨n, _, h1, h2, by simp, hD.2.2.2.2.symm, fun s hs => ?_⟩
          show AOp.run P (.appAt k' T el x y) e s (Is v _) No
          simp only [AOp.run, h1, hs, h3]
          exact ⟨hD.1, hD.2.1, hD.2.2.1, hD.2.2.2.1, rfl⟩
        · exact hD.elim
      · exact hD.elim
    · exact hD.elim
  case mksAt k' el z x y =>
    subst h
    have hD : AOp.run P (.mksAt k' el z x y) e σ (Is v σ') No := hD
    simp only [AOp.run] at hD
    split at hD
    · rename_i n h1
      split at hD
      · rename_i h2
        split at hD
        · rename_i i m h3 h4
          refine ⟨n, _, h1, h2, by simp, hD.2.2.2.2.2.symm, fun s hs => ?_⟩
          show AOp.run P (.mksAt k' el z x y) e s (Is v _) No
          simp only [AOp.run, h1, hs, h3, h4]
          exact ⟨hD.1, hD.2.1, hD.2.2.1, hD.2.2.2.1, hD.2.2.2.2.1, rfl⟩
        · exact hD.elim
      · exact hD.elim
    · exact hD.elim
def AOp.readsOf : AOp → Option AX
  | .load _ _ x => some x
  | .slL _ x _ _ => some x
  | .iaddr _ _ x _ => some x
  | _ => none
theorem readsOf_rd {o : AOp} {x : AX} (h : o.readsOf = some x) : o.cls = .rd := by
  cases o <;> simp [AOp.readsOf] at h <;> rfl
theorem D_other {o : AOp} {e : Env} {σ : Store} {v : AV} {σ' : Store} {x : AX} {l : Nat} {ob : AObj} (hr : o.readsOf = some x) (hlt : l < σ.length) (hne : (x.ev e).obj ≠ some l) (hD : o.D P e σ v σ') : o.D P e (σ.set l ob) v (σ.set l ob) := by
  have hc := readsOf_rd hr
  unfold AOp.D at *
  simp only [hc] at hD ⊢
  refine ⟨fun τ => ?_, trivial⟩
  have h := hD.1 τ
  rw [set_app hlt]
  generalize σ ++ τ = s at *
  cases o <;> simp only [AOp.readsOf] at hr <;> (try (cases hr; done)) <;> cases hr <;> simp only [AOp.run] at h ⊢
  case load ag n =>
    exact loadA_mono (fun v' h => ⟨h.1, rfl⟩) (loadA_set hne h)
  case slL el lo hi =>
    split at h
    · exact bound_mono (fun _ => bound_mono fun _ h => ⟨h.1, rfl⟩) h
    · exact ⟨h.1, bound_mono (fun _ => bound_mono fun _ h => ⟨h.1, rfl⟩) h.2⟩
    · rename_i el' l' m o n hx
      have hne' : l ≠ l' := fun e => hne (by rw [hx, e]; rfl)
      refine ⟨h.1, ?_⟩
      have h := h.2
      rw [List.getElem?_set_ne hne']
      split at h
      · rename_i hk
        simp only [hk]
        exact ⟨h.1, h.2.1, h.2.2.1, bound_mono (fun _ => bound_mono fun _ h => ⟨h.1, rfl⟩) h.2.2.2⟩
      · exact h.elim
    · exact h
  case iaddr el arr i =>
    split at h
    · split at h
      · exact ⟨h.1, h.2.1, h.2.2.1, h.2.2.2.1, rfl⟩
      · rename_i el' l' m o n hx
        have hne' : l ≠ l' := fun e => hne (by rw [hx, e]; rfl)
        refine ⟨h.1, h.2.1, h.2.2.1, ?_⟩
        have h := h.2.2.2
        rw [List.getElem?_set_ne hne']
        split at h
        · rename_i hk
          simp only [hk]
          exact ⟨h.1, h.2.1, h.2.2.1, rfl⟩
        · exact h.elim
      · exact ⟨h.1, h.2.1, h.2.2.1, rfl⟩
      · exact ⟨h.1, h.2.1, h.2.2.1, rfl⟩
      · exact ⟨h.1, h.2.1, h.2.2.1, rfl⟩
      · exact h.elim
    · exact h.elim
theorem D_ap {o : AOp} {e : Env} {σ : Store} {v : AV} {σ' : Store} (hc : o.cls = .ap) (hD : o.D P e σ v σ') : ∃ y, o.storesAt = some y ∧ ((∃ τ, σ' = σ ++ τ) ∨ ∃ l ob, l < σ.length ∧ (y.ev e).obj = some l ∧ σ' = σ.set l ob) := by
  unfold AOp.D at hD
  simp only [hc] at hD
  cases o <;> simp only [AOp.cls] at hc <;> (try (cases hc; done)) <;> simp only [AOp.run] at hD
  case ex => exact absurd hc XOp.cls_st.2
  case bslice => split at hc <;> cases hc
  case call => split at hc <;> cases hc
  case app T el x y =>
    refine ⟨x, rfl, ?_⟩
    have key : ∀ ys : List AV, (match x.ev e with
        | .nils => if ys.length = 0 then Is v σ' .nils σ else roomOk ys.length el ∧ Is v σ' (.own el σ.length ys.length 0 ys.length) (σ ++ [.vecT T el ys])
        | .lst true el' xs => el' = el ∧ if ys.length = 0 then Is v σ' (.lst true el xs) σ else roomOk (xs.length + ys.length) el ∧ Is v σ' (.own el σ.length (xs.length + ys.length) 0 (xs.length + ys.length)) (σ ++ [.vecT T el (xs ++ ys)])
        | .own el' l m lo n => el' = el ∧ match σ[l]? with
          | some (.vecT T' el'' xs) => (T' = none ∨ T' = T) ∧ el'' = el ∧ m = xs.length ∧ lo = 0 ∧ n = xs.length ∧ roomOk (xs.length + ys.length) el ∧ Is v σ' (.own el l (xs.length + ys.length) 0 (xs.length + ys.length)) (σ.set l (.vecT T' el (xs ++ ys)))
          | _ => False
        | _ => False) → (∃ τ, σ' = σ ++ τ) ∨ ∃ l ob, l < σ.length ∧ (x.ev e).obj = some l ∧ σ' = σ.set l ob := fun ys h => by
      split at h
      · split at h
        · exact .inl ⟨[], by rw [List.append_nil]; exact h.2.symm⟩
        · exact .inl ⟨_, h.2.2.symm⟩
      · have h := h.2
        split at h
        · exact .inl ⟨[], by rw [List.append_nil]; exact h.2.symm⟩
        · exact .inl ⟨_, h.2.2.symm⟩
      · rename_i el' l m lo n hx
        have h := h.2
        split at h
        · rename_i hk
          exact .inr ⟨l, _, (List.getElem?_eq_some_iff.1 hk).1, by rw [hx]; rfl, h.2.2.2.2.2.2.2.symm⟩
        · exact h.elim
      · exact h.elim
    unfold appA listA at hD
    split at hD
    · exact key _ hD.2
    · exact key _ hD.2.2
    · have hD := hD.2
      split at hD
      · exact key _ hD.2.2.2
      · exact hD.elim
    · exact key _ hD.2.2
    · obtain ⟨u, _, h2⟩ := loadA_ex hD.2.2
      exact key _ h2.2
    · exact hD.elim
end Go.AM
