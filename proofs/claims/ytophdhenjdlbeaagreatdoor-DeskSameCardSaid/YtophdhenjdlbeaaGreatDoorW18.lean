/- Part of a proof: see Root. -/
import Derived.Test.YtophdhenjdlbeaaGreatDoorW17
import Derived.Shelf.Strings.OnBuilder
import Derived.Shelf.Strings.Repeat
import Derived.Shelf.Small.Strs
import Derived.Shelf.Small.Wraps
import Derived.Shelf.LaysM
import Derived.Shelf.Strconv.Itoa3
import Derived.Test.YtophdhenjdlbeaaGreatDoorProg
set_option linter.unnecessarySimpa false
set_option linter.unusedSectionVars false
set_option linter.unusedSimpArgs false
set_option linter.unusedVariables false
namespace Go.Proofs.YtophdhenjdlbeaaGreatDoor
open Go.AM
set_option maxRecDepth 4000
structure Named where
  name : Str
  n : Int
deriving Inhabited
abbrev EN : El := ⟨true, 2⟩
def eNamed (n : Named) : AV := .agg [.str n.name, I n.n]
def eNameds (l : List Named) : AV := .lst false EN (l.map eNamed)
def sameN (a b : Named) : Bool := (a.name == b.name) && (a.n == b.n)
abbrev EY : El := ⟨true, 6⟩
def eEnts (l : List Ent) : AV := .lst false EY (l.map eEnt)
attribute [go_sem] eNamed eNameds eEnts
theorem pur_eNamed (n : Named) : (eNamed n).pur = true := rfl
theorem pur_eNameds (l : List Named) : (eNameds l).pur = true := by simp only [eNameds, AV.pur]; exact purL_map _ _ pur_eNamed
theorem pur_eEnts (l : List Ent) : (eEnts l).pur = true := by simp only [eEnts, AV.pur]; exact purL_map _ _ pur_eEnt
theorem purL_n (l : List Named) : AV.purL (l.map eNamed) = true := purL_map _ _ pur_eNamed
theorem purL_en (l : List Ent) : AV.purL (l.map eEnt) = true := purL_map _ _ pur_eEnt
attribute [simp] pur_eNamed pur_eNameds pur_eEnts purL_n purL_en
theorem ref23_SameNamed (l m : List Named) (hl : l.length ≤ 2 ^ 60) (hm : m.length ≤ 2 ^ 60) : CallF Tryz.prog n_ref23_SameNamed [eNameds l, eNameds m] (.bool (eqL sameN l m)) := by
  simp only [eNameds]
  refine CallF.of_nil (of_ref23_SameNamed (by simp) ?_) (by simp)
  unfold b_ref23_SameNamed WpR
  intro Q hQr hQn hQp
  repeat' first | refine go_ ?_ | refine br_ (fun hw => ?_) (fun hw => ?_) <;> try omega | fail
  · refine leafE ?_ rfl
    rw [eqL_len (by omega)]
  have hlm : l.length = m.length := by omega
  with_reducible refine loop_i [4, 5, 11, 12, 13, 14, 15, 16, 17, 18, 19, 20, 21, 22, 23, 24, 25] (fun i : Nat => [(5, I i)]) (fun _ => []) (fun i => i ≤ l.length ∧ ∀ k, k < i → sameN (l.getD k default) (m.getD k default) = true) (fun i => l.length - i) (0) ?_ ?_ ?_ ?_
  · simp
  · rfl
  · exact at_
  rintro i r ⟨h1, h2⟩
  by_cases hi : i < l.length
  · have hb : sameN (l.getD i default) (m.getD i default) = (((l.getD i default).name == (m.getD i default).name) && ((l.getD i default).n == (m.getD i default).n)) := rfl
    repeat' first | refine go_ ?_ | refine br_ (fun hw => ?_) (fun hw => ?_) <;> try omega | fail
    · refine leafE ?_ rfl
      rw [eqL_at (p := sameN) hi (by rw [hb, ← Bool.not_eq_true]; simp_all) (by omega)]
    · refine ⟨i + 1, ?_, ?_, by first | rfl | (simp [go_sem]; done), ou_, at_⟩ <;> (try dsimp only)
      · exact ⟨by omega, before_succ h2 (by rw [hb]; simp_all)⟩
      · omega
  · repeat' first | refine go_ ?_ | refine br_ (fun hw => ?_) (fun hw => ?_) <;> try omega | fail
    refine leafE ?_ rfl
    rw [eqL_non (p := sameN) hlm (fun k hk => h2 k (by omega))]
def smEs (l : List Ent) : Prop := l.length ≤ 2 ^ 60 ∧ ∀ e ∈ l, smE e
theorem ref21_SameAll (l m : List Ent) (hl : smEs l) (hm : smEs m) : CallF Tryz.prog n_ref21_SameAll [eEnts l, eEnts m] (.bool (eqL sameE l m)) := by
  obtain ⟨hl, hl2⟩ := hl
  obtain ⟨hm, hm2⟩ := hm
  simp only [eEnts]
  refine CallF.of_nil (of_ref21_SameAll (by simp) ?_) (by simp)
  unfold b_ref21_SameAll WpR
  intro Q hQr hQn hQp
  repeat' first | refine go_ ?_ | refine br_ (fun hw => ?_) (fun hw => ?_) <;> try omega | fail
  · refine leafE ?_ rfl
    rw [eqL_len (by omega)]
  have hlm : l.length = m.length := by omega
  with_reducible refine loop_i [4, 5, 11, 12, 13, 14, 15, 16, 17, 18, 19, 20, 21, 22, 23, 24, 25, 26] (fun i : Nat => [(5, I i)]) (fun _ => []) (fun i => i ≤ l.length ∧ ∀ k, k < i → sameE (l.getD k default) (m.getD k default) = true) (fun i => l.length - i) (0) ?_ ?_ ?_ ?_
  · simp
  · rfl
  · exact at_
  rintro i r ⟨h1, h2⟩
  by_cases hi : i < l.length
  · have c := ref21_Same _ _ (hl2 _ (getD_mem hi)) (hm2 _ (getD_mem (show i < m.length by omega)))
    have hne := fun h => eqL_at (p := sameE) hi h (show i < m.length by omega)
    have hbs := fun he => before_succ (q := fun k => sameE (l.getD k default) (m.getD k default) = true) h2 (i := i) he
    generalize sameE (l.getD i default) (m.getD i default) = v at c hne hbs
    simp only [eEnt, cEnt, eInts, eRows, eVals] at c
    repeat' first | refine go_ ?_ | refine cf_ c ?_ | refine br_ (fun hw => ?_) (fun hw => ?_) <;> try omega | fail
    all_goals first
      | exact ab_
      | (refine leafE ?_ rfl; rw [hne (by simp_all)])
      | (refine ⟨i + 1, ?_, ?_, ?_, ou_, at_⟩ <;> (try dsimp only)
         · exact ⟨by omega, hbs (by simp_all)⟩
         · omega
         all_goals (first | rfl | (simp [go_sem]; done)))
  · repeat' first | refine go_ ?_ | refine br_ (fun hw => ?_) (fun hw => ?_) <;> try omega | fail
    refine leafE ?_ rfl
    rw [eqL_non hlm (fun k hk => h2 k (by omega))]
structure Rep where
  err : Int
  n : Int
  table : Table
  names : List Named
  ents : List Ent
  ma : Int
  mb : Int
  mc : Str
  md : Str
deriving Inhabited
def cRep (r : Rep) : List AV := [I r.err, I r.n, .str r.table.name, eCols r.table.ins, eCols r.table.outs, I r.table.policy, I r.table.agg, eRules r.table.rules, eNameds r.names, eEnts r.ents, I r.ma, I r.mb, .str r.mc, .str r.md]
def eRep (r : Rep) : AV := .agg (cRep r)
attribute [go_sem] cRep eRep
def smR (r : Rep) : Prop := smTab r.table ∧ r.names.length ≤ 2 ^ 60 ∧ smEs r.ents
def sameR (a b : Rep) : Bool := decide (a.err = b.err) && decide (a.n = b.n) && sameTab a.table b.table && eqL sameN a.names b.names && eqL sameE a.ents b.ents && (decide (a.ma = b.ma) && decide (a.mb = b.mb) && a.mc == b.mc && a.md == b.md)
theorem ref28_Same (a b : Rep) (ha : smR a) (hb : smR b) : CallF Tryz.prog n_ref28_Same [eRep a, eRep b] (.bool (sameR a b)) := by
  have c1 := ref18_Same a.table b.table ha.1 hb.1
  have c2 := ref23_SameNamed a.names b.names ha.2.1 hb.2.1
  have c3 := ref21_SameAll a.ents b.ents ha.2.2 hb.2.2
  have hS : sameR a b = (decide (a.err = b.err) && decide (a.n = b.n) && sameTab a.table b.table && eqL sameN a.names b.names && eqL sameE a.ents b.ents && (decide (a.ma = b.ma) && decide (a.mb = b.mb) && a.mc == b.mc && a.md == b.md)) := rfl
  generalize sameTab a.table b.table = v1 at *
  generalize eqL sameN a.names b.names = v2 at *
  generalize eqL sameE a.ents b.ents = v3 at *
  obtain ⟨E, hE⟩ : ∃ E, sameR a b = E := ⟨_, rfl⟩
  rw [hE] at hS ⊢
  clear hE
  simp only [eRep, cRep, eTable, cTable, eCols, eRules, eNameds, eEnts] at c1 c2 c3 ⊢
  refine CallF.of_nil (of_ref28_Same (by simp) ?_) (by simp)
  unfold b_ref28_Same WpR
  intro Q hQr hQn hQp
  dsimp (config := { zeta := true }) only
  repeat' first | refine go_ ?_ | refine cf_ c1 ?_ | refine cf_ c2 ?_ | refine cf_ c3 ?_ | refine br_ (fun hw => ?_) (fun hw => ?_) <;> try omega | fail
  all_goals first
    | exact ab_
    | (refine leafE ?_ rfl; refine congrArg AV.bool ?_; rw [hS, Bool.eq_iff_iff]; simp_all; done)
end Go.Proofs.YtophdhenjdlbeaaGreatDoor
namespace Go.Proofs
open Go.Shelf
def Tryz.lays106_ren : Go.Shelf.Ren := ⟨fun | 106 => 359 | 213 => 375 | 265 => 382 | n => n, fun | 9 => 9 | 3 => 3 | n => n, fun | n => n⟩
theorem Tryz.lays106 : Go.Proofs.Lays.n106 Tryz.prog Tryz.lays106_ren := {
  mixed := by kernel_rfl
  f106 := Tryz.func359.trans (congrArg some (by kernel_rfl))
  f213 := Tryz.func375.trans (congrArg some (by kernel_rfl))
  f265 := Tryz.func382.trans (congrArg some (by kernel_rfl))
  t3 := Tryz.underlying3
  a3 := Tryz.isAgg3
  z3 := Tryz.sizeOf3
  v3 := Tryz.zeroValue3
  t9 := Tryz.underlying9
  a9 := Tryz.isAgg9
  z9 := Tryz.sizeOf9
  v9 := Tryz.zeroValue9 }
open Go.RowKit in
theorem Tryz.strings_Compare (a b : ByteArray) (w : World) :
    Calls Tryz.prog 359 #[.string a, .string b] w fun e w' => e = .returned (.int .i64 (Lib.compareBytes a.data.toList b.data.toList)) ∧ w' = w := Any.strings_Compare Tryz.lays106 a b w
def Tryz.lays105_ren : Go.Shelf.Ren := ⟨fun | 105 => 34 | 212 => 51 | 99 => 52 | 165 => 53 | 166 => 54 | 170 => 55 | 169 => 56 | 263 => 78 | 264 => 79 | 206 => 80 | 240 => 81 | 241 => 82 | 276 => 112 | 277 => 113 | n => n, fun | 9 => 9 | 3 => 3 | 4 => 4 | 20 => 20 | 0 => 0 | 46 => 131 | 109 => 132 | 5 => 5 | 72 => 138 | 76 => 142 | 51 => 169 | 146 => 170 | 53 => 172 | 148 => 173 | 70 => 135 | 37 => 136 | 75 => 141 | 127 => 175 | 164 => 206 | 80 => 145 | n => n, fun | n => n⟩
theorem Tryz.lays105 : Go.Proofs.Lays.n105 Tryz.prog Tryz.lays105_ren := {
  mixed := by kernel_rfl
  f99 := Tryz.func52.trans (congrArg some (by kernel_rfl))
  f105 := Tryz.func34.trans (congrArg some (by kernel_rfl))
  f165 := Tryz.func53.trans (congrArg some (by kernel_rfl))
  f166 := Tryz.func54.trans (congrArg some (by kernel_rfl))
  f169 := Tryz.func56.trans (congrArg some (by kernel_rfl))
  f170 := Tryz.func55.trans (congrArg some (by kernel_rfl))
  f206 := Tryz.func80.trans (congrArg some (by kernel_rfl))
  f212 := Tryz.func51.trans (congrArg some (by kernel_rfl))
  f240 := Tryz.func81.trans (congrArg some (by kernel_rfl))
  f241 := Tryz.func82.trans (congrArg some (by kernel_rfl))
  f263 := Tryz.func78.trans (congrArg some (by kernel_rfl))
  f264 := Tryz.func79.trans (congrArg some (by kernel_rfl))
  f276 := Tryz.func112.trans (congrArg some (by kernel_rfl))
  f277 := Tryz.func113.trans (congrArg some (by kernel_rfl))
  t0 := Tryz.underlying0
  a0 := Tryz.isAgg0
  z0 := Tryz.sizeOf0
  v0 := Tryz.zeroValue0
  t3 := Tryz.underlying3
  a3 := Tryz.isAgg3
  z3 := Tryz.sizeOf3
  v3 := Tryz.zeroValue3
  t4 := Tryz.underlying4
  a4 := Tryz.isAgg4
  z4 := Tryz.sizeOf4
  v4 := Tryz.zeroValue4
  t5 := Tryz.underlying5
  a5 := Tryz.isAgg5
  z5 := Tryz.sizeOf5
  v5 := Tryz.zeroValue5
  t9 := Tryz.underlying9
  a9 := Tryz.isAgg9
  z9 := Tryz.sizeOf9
  v9 := Tryz.zeroValue9
  t20 := Tryz.underlying20
  a20 := Tryz.isAgg20
  z20 := Tryz.sizeOf20
  v20 := Tryz.zeroValue20
  t37 := Tryz.underlying136
  a37 := Tryz.isAgg136
  z37 := Tryz.sizeOf136
  v37 := Tryz.zeroValue136
  t46 := Tryz.underlying131
  a46 := Tryz.isAgg131
  z46 := Tryz.sizeOf131
  v46 := Tryz.zeroValue131
  t51 := Tryz.underlying169
  a51 := Tryz.isAgg169
  z51 := Tryz.sizeOf169
  v51 := Tryz.zeroValue169
  t53 := Tryz.underlying172
  a53 := Tryz.isAgg172
  z53 := Tryz.sizeOf172
  v53 := Tryz.zeroValue172
  t70 := Tryz.underlying135
  a70 := Tryz.isAgg135
  z70 := Tryz.sizeOf135
  v70 := Tryz.zeroValue135
  t72 := Tryz.underlying138
  a72 := Tryz.isAgg138
  z72 := Tryz.sizeOf138
  v72 := Tryz.zeroValue138
  t75 := Tryz.underlying141
  a75 := Tryz.isAgg141
  z75 := Tryz.sizeOf141
  v75 := Tryz.zeroValue141
  t76 := Tryz.underlying142
  a76 := Tryz.isAgg142
  z76 := Tryz.sizeOf142
  v76 := Tryz.zeroValue142
  t109 := Tryz.underlying132
  a109 := Tryz.isAgg132
  z109 := Tryz.sizeOf132
  v109 := Tryz.zeroValue132
  t127 := Tryz.underlying175
  a127 := Tryz.isAgg175
  z127 := Tryz.sizeOf175
  v127 := Tryz.zeroValue175
  t146 := Tryz.underlying170
  a146 := Tryz.isAgg170
  z146 := Tryz.sizeOf170
  v146 := Tryz.zeroValue170
  t148 := Tryz.underlying173
  a148 := Tryz.isAgg173
  z148 := Tryz.sizeOf173
  v148 := Tryz.zeroValue173
  t164 := Tryz.underlying206
  a164 := Tryz.isAgg206
  z164 := Tryz.sizeOf206
  v164 := Tryz.zeroValue206 }
theorem Tryz.Builder_Extra_105 : Builder.Extra Tryz.prog Tryz.lays105_ren := {
  sizeBuilder := by kernel_rfl
  liesBuilder := by kernel_rfl
  t5 := Tryz.underlying5
  a5 := Tryz.isAgg5
  z5 := Tryz.sizeOf5
  v5 := Tryz.zeroValue5
  infoByte := by kernel_rfl
  cellsByte := by kernel_rfl
  sizeByte := by kernel_rfl
  neB5 := by decide }
open Go.RowKit Go.Lib in
theorem Tryz.strings_Repeat (s : ByteArray) (c : Nat) (w : World) (hc : c ≤ 9223372036854775807) (hlen : s.size * c ≤ 140737488355328) :
    Calls Tryz.prog 34 #[.string s, .int .i64 c] w fun e w' => e = .returned (.string ⟨(Lib.repeatL s.data.toList c).toArray⟩) ∧ Below w.heap.size w w' := Any.strings_Repeat Tryz.lays105 Tryz.Builder_Extra_105 s c w hc hlen
end Go.Proofs
