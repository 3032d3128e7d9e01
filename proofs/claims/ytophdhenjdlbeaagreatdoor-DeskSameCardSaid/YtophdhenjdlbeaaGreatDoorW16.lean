/- Part of a proof: see Root. -/
import Derived.Test.YtophdhenjdlbeaaGreatDoorW15
import Derived.KernelRfl
set_option linter.unnecessarySimpa false
set_option linter.unusedSectionVars false
set_option linter.unusedSimpArgs false
set_option linter.unusedVariables false
namespace Go.Proofs.YtophdhenjdlbeaaGreatDoor
open Go.AM
set_option maxRecDepth 10000
def h_law28_DeskSame : Hints := ⟨[], [], [], [], [], []⟩
def b_law28_DeskSame : ACode := .seq (.region [⟨.box (.t 0), (some 2), none⟩, ⟨.box (.t 1), (some 3), none⟩, ⟨.mv (.c (.bool false)), (some 4), none⟩]) <|
  .seq (.seq (.region [⟨.faddr 9 (.t 2), (some 5), none⟩, ⟨.load false 1 (.t 5), (some 6), none⟩, ⟨.len false (.t 6), (some 7), none⟩, ⟨.faddr 9 (.t 3), (some 8), none⟩, ⟨.load false 1 (.t 8), (some 9), none⟩, ⟨.len false (.t 9), (some 10), none⟩, ⟨.bin .add (.t 7) (.t 10), (some 11), none⟩, ⟨.bin .gtr (.t 11) (.c (.int .i64 30)), (some 12), none⟩, ⟨.mv (.t 12), (some 13), none⟩, ⟨.faddr 8 (.t 2), (some 14), some (13, false)⟩, ⟨.load false 1 (.t 14), (some 15), some (13, false)⟩, ⟨.len false (.t 15), (some 16), some (13, false)⟩, ⟨.faddr 8 (.t 3), (some 17), some (13, false)⟩, ⟨.load false 1 (.t 17), (some 18), some (13, false)⟩, ⟨.len false (.t 18), (some 19), some (13, false)⟩, ⟨.bin .add (.t 16) (.t 19), (some 20), some (13, false)⟩, ⟨.bin .gtr (.t 20) (.c (.int .i64 60)), (some 21), some (13, false)⟩, ⟨.pick (.t 13) (.c (.bool true)) (.t 21), (some 22), none⟩]) <|
  .cond (.t 22) (.seq (.region [⟨.call false (.c (.fn (.func n_law28_lives) [] [])) [], (some 23), none⟩, ⟨.mv (.t 23), (some 4), none⟩]) <|
  .ret) (.skip)) <|
  .seq (.draw [⟨.load true 14 (.t 2), (some 24), none⟩, ⟨.load true 14 (.t 3), (some 25), none⟩, ⟨.call true (.c (.fn (.func n_desk_Same) [] [])) [(.t 24), (.t 25)], (some 26), none⟩, ⟨.load true 14 (.t 2), (some 27), none⟩, ⟨.load true 14 (.t 3), (some 28), none⟩, ⟨.call true (.c (.fn (.func n_ref28_Same) [] [])) [(.t 27), (.t 28)], (some 29), none⟩, ⟨.eqf false false [.b] (.t 26) (.t 29), (some 30), none⟩, ⟨.mv (.t 30), (some 31), none⟩, ⟨.load true 14 (.t 2), (some 32), some (31, true)⟩, ⟨.load true 14 (.t 2), (some 33), some (31, true)⟩, ⟨.call true (.c (.fn (.func n_desk_Same) [] [])) [(.t 32), (.t 33)], (some 34), some (31, true)⟩, ⟨.pick (.t 31) (.t 34) (.c (.bool false)), (some 35), none⟩, ⟨.mv (.t 35), (some 36), none⟩, ⟨.load true 14 (.t 3), (some 37), some (36, true)⟩, ⟨.load true 14 (.t 3), (some 38), some (36, true)⟩, ⟨.call true (.c (.fn (.func n_desk_Same) [] [])) [(.t 37), (.t 38)], (some 39), some (36, true)⟩, ⟨.pick (.t 36) (.t 39) (.c (.bool false)), (some 40), none⟩, ⟨.mv (.t 40), (some 41), none⟩, ⟨.call true (.c (.fn (.func n_law28_lives) [] [])) [], (some 42), some (41, true)⟩, ⟨.pick (.t 41) (.t 42) (.c (.bool false)), (some 43), none⟩, ⟨.mv (.t 43), (some 4), none⟩] []) <|
  .ret
def a_law28_DeskSame : AFunc := ⟨44, [.tmp 4], b_law28_DeskSame⟩
theorem a_law28_DeskSame_ok : compileF Tryz.prog h_law28_DeskSame Tryz.f3 = some a_law28_DeskSame := by kernel_rfl
theorem of_law28_DeskSame {args : List AV} {σ : Store} {R : Out → Store → Prop} (hl : args.length ≤ 44) (h : WpR Tryz.prog b_law28_DeskSame [.tmp 4] args σ R) : CallA Tryz.prog n_law28_DeskSame args σ R := CallA.of_wp Tryz.func3 (by kernel_rfl) a_law28_DeskSame_ok hl h.go
def h_ref28_Same : Hints := ⟨[], [], [], [], [], []⟩
def b_ref28_Same : ACode := .seq (.region [⟨.box (.t 0), (some 2), none⟩, ⟨.box (.t 1), (some 3), none⟩, ⟨.mv (.c (.bool false)), (some 4), none⟩]) <|
  .seq (.region [⟨.faddr 0 (.t 2), (some 5), none⟩, ⟨.load false 1 (.t 5), (some 6), none⟩, ⟨.faddr 0 (.t 3), (some 7), none⟩, ⟨.load false 1 (.t 7), (some 8), none⟩, ⟨.bin .eql (.t 6) (.t 8), (some 9), none⟩, ⟨.mv (.t 9), (some 10), none⟩, ⟨.faddr 1 (.t 2), (some 11), some (10, true)⟩, ⟨.load false 1 (.t 11), (some 12), some (10, true)⟩, ⟨.faddr 1 (.t 3), (some 13), some (10, true)⟩, ⟨.load false 1 (.t 13), (some 14), some (10, true)⟩, ⟨.bin .eql (.t 12) (.t 14), (some 15), some (10, true)⟩, ⟨.pick (.t 10) (.t 15) (.c (.bool false)), (some 16), none⟩, ⟨.mv (.t 16), (some 17), none⟩, ⟨.faddr 2 (.t 2), (some 18), some (17, true)⟩, ⟨.load true 6 (.t 18), (some 19), some (17, true)⟩, ⟨.faddr 2 (.t 3), (some 20), some (17, true)⟩, ⟨.load true 6 (.t 20), (some 21), some (17, true)⟩, ⟨.call false (.c (.fn (.func n_ref18_Same) [] [])) [(.t 19), (.t 21)], (some 22), some (17, true)⟩, ⟨.pick (.t 17) (.t 22) (.c (.bool false)), (some 23), none⟩, ⟨.mv (.t 23), (some 24), none⟩, ⟨.faddr 8 (.t 2), (some 25), some (24, true)⟩, ⟨.load false 1 (.t 25), (some 26), some (24, true)⟩, ⟨.faddr 8 (.t 3), (some 27), some (24, true)⟩, ⟨.load false 1 (.t 27), (some 28), some (24, true)⟩, ⟨.call false (.c (.fn (.func n_ref23_SameNamed) [] [])) [(.t 26), (.t 28)], (some 29), some (24, true)⟩, ⟨.pick (.t 24) (.t 29) (.c (.bool false)), (some 30), none⟩, ⟨.mv (.t 30), (some 31), none⟩, ⟨.faddr 9 (.t 2), (some 32), some (31, true)⟩, ⟨.load false 1 (.t 32), (some 33), some (31, true)⟩, ⟨.faddr 9 (.t 3), (some 34), some (31, true)⟩, ⟨.load false 1 (.t 34), (some 35), some (31, true)⟩, ⟨.call false (.c (.fn (.func n_ref21_SameAll) [] [])) [(.t 33), (.t 35)], (some 36), some (31, true)⟩, ⟨.pick (.t 31) (.t 36) (.c (.bool false)), (some 37), none⟩, ⟨.mv (.t 37), (some 38), none⟩, ⟨.faddr 10 (.t 2), (some 39), some (38, true)⟩, ⟨.load true 4 (.t 39), (some 40), some (38, true)⟩, ⟨.faddr 10 (.t 3), (some 41), some (38, true)⟩, ⟨.load true 4 (.t 41), (some 42), some (38, true)⟩, ⟨.eqf false true [.i, .i, .s, .s] (.t 40) (.t 42), (some 43), some (38, true)⟩, ⟨.pick (.t 38) (.t 43) (.c (.bool false)), (some 44), none⟩, ⟨.mv (.t 44), (some 4), none⟩]) <|
  .ret
def a_ref28_Same : AFunc := ⟨45, [.tmp 4], b_ref28_Same⟩
theorem a_ref28_Same_ok : compileF Tryz.prog h_ref28_Same Tryz.f6 = some a_ref28_Same := by kernel_rfl
theorem of_ref28_Same {args : List AV} {σ : Store} {R : Out → Store → Prop} (hl : args.length ≤ 45) (h : WpR Tryz.prog b_ref28_Same [.tmp 4] args σ R) : CallA Tryz.prog n_ref28_Same args σ R := CallA.of_wp Tryz.func6 (by kernel_rfl) a_ref28_Same_ok hl h.go
def h_desk_Same : Hints := ⟨[], [], [], [], [], []⟩
def b_desk_Same : ACode := .seq (.region [⟨.box (.t 0), (some 2), none⟩, ⟨.box (.t 1), (some 3), none⟩, ⟨.mv (.c (.bool false)), (some 4), none⟩]) <|
  .seq (.region [⟨.faddr 0 (.t 2), (some 5), none⟩, ⟨.load false 1 (.t 5), (some 6), none⟩, ⟨.faddr 0 (.t 3), (some 7), none⟩, ⟨.load false 1 (.t 7), (some 8), none⟩, ⟨.bin .eql (.t 6) (.t 8), (some 9), none⟩, ⟨.mv (.t 9), (some 10), none⟩, ⟨.faddr 1 (.t 2), (some 11), some (10, true)⟩, ⟨.load false 1 (.t 11), (some 12), some (10, true)⟩, ⟨.faddr 1 (.t 3), (some 13), some (10, true)⟩, ⟨.load false 1 (.t 13), (some 14), some (10, true)⟩, ⟨.bin .eql (.t 12) (.t 14), (some 15), some (10, true)⟩, ⟨.pick (.t 10) (.t 15) (.c (.bool false)), (some 16), none⟩, ⟨.mv (.t 16), (some 17), none⟩, ⟨.faddr 10 (.t 2), (some 18), some (17, true)⟩, ⟨.load true 4 (.t 18), (some 19), some (17, true)⟩, ⟨.faddr 10 (.t 3), (some 20), some (17, true)⟩, ⟨.load true 4 (.t 20), (some 21), some (17, true)⟩, ⟨.eqf false true [.i, .i, .s, .s] (.t 19) (.t 21), (some 22), some (17, true)⟩, ⟨.pick (.t 17) (.t 22) (.c (.bool false)), (some 23), none⟩, ⟨.mv (.t 23), (some 24), none⟩, ⟨.faddr 2 (.t 2), (some 25), some (24, true)⟩, ⟨.load true 6 (.t 25), (some 26), some (24, true)⟩, ⟨.faddr 2 (.t 3), (some 27), some (24, true)⟩, ⟨.load true 6 (.t 27), (some 28), some (24, true)⟩, ⟨.call false (.c (.fn (.func n_dtable_Same) [] [])) [(.t 26), (.t 28)], (some 29), some (24, true)⟩, ⟨.pick (.t 24) (.t 29) (.c (.bool false)), (some 30), none⟩, ⟨.mv (.t 30), (some 31), none⟩, ⟨.faddr 8 (.t 2), (some 32), some (31, true)⟩, ⟨.load false 1 (.t 32), (some 33), some (31, true)⟩, ⟨.faddr 8 (.t 3), (some 34), some (31, true)⟩, ⟨.load false 1 (.t 34), (some 35), some (31, true)⟩, ⟨.call false (.c (.fn (.func n_slices_Equal_Named) [] [])) [(.t 33), (.t 35)], (some 36), some (31, true)⟩, ⟨.pick (.t 31) (.t 36) (.c (.bool false)), (some 37), none⟩, ⟨.mv (.t 37), (some 38), none⟩, ⟨.faddr 9 (.t 2), (some 39), some (38, true)⟩, ⟨.load false 1 (.t 39), (some 40), some (38, true)⟩, ⟨.faddr 9 (.t 3), (some 41), some (38, true)⟩, ⟨.load false 1 (.t 41), (some 42), some (38, true)⟩, ⟨.call false (.c (.fn (.func n_slices_EqualFunc_Entry) [] [])) [(.t 40), (.t 42), (.c (.fn (.func n_entry_Same) [] []))], (some 43), some (38, true)⟩, ⟨.pick (.t 38) (.t 43) (.c (.bool false)), (some 44), none⟩, ⟨.mv (.t 44), (some 4), none⟩]) <|
  .ret
def a_desk_Same : AFunc := ⟨45, [.tmp 4], b_desk_Same⟩
theorem a_desk_Same_ok : compileF Tryz.prog h_desk_Same Tryz.f5 = some a_desk_Same := by kernel_rfl
theorem of_desk_Same {args : List AV} {σ : Store} {R : Out → Store → Prop} (hl : args.length ≤ 45) (h : WpR Tryz.prog b_desk_Same [.tmp 4] args σ R) : CallA Tryz.prog n_desk_Same args σ R := CallA.of_wp Tryz.func5 (by kernel_rfl) a_desk_Same_ok hl h.go
def h_ref21_Same : Hints := ⟨[], [], [], [], [], []⟩
def b_ref21_Same : ACode := .seq (.region [⟨.box (.t 0), (some 2), none⟩, ⟨.box (.t 1), (some 3), none⟩, ⟨.mv (.c (.bool false)), (some 4), none⟩]) <|
  .seq (.region [⟨.faddr 0 (.t 2), (some 5), none⟩, ⟨.load false 1 (.t 5), (some 6), none⟩, ⟨.faddr 0 (.t 3), (some 7), none⟩, ⟨.load false 1 (.t 7), (some 8), none⟩, ⟨.bin .eql (.t 6) (.t 8), (some 9), none⟩, ⟨.mv (.t 9), (some 10), none⟩, ⟨.faddr 1 (.t 2), (some 11), some (10, true)⟩, ⟨.load false 1 (.t 11), (some 12), some (10, true)⟩, ⟨.faddr 1 (.t 3), (some 13), some (10, true)⟩, ⟨.load false 1 (.t 13), (some 14), some (10, true)⟩, ⟨.bin .eql (.t 12) (.t 14), (some 15), some (10, true)⟩, ⟨.pick (.t 10) (.t 15) (.c (.bool false)), (some 16), none⟩, ⟨.mv (.t 16), (some 17), none⟩, ⟨.faddr 2 (.t 2), (some 18), some (17, true)⟩, ⟨.load false 1 (.t 18), (some 19), some (17, true)⟩, ⟨.faddr 2 (.t 3), (some 20), some (17, true)⟩, ⟨.load false 1 (.t 20), (some 21), some (17, true)⟩, ⟨.call false (.c (.fn (.func n_ref12_SameRow) [] [])) [(.t 19), (.t 21)], (some 22), some (17, true)⟩, ⟨.pick (.t 17) (.t 22) (.c (.bool false)), (some 23), none⟩, ⟨.mv (.t 23), (some 24), none⟩, ⟨.faddr 3 (.t 2), (some 25), some (24, true)⟩, ⟨.load true 3 (.t 25), (some 26), some (24, true)⟩, ⟨.faddr 3 (.t 3), (some 27), some (24, true)⟩, ⟨.load true 3 (.t 27), (some 28), some (24, true)⟩, ⟨.call false (.c (.fn (.func n_ref20_Same) [] [])) [(.t 26), (.t 28)], (some 29), some (24, true)⟩, ⟨.pick (.t 24) (.t 29) (.c (.bool false)), (some 30), none⟩, ⟨.mv (.t 30), (some 4), none⟩]) <|
  .ret
def a_ref21_Same : AFunc := ⟨31, [.tmp 4], b_ref21_Same⟩
theorem a_ref21_Same_ok : compileF Tryz.prog h_ref21_Same Tryz.f31 = some a_ref21_Same := by kernel_rfl
theorem of_ref21_Same {args : List AV} {σ : Store} {R : Out → Store → Prop} (hl : args.length ≤ 31) (h : WpR Tryz.prog b_ref21_Same [.tmp 4] args σ R) : CallA Tryz.prog n_ref21_Same args σ R := CallA.of_wp Tryz.func31 (by kernel_rfl) a_ref21_Same_ok hl h.go
def h_ref18_Same : Hints := ⟨[], [], [], [], [], []⟩
def b_ref18_Same : ACode := .seq (.region [⟨.box (.t 0), (some 2), none⟩, ⟨.box (.t 1), (some 3), none⟩, ⟨.mv (.c (.bool false)), (some 4), none⟩]) <|
  .seq (.seq (.region [⟨.faddr 0 (.t 2), (some 6), none⟩, ⟨.load false 1 (.t 6), (some 7), none⟩, ⟨.faddr 0 (.t 3), (some 8), none⟩, ⟨.load false 1 (.t 8), (some 9), none⟩, ⟨.bin .neq (.t 7) (.t 9), (some 10), none⟩, ⟨.mv (.t 10), (some 11), none⟩, ⟨.faddr 3 (.t 2), (some 12), some (11, false)⟩, ⟨.load false 1 (.t 12), (some 13), some (11, false)⟩, ⟨.faddr 3 (.t 3), (some 14), some (11, false)⟩, ⟨.load false 1 (.t 14), (some 15), some (11, false)⟩, ⟨.bin .neq (.t 13) (.t 15), (some 16), some (11, false)⟩, ⟨.pick (.t 11) (.c (.bool true)) (.t 16), (some 17), none⟩, ⟨.mv (.t 17), (some 18), none⟩, ⟨.faddr 4 (.t 2), (some 19), some (18, false)⟩, ⟨.load false 1 (.t 19), (some 20), some (18, false)⟩, ⟨.faddr 4 (.t 3), (some 21), some (18, false)⟩, ⟨.load false 1 (.t 21), (some 22), some (18, false)⟩, ⟨.bin .neq (.t 20) (.t 22), (some 23), some (18, false)⟩, ⟨.pick (.t 18) (.c (.bool true)) (.t 23), (some 24), none⟩, ⟨.mv (.t 24), (some 25), none⟩, ⟨.faddr 5 (.t 2), (some 26), some (25, false)⟩, ⟨.load false 1 (.t 26), (some 27), some (25, false)⟩, ⟨.len false (.t 27), (some 28), some (25, false)⟩, ⟨.faddr 5 (.t 3), (some 29), some (25, false)⟩, ⟨.load false 1 (.t 29), (some 30), some (25, false)⟩, ⟨.len false (.t 30), (some 31), some (25, false)⟩, ⟨.bin .neq (.t 28) (.t 31), (some 32), some (25, false)⟩, ⟨.pick (.t 25) (.c (.bool true)) (.t 32), (some 33), none⟩]) <|
  .cond (.t 33) (.seq (.region [⟨.mv (.c (.bool false)), (some 4), none⟩]) <|
  .ret) (.skip)) <|
  .seq (.seq (.region [⟨.mv (.c (.int .i64 0)), (some 5), none⟩]) <|
  .block 0 (.loop (.seq (.seq (.region [⟨.mv (.t 5), (some 34), none⟩, ⟨.faddr 5 (.t 2), (some 35), none⟩, ⟨.load false 1 (.t 35), (some 36), none⟩, ⟨.len false (.t 36), (some 37), none⟩, ⟨.bin .lss (.t 34) (.t 37), (some 38), none⟩]) <|
  .cond (.t 38) (.skip) (.exit 0)) <|
  .seq (.block 1 (.seq (.draw [⟨.faddr 5 (.t 2), (some 41), none⟩, ⟨.load false 1 (.t 41), (some 42), none⟩, ⟨.mv (.t 5), (some 43), none⟩, ⟨.iaddr ⟨true, 2⟩ none (.t 42) (.t 43), (some 44), none⟩, ⟨.faddr 0 (.t 44), (some 45), none⟩, ⟨.load false 1 (.t 45), (some 46), none⟩, ⟨.faddr 5 (.t 3), (some 47), none⟩, ⟨.load false 1 (.t 47), (some 48), none⟩, ⟨.mv (.t 5), (some 49), none⟩, ⟨.iaddr ⟨true, 2⟩ none (.t 48) (.t 49), (some 50), none⟩, ⟨.faddr 0 (.t 50), (some 51), none⟩, ⟨.load false 1 (.t 51), (some 52), none⟩, ⟨.call true (.c (.fn (.func n_ref01_SameTexts) [] [])) [(.t 46), (.t 52)], (some 53), none⟩, ⟨.un .not (.t 53), (some 54), none⟩, ⟨.mv (.t 54), (some 55), none⟩, ⟨.faddr 5 (.t 2), (some 56), some (55, false)⟩, ⟨.load false 1 (.t 56), (some 57), some (55, false)⟩, ⟨.mv (.t 5), (some 58), some (55, false)⟩, ⟨.iaddr ⟨true, 2⟩ none (.t 57) (.t 58), (some 59), some (55, false)⟩, ⟨.faddr 1 (.t 59), (some 60), some (55, false)⟩, ⟨.load false 1 (.t 60), (some 61), some (55, false)⟩, ⟨.faddr 5 (.t 3), (some 62), some (55, false)⟩, ⟨.load false 1 (.t 62), (some 63), some (55, false)⟩, ⟨.mv (.t 5), (some 64), some (55, false)⟩, ⟨.iaddr ⟨true, 2⟩ none (.t 63) (.t 64), (some 65), some (55, false)⟩, ⟨.faddr 1 (.t 65), (some 66), some (55, false)⟩, ⟨.load false 1 (.t 66), (some 67), some (55, false)⟩, ⟨.call true (.c (.fn (.func n_ref01_SameTexts) [] [])) [(.t 61), (.t 67)], (some 68), some (55, false)⟩, ⟨.un .not (.t 68), (some 69), some (55, false)⟩, ⟨.pick (.t 55) (.c (.bool true)) (.t 69), (some 70), none⟩] []) <|
  .cond (.t 70) (.seq (.region [⟨.mv (.c (.bool false)), (some 4), none⟩]) <|
  .ret) (.skip))) <|
  .region [⟨.mv (.t 5), (some 39), none⟩, ⟨.bin .add (.t 39) (.c (.int .i64 1)), (some 40), none⟩, ⟨.mv (.t 40), (some 5), none⟩]))) <|
  .seq (.region [⟨.faddr 1 (.t 2), (some 71), none⟩, ⟨.load false 1 (.t 71), (some 72), none⟩, ⟨.faddr 1 (.t 3), (some 73), none⟩, ⟨.load false 1 (.t 73), (some 74), none⟩, ⟨.call false (.c (.fn (.func n_ref18_sameColumns) [] [])) [(.t 72), (.t 74)], (some 75), none⟩, ⟨.mv (.t 75), (some 76), none⟩, ⟨.faddr 2 (.t 2), (some 77), some (76, true)⟩, ⟨.load false 1 (.t 77), (some 78), some (76, true)⟩, ⟨.faddr 2 (.t 3), (some 79), some (76, true)⟩, ⟨.load false 1 (.t 79), (some 80), some (76, true)⟩, ⟨.call false (.c (.fn (.func n_ref18_sameColumns) [] [])) [(.t 78), (.t 80)], (some 81), some (76, true)⟩, ⟨.pick (.t 76) (.t 81) (.c (.bool false)), (some 82), none⟩, ⟨.mv (.t 82), (some 4), none⟩]) <|
  .ret
def a_ref18_Same : AFunc := ⟨83, [.tmp 4], b_ref18_Same⟩
theorem a_ref18_Same_ok : compileF Tryz.prog h_ref18_Same Tryz.f15 = some a_ref18_Same := by kernel_rfl
theorem of_ref18_Same {args : List AV} {σ : Store} {R : Out → Store → Prop} (hl : args.length ≤ 83) (h : WpR Tryz.prog b_ref18_Same [.tmp 4] args σ R) : CallA Tryz.prog n_ref18_Same args σ R := CallA.of_wp Tryz.func15 (by kernel_rfl) a_ref18_Same_ok hl h.go
def h_ref23_SameNamed : Hints := ⟨[], [], [], [], [], []⟩
def b_ref23_SameNamed : ACode := .seq (.region [⟨.mv (.c (.bool false)), (some 4), none⟩]) <|
  .seq (.seq (.region [⟨.mv (.t 0), (some 6), none⟩, ⟨.len false (.t 6), (some 7), none⟩, ⟨.mv (.t 1), (some 8), none⟩, ⟨.len false (.t 8), (some 9), none⟩, ⟨.bin .neq (.t 7) (.t 9), (some 10), none⟩]) <|
  .cond (.t 10) (.seq (.region [⟨.mv (.c (.bool false)), (some 4), none⟩]) <|
  .ret) (.skip)) <|
  .seq (.seq (.region [⟨.mv (.c (.int .i64 0)), (some 5), none⟩]) <|
  .block 0 (.loop (.seq (.seq (.region [⟨.mv (.t 5), (some 11), none⟩, ⟨.mv (.t 0), (some 12), none⟩, ⟨.len false (.t 12), (some 13), none⟩, ⟨.bin .lss (.t 11) (.t 13), (some 14), none⟩]) <|
  .cond (.t 14) (.skip) (.exit 0)) <|
  .seq (.block 1 (.seq (.draw [⟨.mv (.t 0), (some 17), none⟩, ⟨.mv (.t 5), (some 18), none⟩, ⟨.iaddr ⟨true, 2⟩ none (.t 17) (.t 18), (some 19), none⟩, ⟨.load true 2 (.t 19), (some 20), none⟩, ⟨.mv (.t 1), (some 21), none⟩, ⟨.mv (.t 5), (some 22), none⟩, ⟨.iaddr ⟨true, 2⟩ none (.t 21) (.t 22), (some 23), none⟩, ⟨.load true 2 (.t 23), (some 24), none⟩, ⟨.eqf true true [.s, .i] (.t 20) (.t 24), (some 25), none⟩] []) <|
  .cond (.t 25) (.seq (.region [⟨.mv (.c (.bool false)), (some 4), none⟩]) <|
  .ret) (.skip))) <|
  .region [⟨.mv (.t 5), (some 15), none⟩, ⟨.bin .add (.t 15) (.c (.int .i64 1)), (some 16), none⟩, ⟨.mv (.t 16), (some 5), none⟩]))) <|
  .seq (.region [⟨.mv (.c (.bool true)), (some 4), none⟩]) <|
  .ret
def a_ref23_SameNamed : AFunc := ⟨26, [.tmp 4], b_ref23_SameNamed⟩
theorem a_ref23_SameNamed_ok : compileF Tryz.prog h_ref23_SameNamed Tryz.f16 = some a_ref23_SameNamed := by kernel_rfl
theorem of_ref23_SameNamed {args : List AV} {σ : Store} {R : Out → Store → Prop} (hl : args.length ≤ 26) (h : WpR Tryz.prog b_ref23_SameNamed [.tmp 4] args σ R) : CallA Tryz.prog n_ref23_SameNamed args σ R := CallA.of_wp Tryz.func16 (by kernel_rfl) a_ref23_SameNamed_ok hl h.go
def h_ref21_SameAll : Hints := ⟨[], [], [], [], [], []⟩
def b_ref21_SameAll : ACode := .seq (.region [⟨.mv (.c (.bool false)), (some 4), none⟩]) <|
  .seq (.seq (.region [⟨.mv (.t 0), (some 6), none⟩, ⟨.len false (.t 6), (some 7), none⟩, ⟨.mv (.t 1), (some 8), none⟩, ⟨.len false (.t 8), (some 9), none⟩, ⟨.bin .neq (.t 7) (.t 9), (some 10), none⟩]) <|
  .cond (.t 10) (.seq (.region [⟨.mv (.c (.bool false)), (some 4), none⟩]) <|
  .ret) (.skip)) <|
  .seq (.seq (.region [⟨.mv (.c (.int .i64 0)), (some 5), none⟩]) <|
  .block 0 (.loop (.seq (.seq (.region [⟨.mv (.t 5), (some 11), none⟩, ⟨.mv (.t 0), (some 12), none⟩, ⟨.len false (.t 12), (some 13), none⟩, ⟨.bin .lss (.t 11) (.t 13), (some 14), none⟩]) <|
  .cond (.t 14) (.skip) (.exit 0)) <|
  .seq (.block 1 (.seq (.draw [⟨.mv (.t 0), (some 17), none⟩, ⟨.mv (.t 5), (some 18), none⟩, ⟨.iaddr ⟨true, 6⟩ none (.t 17) (.t 18), (some 19), none⟩, ⟨.load true 6 (.t 19), (some 20), none⟩, ⟨.mv (.t 1), (some 21), none⟩, ⟨.mv (.t 5), (some 22), none⟩, ⟨.iaddr ⟨true, 6⟩ none (.t 21) (.t 22), (some 23), none⟩, ⟨.load true 6 (.t 23), (some 24), none⟩, ⟨.call true (.c (.fn (.func n_ref21_Same) [] [])) [(.t 20), (.t 24)], (some 25), none⟩, ⟨.un .not (.t 25), (some 26), none⟩] []) <|
  .cond (.t 26) (.seq (.region [⟨.mv (.c (.bool false)), (some 4), none⟩]) <|
  .ret) (.skip))) <|
  .region [⟨.mv (.t 5), (some 15), none⟩, ⟨.bin .add (.t 15) (.c (.int .i64 1)), (some 16), none⟩, ⟨.mv (.t 16), (some 5), none⟩]))) <|
  .seq (.region [⟨.mv (.c (.bool true)), (some 4), none⟩]) <|
  .ret
def a_ref21_SameAll : AFunc := ⟨27, [.tmp 4], b_ref21_SameAll⟩
theorem a_ref21_SameAll_ok : compileF Tryz.prog h_ref21_SameAll Tryz.f17 = some a_ref21_SameAll := by kernel_rfl
theorem of_ref21_SameAll {args : List AV} {σ : Store} {R : Out → Store → Prop} (hl : args.length ≤ 27) (h : WpR Tryz.prog b_ref21_SameAll [.tmp 4] args σ R) : CallA Tryz.prog n_ref21_SameAll args σ R := CallA.of_wp Tryz.func17 (by kernel_rfl) a_ref21_SameAll_ok hl h.go
def h_dtable_Same : Hints := ⟨[], [], [], [], [], []⟩
def b_dtable_Same : ACode := .seq (.region [⟨.box (.t 0), (some 2), none⟩, ⟨.box (.t 1), (some 3), none⟩, ⟨.mv (.c (.bool false)), (some 4), none⟩]) <|
  .seq (.region [⟨.faddr 0 (.t 2), (some 5), none⟩, ⟨.load false 1 (.t 5), (some 6), none⟩, ⟨.faddr 0 (.t 3), (some 7), none⟩, ⟨.load false 1 (.t 7), (some 8), none⟩, ⟨.bin .eql (.t 6) (.t 8), (some 9), none⟩, ⟨.mv (.t 9), (some 10), none⟩, ⟨.faddr 3 (.t 2), (some 11), some (10, true)⟩, ⟨.load false 1 (.t 11), (some 12), some (10, true)⟩, ⟨.faddr 3 (.t 3), (some 13), some (10, true)⟩, ⟨.load false 1 (.t 13), (some 14), some (10, true)⟩, ⟨.bin .eql (.t 12) (.t 14), (some 15), some (10, true)⟩, ⟨.pick (.t 10) (.t 15) (.c (.bool false)), (some 16), none⟩, ⟨.mv (.t 16), (some 17), none⟩, ⟨.faddr 4 (.t 2), (some 18), some (17, true)⟩, ⟨.load false 1 (.t 18), (some 19), some (17, true)⟩, ⟨.faddr 4 (.t 3), (some 20), some (17, true)⟩, ⟨.load false 1 (.t 20), (some 21), some (17, true)⟩, ⟨.bin .eql (.t 19) (.t 21), (some 22), some (17, true)⟩, ⟨.pick (.t 17) (.t 22) (.c (.bool false)), (some 23), none⟩, ⟨.mv (.t 23), (some 24), none⟩, ⟨.faddr 1 (.t 2), (some 25), some (24, true)⟩, ⟨.load false 1 (.t 25), (some 26), some (24, true)⟩, ⟨.faddr 1 (.t 3), (some 27), some (24, true)⟩, ⟨.load false 1 (.t 27), (some 28), some (24, true)⟩, ⟨.call false (.c (.fn (.func n_slices_EqualFunc_Column) [] [])) [(.t 26), (.t 28), (.c (.fn (.func n_dtable_sameColumn) [] []))], (some 29), some (24, true)⟩, ⟨.pick (.t 24) (.t 29) (.c (.bool false)), (some 30), none⟩, ⟨.mv (.t 30), (some 31), none⟩, ⟨.faddr 2 (.t 2), (some 32), some (31, true)⟩, ⟨.load false 1 (.t 32), (some 33), some (31, true)⟩, ⟨.faddr 2 (.t 3), (some 34), some (31, true)⟩, ⟨.load false 1 (.t 34), (some 35), some (31, true)⟩, ⟨.call false (.c (.fn (.func n_slices_EqualFunc_Column) [] [])) [(.t 33), (.t 35), (.c (.fn (.func n_dtable_sameColumn) [] []))], (some 36), some (31, true)⟩, ⟨.pick (.t 31) (.t 36) (.c (.bool false)), (some 37), none⟩, ⟨.mv (.t 37), (some 38), none⟩, ⟨.faddr 5 (.t 2), (some 39), some (38, true)⟩, ⟨.load false 1 (.t 39), (some 40), some (38, true)⟩, ⟨.faddr 5 (.t 3), (some 41), some (38, true)⟩, ⟨.load false 1 (.t 41), (some 42), some (38, true)⟩, ⟨.call false (.c (.fn (.func n_slices_EqualFunc_Rule) [] [])) [(.t 40), (.t 42), (.c (.fn (.func n_dtable_sameRule) [] []))], (some 43), some (38, true)⟩, ⟨.pick (.t 38) (.t 43) (.c (.bool false)), (some 44), none⟩, ⟨.mv (.t 44), (some 4), none⟩]) <|
  .ret
def a_dtable_Same : AFunc := ⟨45, [.tmp 4], b_dtable_Same⟩
theorem a_dtable_Same_ok : compileF Tryz.prog h_dtable_Same Tryz.f11 = some a_dtable_Same := by kernel_rfl
theorem of_dtable_Same {args : List AV} {σ : Store} {R : Out → Store → Prop} (hl : args.length ≤ 45) (h : WpR Tryz.prog b_dtable_Same [.tmp 4] args σ R) : CallA Tryz.prog n_dtable_Same args σ R := CallA.of_wp Tryz.func11 (by kernel_rfl) a_dtable_Same_ok hl h.go
def h_slices_Equal_Named : Hints := ⟨[], [], [], [], [], []⟩
def b_slices_Equal_Named : ACode := .seq (.region [⟨.mv (.c (.bool false)), (some 4), none⟩]) <|
  .seq (.seq (.region [⟨.mv (.t 0), (some 6), none⟩, ⟨.len false (.t 6), (some 7), none⟩, ⟨.mv (.t 1), (some 8), none⟩, ⟨.len false (.t 8), (some 9), none⟩, ⟨.bin .neq (.t 7) (.t 9), (some 10), none⟩]) <|
  .cond (.t 10) (.seq (.region [⟨.mv (.c (.bool false)), (some 4), none⟩]) <|
  .ret) (.skip)) <|
  .seq (.seq (.region [⟨.mv (.t 0), (some 11), none⟩, ⟨.len false (.t 11), (some 12), none⟩, ⟨.mv (.c (.int .i64 0)), (some 13), none⟩]) <|
  .block 0 (.loop (.seq (.region [⟨.bin .lss (.t 13) (.t 12), (some 14), none⟩]) <|
  .seq (.cond (.t 14) (.skip) (.exit 0)) <|
  .seq (.block 1 (.seq (.region [⟨.mv (.t 13), (some 15), none⟩, ⟨.mv (.t 15), (some 5), none⟩]) <|
  .seq (.draw [⟨.mv (.t 0), (some 16), none⟩, ⟨.mv (.t 5), (some 17), none⟩, ⟨.iaddr ⟨true, 2⟩ none (.t 16) (.t 17), (some 18), none⟩, ⟨.load true 2 (.t 18), (some 19), none⟩, ⟨.mv (.t 1), (some 20), none⟩, ⟨.mv (.t 5), (some 21), none⟩, ⟨.iaddr ⟨true, 2⟩ none (.t 20) (.t 21), (some 22), none⟩, ⟨.load true 2 (.t 22), (some 23), none⟩, ⟨.eqf true true [.s, .i] (.t 19) (.t 23), (some 24), none⟩] []) <|
  .cond (.t 24) (.seq (.region [⟨.mv (.c (.bool false)), (some 4), none⟩]) <|
  .ret) (.skip))) <|
  .region [⟨.bin .add (.t 13) (.c (.int .i64 1)), (some 25), none⟩, ⟨.mv (.t 25), (some 13), none⟩]))) <|
  .seq (.region [⟨.mv (.c (.bool true)), (some 4), none⟩]) <|
  .ret
def a_slices_Equal_Named : AFunc := ⟨26, [.tmp 4], b_slices_Equal_Named⟩
theorem a_slices_Equal_Named_ok : compileF Tryz.prog h_slices_Equal_Named Tryz.f12 = some a_slices_Equal_Named := by kernel_rfl
theorem of_slices_Equal_Named {args : List AV} {σ : Store} {R : Out → Store → Prop} (hl : args.length ≤ 26) (h : WpR Tryz.prog b_slices_Equal_Named [.tmp 4] args σ R) : CallA Tryz.prog n_slices_Equal_Named args σ R := CallA.of_wp Tryz.func12 (by kernel_rfl) a_slices_Equal_Named_ok hl h.go
def h_slices_EqualFunc_Entry : Hints := ⟨[], [], [], [], [], []⟩
def b_slices_EqualFunc_Entry : ACode := .seq (.region [⟨.mv (.c (.bool false)), (some 6), none⟩]) <|
  .seq (.seq (.region [⟨.mv (.t 0), (some 10), none⟩, ⟨.len false (.t 10), (some 11), none⟩, ⟨.mv (.t 1), (some 12), none⟩, ⟨.len false (.t 12), (some 13), none⟩, ⟨.bin .neq (.t 11) (.t 13), (some 14), none⟩]) <|
  .cond (.t 14) (.seq (.region [⟨.mv (.c (.bool false)), (some 6), none⟩]) <|
  .ret) (.skip)) <|
  .seq (.seq (.region [⟨.mv (.t 0), (some 15), none⟩, ⟨.len false (.t 15), (some 16), none⟩, ⟨.mv (.c (.int .i64 0)), (some 17), none⟩]) <|
  .block 0 (.loop (.seq (.region [⟨.bin .lss (.t 17) (.t 16), (some 18), none⟩]) <|
  .seq (.cond (.t 18) (.skip) (.exit 0)) <|
  .seq (.block 1 (.seq (.region [⟨.mv (.t 17), (some 19), none⟩, ⟨.iaddr ⟨true, 6⟩ none (.t 15) (.t 17), (some 20), none⟩, ⟨.load true 6 (.t 20), (some 21), none⟩, ⟨.alloc none [(.str []), (.int .i64 0), .nils, (.int .i64 0), .nils, .nils], (some 8), none⟩, ⟨.mv (.t 19), (some 7), none⟩, ⟨.store 6 (.t 8) (.t 21), none, none⟩]) <|
  .seq (.region [⟨.mv (.t 1), (some 22), none⟩, ⟨.mv (.t 7), (some 23), none⟩, ⟨.iaddr ⟨true, 6⟩ none (.t 22) (.t 23), (some 24), none⟩, ⟨.load true 6 (.t 24), (some 25), none⟩, ⟨.alloc none [(.str []), (.int .i64 0), .nils, (.int .i64 0), .nils, .nils], (some 9), none⟩, ⟨.store 6 (.t 9) (.t 25), none, none⟩]) <|
  .seq (.region [⟨.mv (.t 2), (some 26), none⟩, ⟨.load true 6 (.t 8), (some 27), none⟩, ⟨.load true 6 (.t 9), (some 28), none⟩, ⟨.call false (.t 26) [(.t 27), (.t 28)], (some 29), none⟩, ⟨.un .not (.t 29), (some 30), none⟩]) <|
  .cond (.t 30) (.seq (.region [⟨.mv (.c (.bool false)), (some 6), none⟩]) <|
  .ret) (.skip))) <|
  .region [⟨.bin .add (.t 17) (.c (.int .i64 1)), (some 31), none⟩, ⟨.mv (.t 31), (some 17), none⟩]))) <|
  .seq (.region [⟨.mv (.c (.bool true)), (some 6), none⟩]) <|
  .ret
def a_slices_EqualFunc_Entry : AFunc := ⟨32, [.tmp 6], b_slices_EqualFunc_Entry⟩
theorem a_slices_EqualFunc_Entry_ok : compileF Tryz.prog h_slices_EqualFunc_Entry Tryz.f13 = some a_slices_EqualFunc_Entry := by kernel_rfl
theorem of_slices_EqualFunc_Entry {args : List AV} {σ : Store} {R : Out → Store → Prop} (hl : args.length ≤ 32) (h : WpR Tryz.prog b_slices_EqualFunc_Entry [.tmp 6] args σ R) : CallA Tryz.prog n_slices_EqualFunc_Entry args σ R := CallA.of_wp Tryz.func13 (by kernel_rfl) a_slices_EqualFunc_Entry_ok hl h.go
def h_entry_Same : Hints := ⟨[], [], [], [], [], []⟩
def b_entry_Same : ACode := .seq (.region [⟨.box (.t 0), (some 2), none⟩, ⟨.box (.t 1), (some 3), none⟩, ⟨.mv (.c (.bool false)), (some 4), none⟩]) <|
  .seq (.region [⟨.faddr 0 (.t 2), (some 5), none⟩, ⟨.load false 1 (.t 5), (some 6), none⟩, ⟨.faddr 0 (.t 3), (some 7), none⟩, ⟨.load false 1 (.t 7), (some 8), none⟩, ⟨.bin .eql (.t 6) (.t 8), (some 9), none⟩, ⟨.mv (.t 9), (some 10), none⟩, ⟨.faddr 1 (.t 2), (some 11), some (10, true)⟩, ⟨.load false 1 (.t 11), (some 12), some (10, true)⟩, ⟨.faddr 1 (.t 3), (some 13), some (10, true)⟩, ⟨.load false 1 (.t 13), (some 14), some (10, true)⟩, ⟨.bin .eql (.t 12) (.t 14), (some 15), some (10, true)⟩, ⟨.pick (.t 10) (.t 15) (.c (.bool false)), (some 16), none⟩, ⟨.mv (.t 16), (some 17), none⟩, ⟨.faddr 2 (.t 2), (some 18), some (17, true)⟩, ⟨.load false 1 (.t 18), (some 19), some (17, true)⟩, ⟨.faddr 2 (.t 3), (some 20), some (17, true)⟩, ⟨.load false 1 (.t 20), (some 21), some (17, true)⟩, ⟨.call false (.c (.fn (.func n_slices_Equal_Value) [] [])) [(.t 19), (.t 21)], (some 22), some (17, true)⟩, ⟨.pick (.t 17) (.t 22) (.c (.bool false)), (some 23), none⟩, ⟨.mv (.t 23), (some 24), none⟩, ⟨.faddr 3 (.t 2), (some 25), some (24, true)⟩, ⟨.load true 3 (.t 25), (some 26), some (24, true)⟩, ⟨.faddr 3 (.t 3), (some 27), some (24, true)⟩, ⟨.load true 3 (.t 27), (some 28), some (24, true)⟩, ⟨.call false (.c (.fn (.func n_hit_Same) [] [])) [(.t 26), (.t 28)], (some 29), some (24, true)⟩, ⟨.pick (.t 24) (.t 29) (.c (.bool false)), (some 30), none⟩, ⟨.mv (.t 30), (some 4), none⟩]) <|
  .ret
def a_entry_Same : AFunc := ⟨31, [.tmp 4], b_entry_Same⟩
theorem a_entry_Same_ok : compileF Tryz.prog h_entry_Same Tryz.f14 = some a_entry_Same := by kernel_rfl
theorem of_entry_Same {args : List AV} {σ : Store} {R : Out → Store → Prop} (hl : args.length ≤ 31) (h : WpR Tryz.prog b_entry_Same [.tmp 4] args σ R) : CallA Tryz.prog n_entry_Same args σ R := CallA.of_wp Tryz.func14 (by kernel_rfl) a_entry_Same_ok hl h.go
def h_ref12_SameRow : Hints := ⟨[], [], [], [], [], []⟩
def b_ref12_SameRow : ACode := .seq (.region [⟨.mv (.c (.bool false)), (some 4), none⟩]) <|
  .seq (.seq (.region [⟨.mv (.t 0), (some 6), none⟩, ⟨.len false (.t 6), (some 7), none⟩, ⟨.mv (.t 1), (some 8), none⟩, ⟨.len false (.t 8), (some 9), none⟩, ⟨.bin .neq (.t 7) (.t 9), (some 10), none⟩]) <|
  .cond (.t 10) (.seq (.region [⟨.mv (.c (.bool false)), (some 4), none⟩]) <|
  .ret) (.skip)) <|
  .seq (.seq (.region [⟨.mv (.c (.int .i64 0)), (some 5), none⟩]) <|
  .block 0 (.loop (.seq (.seq (.region [⟨.mv (.t 5), (some 11), none⟩, ⟨.mv (.t 0), (some 12), none⟩, ⟨.len false (.t 12), (some 13), none⟩, ⟨.bin .lss (.t 11) (.t 13), (some 14), none⟩]) <|
  .cond (.t 14) (.skip) (.exit 0)) <|
  .seq (.block 1 (.seq (.draw [⟨.mv (.t 0), (some 17), none⟩, ⟨.mv (.t 5), (some 18), none⟩, ⟨.iaddr ⟨true, 3⟩ none (.t 17) (.t 18), (some 19), none⟩, ⟨.load true 3 (.t 19), (some 20), none⟩, ⟨.mv (.t 1), (some 21), none⟩, ⟨.mv (.t 5), (some 22), none⟩, ⟨.iaddr ⟨true, 3⟩ none (.t 21) (.t 22), (some 23), none⟩, ⟨.load true 3 (.t 23), (some 24), none⟩, ⟨.eqf true true [.i, .i, .s] (.t 20) (.t 24), (some 25), none⟩] []) <|
  .cond (.t 25) (.seq (.region [⟨.mv (.c (.bool false)), (some 4), none⟩]) <|
  .ret) (.skip))) <|
  .region [⟨.mv (.t 5), (some 15), none⟩, ⟨.bin .add (.t 15) (.c (.int .i64 1)), (some 16), none⟩, ⟨.mv (.t 16), (some 5), none⟩]))) <|
  .seq (.region [⟨.mv (.c (.bool true)), (some 4), none⟩]) <|
  .ret
def a_ref12_SameRow : AFunc := ⟨26, [.tmp 4], b_ref12_SameRow⟩
theorem a_ref12_SameRow_ok : compileF Tryz.prog h_ref12_SameRow Tryz.f42 = some a_ref12_SameRow := by kernel_rfl
theorem of_ref12_SameRow {args : List AV} {σ : Store} {R : Out → Store → Prop} (hl : args.length ≤ 26) (h : WpR Tryz.prog b_ref12_SameRow [.tmp 4] args σ R) : CallA Tryz.prog n_ref12_SameRow args σ R := CallA.of_wp Tryz.func42 (by kernel_rfl) a_ref12_SameRow_ok hl h.go
def h_ref20_Same : Hints := ⟨[], [], [], [], [], []⟩
def b_ref20_Same : ACode := .seq (.region [⟨.box (.t 0), (some 2), none⟩, ⟨.box (.t 1), (some 3), none⟩, ⟨.mv (.c (.bool false)), (some 4), none⟩]) <|
  .seq (.region [⟨.faddr 0 (.t 2), (some 5), none⟩, ⟨.load false 1 (.t 5), (some 6), none⟩, ⟨.faddr 0 (.t 3), (some 7), none⟩, ⟨.load false 1 (.t 7), (some 8), none⟩, ⟨.bin .eql (.t 6) (.t 8), (some 9), none⟩, ⟨.mv (.t 9), (some 10), none⟩, ⟨.faddr 1 (.t 2), (some 11), some (10, true)⟩, ⟨.load false 1 (.t 11), (some 12), some (10, true)⟩, ⟨.faddr 1 (.t 3), (some 13), some (10, true)⟩, ⟨.load false 1 (.t 13), (some 14), some (10, true)⟩, ⟨.call false (.c (.fn (.func n_ref01_SameInts) [] [])) [(.t 12), (.t 14)], (some 15), some (10, true)⟩, ⟨.pick (.t 10) (.t 15) (.c (.bool false)), (some 16), none⟩, ⟨.mv (.t 16), (some 17), none⟩, ⟨.faddr 2 (.t 2), (some 18), some (17, true)⟩, ⟨.load false 1 (.t 18), (some 19), some (17, true)⟩, ⟨.faddr 2 (.t 3), (some 20), some (17, true)⟩, ⟨.load false 1 (.t 20), (some 21), some (17, true)⟩, ⟨.call false (.c (.fn (.func n_ref20_SameRows) [] [])) [(.t 19), (.t 21)], (some 22), some (17, true)⟩, ⟨.pick (.t 17) (.t 22) (.c (.bool false)), (some 23), none⟩, ⟨.mv (.t 23), (some 4), none⟩]) <|
  .ret
def a_ref20_Same : AFunc := ⟨24, [.tmp 4], b_ref20_Same⟩
theorem a_ref20_Same_ok : compileF Tryz.prog h_ref20_Same Tryz.f43 = some a_ref20_Same := by kernel_rfl
theorem of_ref20_Same {args : List AV} {σ : Store} {R : Out → Store → Prop} (hl : args.length ≤ 24) (h : WpR Tryz.prog b_ref20_Same [.tmp 4] args σ R) : CallA Tryz.prog n_ref20_Same args σ R := CallA.of_wp Tryz.func43 (by kernel_rfl) a_ref20_Same_ok hl h.go
def h_ref01_SameTexts : Hints := ⟨[], [], [], [], [], []⟩
def b_ref01_SameTexts : ACode := .seq (.region [⟨.mv (.c (.bool false)), (some 4), none⟩]) <|
  .seq (.seq (.region [⟨.mv (.t 0), (some 6), none⟩, ⟨.len false (.t 6), (some 7), none⟩, ⟨.mv (.t 1), (some 8), none⟩, ⟨.len false (.t 8), (some 9), none⟩, ⟨.bin .neq (.t 7) (.t 9), (some 10), none⟩]) <|
  .cond (.t 10) (.seq (.region [⟨.mv (.c (.bool false)), (some 4), none⟩]) <|
  .ret) (.skip)) <|
  .seq (.seq (.region [⟨.mv (.c (.int .i64 0)), (some 5), none⟩]) <|
  .block 0 (.loop (.seq (.seq (.region [⟨.mv (.t 5), (some 11), none⟩, ⟨.mv (.t 0), (some 12), none⟩, ⟨.len false (.t 12), (some 13), none⟩, ⟨.bin .lss (.t 11) (.t 13), (some 14), none⟩]) <|
  .cond (.t 14) (.skip) (.exit 0)) <|
  .seq (.block 1 (.seq (.draw [⟨.mv (.t 0), (some 17), none⟩, ⟨.mv (.t 5), (some 18), none⟩, ⟨.iaddr ⟨false, 1⟩ none (.t 17) (.t 18), (some 19), none⟩, ⟨.load false 1 (.t 19), (some 20), none⟩, ⟨.mv (.t 1), (some 21), none⟩, ⟨.mv (.t 5), (some 22), none⟩, ⟨.iaddr ⟨false, 1⟩ none (.t 21) (.t 22), (some 23), none⟩, ⟨.load false 1 (.t 23), (some 24), none⟩, ⟨.bin .neq (.t 20) (.t 24), (some 25), none⟩] []) <|
  .cond (.t 25) (.seq (.region [⟨.mv (.c (.bool false)), (some 4), none⟩]) <|
  .ret) (.skip))) <|
  .region [⟨.mv (.t 5), (some 15), none⟩, ⟨.bin .add (.t 15) (.c (.int .i64 1)), (some 16), none⟩, ⟨.mv (.t 16), (some 5), none⟩]))) <|
  .seq (.region [⟨.mv (.c (.bool true)), (some 4), none⟩]) <|
  .ret
def a_ref01_SameTexts : AFunc := ⟨26, [.tmp 4], b_ref01_SameTexts⟩
theorem a_ref01_SameTexts_ok : compileF Tryz.prog h_ref01_SameTexts Tryz.f29 = some a_ref01_SameTexts := by kernel_rfl
theorem of_ref01_SameTexts {args : List AV} {σ : Store} {R : Out → Store → Prop} (hl : args.length ≤ 26) (h : WpR Tryz.prog b_ref01_SameTexts [.tmp 4] args σ R) : CallA Tryz.prog n_ref01_SameTexts args σ R := CallA.of_wp Tryz.func29 (by kernel_rfl) a_ref01_SameTexts_ok hl h.go
def h_ref18_sameColumns : Hints := ⟨[], [], [], [], [], []⟩
def b_ref18_sameColumns : ACode := .seq (.region [⟨.mv (.c (.bool false)), (some 4), none⟩]) <|
  .seq (.seq (.region [⟨.mv (.t 0), (some 6), none⟩, ⟨.len false (.t 6), (some 7), none⟩, ⟨.mv (.t 1), (some 8), none⟩, ⟨.len false (.t 8), (some 9), none⟩, ⟨.bin .neq (.t 7) (.t 9), (some 10), none⟩]) <|
  .cond (.t 10) (.seq (.region [⟨.mv (.c (.bool false)), (some 4), none⟩]) <|
  .ret) (.skip)) <|
  .seq (.seq (.region [⟨.mv (.c (.int .i64 0)), (some 5), none⟩]) <|
  .block 0 (.loop (.seq (.seq (.region [⟨.mv (.t 5), (some 11), none⟩, ⟨.mv (.t 0), (some 12), none⟩, ⟨.len false (.t 12), (some 13), none⟩, ⟨.bin .lss (.t 11) (.t 13), (some 14), none⟩]) <|
  .cond (.t 14) (.skip) (.exit 0)) <|
  .seq (.block 1 (.seq (.draw [⟨.mv (.t 0), (some 17), none⟩, ⟨.mv (.t 5), (some 18), none⟩, ⟨.iaddr ⟨true, 3⟩ none (.t 17) (.t 18), (some 19), none⟩, ⟨.faddr 0 (.t 19), (some 20), none⟩, ⟨.load false 1 (.t 20), (some 21), none⟩, ⟨.mv (.t 1), (some 22), none⟩, ⟨.mv (.t 5), (some 23), none⟩, ⟨.iaddr ⟨true, 3⟩ none (.t 22) (.t 23), (some 24), none⟩, ⟨.faddr 0 (.t 24), (some 25), none⟩, ⟨.load false 1 (.t 25), (some 26), none⟩, ⟨.bin .neq (.t 21) (.t 26), (some 27), none⟩, ⟨.mv (.t 27), (some 28), none⟩, ⟨.mv (.t 0), (some 29), some (28, false)⟩, ⟨.mv (.t 5), (some 30), some (28, false)⟩, ⟨.iaddr ⟨true, 3⟩ none (.t 29) (.t 30), (some 31), some (28, false)⟩, ⟨.faddr 1 (.t 31), (some 32), some (28, false)⟩, ⟨.load false 1 (.t 32), (some 33), some (28, false)⟩, ⟨.mv (.t 1), (some 34), some (28, false)⟩, ⟨.mv (.t 5), (some 35), some (28, false)⟩, ⟨.iaddr ⟨true, 3⟩ none (.t 34) (.t 35), (some 36), some (28, false)⟩, ⟨.faddr 1 (.t 36), (some 37), some (28, false)⟩, ⟨.load false 1 (.t 37), (some 38), some (28, false)⟩, ⟨.bin .neq (.t 33) (.t 38), (some 39), some (28, false)⟩, ⟨.pick (.t 28) (.c (.bool true)) (.t 39), (some 40), none⟩, ⟨.mv (.t 40), (some 41), none⟩, ⟨.mv (.t 0), (some 42), some (41, false)⟩, ⟨.mv (.t 5), (some 43), some (41, false)⟩, ⟨.iaddr ⟨true, 3⟩ none (.t 42) (.t 43), (some 44), some (41, false)⟩, ⟨.faddr 2 (.t 44), (some 45), some (41, false)⟩, ⟨.load false 1 (.t 45), (some 46), some (41, false)⟩, ⟨.mv (.t 1), (some 47), some (41, false)⟩, ⟨.mv (.t 5), (some 48), some (41, false)⟩, ⟨.iaddr ⟨true, 3⟩ none (.t 47) (.t 48), (some 49), some (41, false)⟩, ⟨.faddr 2 (.t 49), (some 50), some (41, false)⟩, ⟨.load false 1 (.t 50), (some 51), some (41, false)⟩, ⟨.call true (.c (.fn (.func n_ref12_SameRow) [] [])) [(.t 46), (.t 51)], (some 52), some (41, false)⟩, ⟨.un .not (.t 52), (some 53), some (41, false)⟩, ⟨.pick (.t 41) (.c (.bool true)) (.t 53), (some 54), none⟩] []) <|
  .cond (.t 54) (.seq (.region [⟨.mv (.c (.bool false)), (some 4), none⟩]) <|
  .ret) (.skip))) <|
  .region [⟨.mv (.t 5), (some 15), none⟩, ⟨.bin .add (.t 15) (.c (.int .i64 1)), (some 16), none⟩, ⟨.mv (.t 16), (some 5), none⟩]))) <|
  .seq (.region [⟨.mv (.c (.bool true)), (some 4), none⟩]) <|
  .ret
def a_ref18_sameColumns : AFunc := ⟨55, [.tmp 4], b_ref18_sameColumns⟩
theorem a_ref18_sameColumns_ok : compileF Tryz.prog h_ref18_sameColumns Tryz.f30 = some a_ref18_sameColumns := by kernel_rfl
theorem of_ref18_sameColumns {args : List AV} {σ : Store} {R : Out → Store → Prop} (hl : args.length ≤ 55) (h : WpR Tryz.prog b_ref18_sameColumns [.tmp 4] args σ R) : CallA Tryz.prog n_ref18_sameColumns args σ R := CallA.of_wp Tryz.func30 (by kernel_rfl) a_ref18_sameColumns_ok hl h.go
def h_slices_EqualFunc_Column : Hints := ⟨[], [], [], [], [], []⟩
def b_slices_EqualFunc_Column : ACode := .seq (.region [⟨.mv (.c (.bool false)), (some 6), none⟩]) <|
  .seq (.seq (.region [⟨.mv (.t 0), (some 10), none⟩, ⟨.len false (.t 10), (some 11), none⟩, ⟨.mv (.t 1), (some 12), none⟩, ⟨.len false (.t 12), (some 13), none⟩, ⟨.bin .neq (.t 11) (.t 13), (some 14), none⟩]) <|
  .cond (.t 14) (.seq (.region [⟨.mv (.c (.bool false)), (some 6), none⟩]) <|
  .ret) (.skip)) <|
  .seq (.seq (.region [⟨.mv (.t 0), (some 15), none⟩, ⟨.len false (.t 15), (some 16), none⟩, ⟨.mv (.c (.int .i64 0)), (some 17), none⟩]) <|
  .block 0 (.loop (.seq (.region [⟨.bin .lss (.t 17) (.t 16), (some 18), none⟩]) <|
  .seq (.cond (.t 18) (.skip) (.exit 0)) <|
  .seq (.block 1 (.seq (.region [⟨.mv (.t 17), (some 19), none⟩, ⟨.iaddr ⟨true, 3⟩ none (.t 15) (.t 17), (some 20), none⟩, ⟨.load true 3 (.t 20), (some 21), none⟩, ⟨.alloc none [(.str []), (.int .i64 0), .nils], (some 8), none⟩, ⟨.mv (.t 19), (some 7), none⟩, ⟨.store 3 (.t 8) (.t 21), none, none⟩]) <|
  .seq (.region [⟨.mv (.t 1), (some 22), none⟩, ⟨.mv (.t 7), (some 23), none⟩, ⟨.iaddr ⟨true, 3⟩ none (.t 22) (.t 23), (some 24), none⟩, ⟨.load true 3 (.t 24), (some 25), none⟩, ⟨.alloc none [(.str []), (.int .i64 0), .nils], (some 9), none⟩, ⟨.store 3 (.t 9) (.t 25), none, none⟩]) <|
  .seq (.region [⟨.mv (.t 2), (some 26), none⟩, ⟨.load true 3 (.t 8), (some 27), none⟩, ⟨.load true 3 (.t 9), (some 28), none⟩, ⟨.call false (.t 26) [(.t 27), (.t 28)], (some 29), none⟩, ⟨.un .not (.t 29), (some 30), none⟩]) <|
  .cond (.t 30) (.seq (.region [⟨.mv (.c (.bool false)), (some 6), none⟩]) <|
  .ret) (.skip))) <|
  .region [⟨.bin .add (.t 17) (.c (.int .i64 1)), (some 31), none⟩, ⟨.mv (.t 31), (some 17), none⟩]))) <|
  .seq (.region [⟨.mv (.c (.bool true)), (some 6), none⟩]) <|
  .ret
def a_slices_EqualFunc_Column : AFunc := ⟨32, [.tmp 6], b_slices_EqualFunc_Column⟩
theorem a_slices_EqualFunc_Column_ok : compileF Tryz.prog h_slices_EqualFunc_Column Tryz.f23 = some a_slices_EqualFunc_Column := by kernel_rfl
theorem of_slices_EqualFunc_Column {args : List AV} {σ : Store} {R : Out → Store → Prop} (hl : args.length ≤ 32) (h : WpR Tryz.prog b_slices_EqualFunc_Column [.tmp 6] args σ R) : CallA Tryz.prog n_slices_EqualFunc_Column args σ R := CallA.of_wp Tryz.func23 (by kernel_rfl) a_slices_EqualFunc_Column_ok hl h.go
def h_dtable_sameColumn : Hints := ⟨[], [], [], [], [], []⟩
def b_dtable_sameColumn : ACode := .seq (.region [⟨.box (.t 0), (some 2), none⟩, ⟨.box (.t 1), (some 3), none⟩, ⟨.mv (.c (.bool false)), (some 4), none⟩]) <|
  .seq (.region [⟨.faddr 0 (.t 2), (some 5), none⟩, ⟨.load false 1 (.t 5), (some 6), none⟩, ⟨.faddr 0 (.t 3), (some 7), none⟩, ⟨.load false 1 (.t 7), (some 8), none⟩, ⟨.bin .eql (.t 6) (.t 8), (some 9), none⟩, ⟨.mv (.t 9), (some 10), none⟩, ⟨.faddr 1 (.t 2), (some 11), some (10, true)⟩, ⟨.load false 1 (.t 11), (some 12), some (10, true)⟩, ⟨.faddr 1 (.t 3), (some 13), some (10, true)⟩, ⟨.load false 1 (.t 13), (some 14), some (10, true)⟩, ⟨.bin .eql (.t 12) (.t 14), (some 15), some (10, true)⟩, ⟨.pick (.t 10) (.t 15) (.c (.bool false)), (some 16), none⟩, ⟨.mv (.t 16), (some 17), none⟩, ⟨.faddr 2 (.t 2), (some 18), some (17, true)⟩, ⟨.load false 1 (.t 18), (some 19), some (17, true)⟩, ⟨.faddr 2 (.t 3), (some 20), some (17, true)⟩, ⟨.load false 1 (.t 20), (some 21), some (17, true)⟩, ⟨.call false (.c (.fn (.func n_slices_Equal_Value) [] [])) [(.t 19), (.t 21)], (some 22), some (17, true)⟩, ⟨.pick (.t 17) (.t 22) (.c (.bool false)), (some 23), none⟩, ⟨.mv (.t 23), (some 4), none⟩]) <|
  .ret
def a_dtable_sameColumn : AFunc := ⟨24, [.tmp 4], b_dtable_sameColumn⟩
theorem a_dtable_sameColumn_ok : compileF Tryz.prog h_dtable_sameColumn Tryz.f24 = some a_dtable_sameColumn := by kernel_rfl
theorem of_dtable_sameColumn {args : List AV} {σ : Store} {R : Out → Store → Prop} (hl : args.length ≤ 24) (h : WpR Tryz.prog b_dtable_sameColumn [.tmp 4] args σ R) : CallA Tryz.prog n_dtable_sameColumn args σ R := CallA.of_wp Tryz.func24 (by kernel_rfl) a_dtable_sameColumn_ok hl h.go
def h_slices_EqualFunc_Rule : Hints := ⟨[], [], [], [], [], []⟩
def b_slices_EqualFunc_Rule : ACode := .seq (.region [⟨.mv (.c (.bool false)), (some 6), none⟩]) <|
  .seq (.seq (.region [⟨.mv (.t 0), (some 10), none⟩, ⟨.len false (.t 10), (some 11), none⟩, ⟨.mv (.t 1), (some 12), none⟩, ⟨.len false (.t 12), (some 13), none⟩, ⟨.bin .neq (.t 11) (.t 13), (some 14), none⟩]) <|
  .cond (.t 14) (.seq (.region [⟨.mv (.c (.bool false)), (some 6), none⟩]) <|
  .ret) (.skip)) <|
  .seq (.seq (.region [⟨.mv (.t 0), (some 15), none⟩, ⟨.len false (.t 15), (some 16), none⟩, ⟨.mv (.c (.int .i64 0)), (some 17), none⟩]) <|
  .block 0 (.loop (.seq (.region [⟨.bin .lss (.t 17) (.t 16), (some 18), none⟩]) <|
  .seq (.cond (.t 18) (.skip) (.exit 0)) <|
  .seq (.block 1 (.seq (.region [⟨.mv (.t 17), (some 19), none⟩, ⟨.iaddr ⟨true, 2⟩ none (.t 15) (.t 17), (some 20), none⟩, ⟨.load true 2 (.t 20), (some 21), none⟩, ⟨.alloc none [.nils, .nils], (some 8), none⟩, ⟨.mv (.t 19), (some 7), none⟩, ⟨.store 2 (.t 8) (.t 21), none, none⟩]) <|
  .seq (.region [⟨.mv (.t 1), (some 22), none⟩, ⟨.mv (.t 7), (some 23), none⟩, ⟨.iaddr ⟨true, 2⟩ none (.t 22) (.t 23), (some 24), none⟩, ⟨.load true 2 (.t 24), (some 25), none⟩, ⟨.alloc none [.nils, .nils], (some 9), none⟩, ⟨.store 2 (.t 9) (.t 25), none, none⟩]) <|
  .seq (.region [⟨.mv (.t 2), (some 26), none⟩, ⟨.load true 2 (.t 8), (some 27), none⟩, ⟨.load true 2 (.t 9), (some 28), none⟩, ⟨.call false (.t 26) [(.t 27), (.t 28)], (some 29), none⟩, ⟨.un .not (.t 29), (some 30), none⟩]) <|
  .cond (.t 30) (.seq (.region [⟨.mv (.c (.bool false)), (some 6), none⟩]) <|
  .ret) (.skip))) <|
  .region [⟨.bin .add (.t 17) (.c (.int .i64 1)), (some 31), none⟩, ⟨.mv (.t 31), (some 17), none⟩]))) <|
  .seq (.region [⟨.mv (.c (.bool true)), (some 6), none⟩]) <|
  .ret
def a_slices_EqualFunc_Rule : AFunc := ⟨32, [.tmp 6], b_slices_EqualFunc_Rule⟩
theorem a_slices_EqualFunc_Rule_ok : compileF Tryz.prog h_slices_EqualFunc_Rule Tryz.f25 = some a_slices_EqualFunc_Rule := by kernel_rfl
theorem of_slices_EqualFunc_Rule {args : List AV} {σ : Store} {R : Out → Store → Prop} (hl : args.length ≤ 32) (h : WpR Tryz.prog b_slices_EqualFunc_Rule [.tmp 6] args σ R) : CallA Tryz.prog n_slices_EqualFunc_Rule args σ R := CallA.of_wp Tryz.func25 (by kernel_rfl) a_slices_EqualFunc_Rule_ok hl h.go
def h_dtable_sameRule : Hints := ⟨[], [], [], [], [], []⟩
def b_dtable_sameRule : ACode := .seq (.region [⟨.box (.t 0), (some 2), none⟩, ⟨.box (.t 1), (some 3), none⟩, ⟨.mv (.c (.bool false)), (some 4), none⟩]) <|
  .seq (.region [⟨.faddr 0 (.t 2), (some 5), none⟩, ⟨.load false 1 (.t 5), (some 6), none⟩, ⟨.faddr 0 (.t 3), (some 7), none⟩, ⟨.load false 1 (.t 7), (some 8), none⟩, ⟨.call false (.c (.fn (.func n_slices_Equal_string) [] [])) [(.t 6), (.t 8)], (some 9), none⟩, ⟨.mv (.t 9), (some 10), none⟩, ⟨.faddr 1 (.t 2), (some 11), some (10, true)⟩, ⟨.load false 1 (.t 11), (some 12), some (10, true)⟩, ⟨.faddr 1 (.t 3), (some 13), some (10, true)⟩, ⟨.load false 1 (.t 13), (some 14), some (10, true)⟩, ⟨.call false (.c (.fn (.func n_slices_Equal_string) [] [])) [(.t 12), (.t 14)], (some 15), some (10, true)⟩, ⟨.pick (.t 10) (.t 15) (.c (.bool false)), (some 16), none⟩, ⟨.mv (.t 16), (some 4), none⟩]) <|
  .ret
def a_dtable_sameRule : AFunc := ⟨17, [.tmp 4], b_dtable_sameRule⟩
theorem a_dtable_sameRule_ok : compileF Tryz.prog h_dtable_sameRule Tryz.f26 = some a_dtable_sameRule := by kernel_rfl
theorem of_dtable_sameRule {args : List AV} {σ : Store} {R : Out → Store → Prop} (hl : args.length ≤ 17) (h : WpR Tryz.prog b_dtable_sameRule [.tmp 4] args σ R) : CallA Tryz.prog n_dtable_sameRule args σ R := CallA.of_wp Tryz.func26 (by kernel_rfl) a_dtable_sameRule_ok hl h.go
def h_slices_Equal_Value : Hints := ⟨[], [], [], [], [], []⟩
def b_slices_Equal_Value : ACode := .seq (.region [⟨.mv (.c (.bool false)), (some 4), none⟩]) <|
  .seq (.seq (.region [⟨.mv (.t 0), (some 6), none⟩, ⟨.len false (.t 6), (some 7), none⟩, ⟨.mv (.t 1), (some 8), none⟩, ⟨.len false (.t 8), (some 9), none⟩, ⟨.bin .neq (.t 7) (.t 9), (some 10), none⟩]) <|
  .cond (.t 10) (.seq (.region [⟨.mv (.c (.bool false)), (some 4), none⟩]) <|
  .ret) (.skip)) <|
  .seq (.seq (.region [⟨.mv (.t 0), (some 11), none⟩, ⟨.len false (.t 11), (some 12), none⟩, ⟨.mv (.c (.int .i64 0)), (some 13), none⟩]) <|
  .block 0 (.loop (.seq (.region [⟨.bin .lss (.t 13) (.t 12), (some 14), none⟩]) <|
  .seq (.cond (.t 14) (.skip) (.exit 0)) <|
  .seq (.block 1 (.seq (.region [⟨.mv (.t 13), (some 15), none⟩, ⟨.mv (.t 15), (some 5), none⟩]) <|
  .seq (.draw [⟨.mv (.t 0), (some 16), none⟩, ⟨.mv (.t 5), (some 17), none⟩, ⟨.iaddr ⟨true, 3⟩ none (.t 16) (.t 17), (some 18), none⟩, ⟨.load true 3 (.t 18), (some 19), none⟩, ⟨.mv (.t 1), (some 20), none⟩, ⟨.mv (.t 5), (some 21), none⟩, ⟨.iaddr ⟨true, 3⟩ none (.t 20) (.t 21), (some 22), none⟩, ⟨.load true 3 (.t 22), (some 23), none⟩, ⟨.eqf true true [.i, .i, .s] (.t 19) (.t 23), (some 24), none⟩] []) <|
  .cond (.t 24) (.seq (.region [⟨.mv (.c (.bool false)), (some 4), none⟩]) <|
  .ret) (.skip))) <|
  .region [⟨.bin .add (.t 13) (.c (.int .i64 1)), (some 25), none⟩, ⟨.mv (.t 25), (some 13), none⟩]))) <|
  .seq (.region [⟨.mv (.c (.bool true)), (some 4), none⟩]) <|
  .ret
def a_slices_Equal_Value : AFunc := ⟨26, [.tmp 4], b_slices_Equal_Value⟩
theorem a_slices_Equal_Value_ok : compileF Tryz.prog h_slices_Equal_Value Tryz.f27 = some a_slices_Equal_Value := by kernel_rfl
theorem of_slices_Equal_Value {args : List AV} {σ : Store} {R : Out → Store → Prop} (hl : args.length ≤ 26) (h : WpR Tryz.prog b_slices_Equal_Value [.tmp 4] args σ R) : CallA Tryz.prog n_slices_Equal_Value args σ R := CallA.of_wp Tryz.func27 (by kernel_rfl) a_slices_Equal_Value_ok hl h.go
def h_hit_Same : Hints := ⟨[], [], [], [], [], []⟩
def b_hit_Same : ACode := .seq (.region [⟨.box (.t 0), (some 2), none⟩, ⟨.box (.t 1), (some 3), none⟩, ⟨.mv (.c (.bool false)), (some 4), none⟩]) <|
  .seq (.region [⟨.faddr 0 (.t 2), (some 5), none⟩, ⟨.load false 1 (.t 5), (some 6), none⟩, ⟨.faddr 0 (.t 3), (some 7), none⟩, ⟨.load false 1 (.t 7), (some 8), none⟩, ⟨.bin .eql (.t 6) (.t 8), (some 9), none⟩, ⟨.mv (.t 9), (some 10), none⟩, ⟨.faddr 1 (.t 2), (some 11), some (10, true)⟩, ⟨.load false 1 (.t 11), (some 12), some (10, true)⟩, ⟨.faddr 1 (.t 3), (some 13), some (10, true)⟩, ⟨.load false 1 (.t 13), (some 14), some (10, true)⟩, ⟨.call false (.c (.fn (.func n_slices_Equal_int) [] [])) [(.t 12), (.t 14)], (some 15), some (10, true)⟩, ⟨.pick (.t 10) (.t 15) (.c (.bool false)), (some 16), none⟩, ⟨.mv (.t 16), (some 17), none⟩, ⟨.faddr 2 (.t 2), (some 18), some (17, true)⟩, ⟨.load false 1 (.t 18), (some 19), some (17, true)⟩, ⟨.faddr 2 (.t 3), (some 20), some (17, true)⟩, ⟨.load false 1 (.t 20), (some 21), some (17, true)⟩, ⟨.call false (.c (.fn (.func n_slices_EqualFunc_LValue) [] [])) [(.t 19), (.t 21), (.c (.fn (.func n_hit_Same_1) [] []))], (some 22), some (17, true)⟩, ⟨.pick (.t 17) (.t 22) (.c (.bool false)), (some 23), none⟩, ⟨.mv (.t 23), (some 4), none⟩]) <|
  .ret
def a_hit_Same : AFunc := ⟨24, [.tmp 4], b_hit_Same⟩
theorem a_hit_Same_ok : compileF Tryz.prog h_hit_Same Tryz.f28 = some a_hit_Same := by kernel_rfl
theorem of_hit_Same {args : List AV} {σ : Store} {R : Out → Store → Prop} (hl : args.length ≤ 24) (h : WpR Tryz.prog b_hit_Same [.tmp 4] args σ R) : CallA Tryz.prog n_hit_Same args σ R := CallA.of_wp Tryz.func28 (by kernel_rfl) a_hit_Same_ok hl h.go
def h_ref01_SameInts : Hints := ⟨[], [], [], [], [], []⟩
def b_ref01_SameInts : ACode := .seq (.region [⟨.mv (.c (.bool false)), (some 4), none⟩]) <|
  .seq (.seq (.region [⟨.mv (.t 0), (some 6), none⟩, ⟨.len false (.t 6), (some 7), none⟩, ⟨.mv (.t 1), (some 8), none⟩, ⟨.len false (.t 8), (some 9), none⟩, ⟨.bin .neq (.t 7) (.t 9), (some 10), none⟩]) <|
  .cond (.t 10) (.seq (.region [⟨.mv (.c (.bool false)), (some 4), none⟩]) <|
  .ret) (.skip)) <|
  .seq (.seq (.region [⟨.mv (.c (.int .i64 0)), (some 5), none⟩]) <|
  .block 0 (.loop (.seq (.seq (.region [⟨.mv (.t 5), (some 11), none⟩, ⟨.mv (.t 0), (some 12), none⟩, ⟨.len false (.t 12), (some 13), none⟩, ⟨.bin .lss (.t 11) (.t 13), (some 14), none⟩]) <|
  .cond (.t 14) (.skip) (.exit 0)) <|
  .seq (.block 1 (.seq (.draw [⟨.mv (.t 0), (some 17), none⟩, ⟨.mv (.t 5), (some 18), none⟩, ⟨.iaddr ⟨false, 1⟩ none (.t 17) (.t 18), (some 19), none⟩, ⟨.load false 1 (.t 19), (some 20), none⟩, ⟨.mv (.t 1), (some 21), none⟩, ⟨.mv (.t 5), (some 22), none⟩, ⟨.iaddr ⟨false, 1⟩ none (.t 21) (.t 22), (some 23), none⟩, ⟨.load false 1 (.t 23), (some 24), none⟩, ⟨.bin .neq (.t 20) (.t 24), (some 25), none⟩] []) <|
  .cond (.t 25) (.seq (.region [⟨.mv (.c (.bool false)), (some 4), none⟩]) <|
  .ret) (.skip))) <|
  .region [⟨.mv (.t 5), (some 15), none⟩, ⟨.bin .add (.t 15) (.c (.int .i64 1)), (some 16), none⟩, ⟨.mv (.t 16), (some 5), none⟩]))) <|
  .seq (.region [⟨.mv (.c (.bool true)), (some 4), none⟩]) <|
  .ret
def a_ref01_SameInts : AFunc := ⟨26, [.tmp 4], b_ref01_SameInts⟩
theorem a_ref01_SameInts_ok : compileF Tryz.prog h_ref01_SameInts Tryz.f64 = some a_ref01_SameInts := by kernel_rfl
theorem of_ref01_SameInts {args : List AV} {σ : Store} {R : Out → Store → Prop} (hl : args.length ≤ 26) (h : WpR Tryz.prog b_ref01_SameInts [.tmp 4] args σ R) : CallA Tryz.prog n_ref01_SameInts args σ R := CallA.of_wp Tryz.func64 (by kernel_rfl) a_ref01_SameInts_ok hl h.go
def h_ref20_SameRows : Hints := ⟨[], [], [], [], [], []⟩
def b_ref20_SameRows : ACode := .seq (.region [⟨.mv (.c (.bool false)), (some 4), none⟩]) <|
  .seq (.seq (.region [⟨.mv (.t 0), (some 6), none⟩, ⟨.len false (.t 6), (some 7), none⟩, ⟨.mv (.t 1), (some 8), none⟩, ⟨.len false (.t 8), (some 9), none⟩, ⟨.bin .neq (.t 7) (.t 9), (some 10), none⟩]) <|
  .cond (.t 10) (.seq (.region [⟨.mv (.c (.bool false)), (some 4), none⟩]) <|
  .ret) (.skip)) <|
  .seq (.seq (.region [⟨.mv (.c (.int .i64 0)), (some 5), none⟩]) <|
  .block 0 (.loop (.seq (.seq (.region [⟨.mv (.t 5), (some 11), none⟩, ⟨.mv (.t 0), (some 12), none⟩, ⟨.len false (.t 12), (some 13), none⟩, ⟨.bin .lss (.t 11) (.t 13), (some 14), none⟩]) <|
  .cond (.t 14) (.skip) (.exit 0)) <|
  .seq (.block 1 (.seq (.draw [⟨.mv (.t 0), (some 17), none⟩, ⟨.mv (.t 5), (some 18), none⟩, ⟨.iaddr ⟨false, 1⟩ none (.t 17) (.t 18), (some 19), none⟩, ⟨.load false 1 (.t 19), (some 20), none⟩, ⟨.mv (.t 1), (some 21), none⟩, ⟨.mv (.t 5), (some 22), none⟩, ⟨.iaddr ⟨false, 1⟩ none (.t 21) (.t 22), (some 23), none⟩, ⟨.load false 1 (.t 23), (some 24), none⟩, ⟨.call true (.c (.fn (.func n_ref12_SameRow) [] [])) [(.t 20), (.t 24)], (some 25), none⟩, ⟨.un .not (.t 25), (some 26), none⟩] []) <|
  .cond (.t 26) (.seq (.region [⟨.mv (.c (.bool false)), (some 4), none⟩]) <|
  .ret) (.skip))) <|
  .region [⟨.mv (.t 5), (some 15), none⟩, ⟨.bin .add (.t 15) (.c (.int .i64 1)), (some 16), none⟩, ⟨.mv (.t 16), (some 5), none⟩]))) <|
  .seq (.region [⟨.mv (.c (.bool true)), (some 4), none⟩]) <|
  .ret
def a_ref20_SameRows : AFunc := ⟨27, [.tmp 4], b_ref20_SameRows⟩
theorem a_ref20_SameRows_ok : compileF Tryz.prog h_ref20_SameRows Tryz.f65 = some a_ref20_SameRows := by kernel_rfl
theorem of_ref20_SameRows {args : List AV} {σ : Store} {R : Out → Store → Prop} (hl : args.length ≤ 27) (h : WpR Tryz.prog b_ref20_SameRows [.tmp 4] args σ R) : CallA Tryz.prog n_ref20_SameRows args σ R := CallA.of_wp Tryz.func65 (by kernel_rfl) a_ref20_SameRows_ok hl h.go
end Go.Proofs.YtophdhenjdlbeaaGreatDoor
