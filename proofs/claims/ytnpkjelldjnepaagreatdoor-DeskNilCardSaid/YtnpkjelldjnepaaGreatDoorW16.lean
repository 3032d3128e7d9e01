/- Part of a proof: see Root. -/
import Derived.Test.YtnpkjelldjnepaaGreatDoorW15
import Derived.KernelRfl
import Derived.Shelf.Strings.OnBuilder
import Derived.Shelf.Strings.Repeat
import Derived.Shelf.Small.Strs
import Derived.Shelf.Small.Wraps
import Derived.Shelf.LaysM
import Derived.Shelf.Strconv.Itoa3
import Derived.Test.YtnpkjelldjnepaaGreatDoorProg
set_option linter.unnecessarySimpa false
set_option linter.unusedSimpArgs false
set_option linter.unusedVariables false
namespace Go.Proofs.YtnpkjelldjnepaaGreatDoor
open Go.AM
set_option maxRecDepth 10000
def h_law28_DeskNil : Hints := ⟨[], [], [], [], [], []⟩
def b_law28_DeskNil : ACode := .seq (.region [⟨.box (.t 0), (some 1), none⟩, ⟨.mv (.c (.bool false)), (some 2), none⟩]) <|
  .seq (.seq (.region [⟨.load true 12 (.t 1), (some 4), none⟩, ⟨.bslice false ⟨true, 12⟩ (.agg [(.int .i64 0), (.str []), .nils, .nils, (.int .i64 0), (.int .i64 0), .nils, (.str []), (.int .i64 0), .nils, (.int .i64 0), (.int .i64 0)]) 1 [(0, (.t 4))], (some 5), none⟩, ⟨.call false (.c (.fn (.func n_law27_Cmds_Few) [] [])) [(.t 5)], (some 6), none⟩, ⟨.un .not (.t 6), (some 7), none⟩]) <|
  .cond (.t 7) (.seq (.region [⟨.call false (.c (.fn (.func n_law28_lives) [] [])) [], (some 8), none⟩, ⟨.mv (.t 8), (some 2), none⟩]) <|
  .ret) (.skip)) <|
  .seq (.region [⟨.load true 12 (.t 1), (some 9), none⟩, ⟨.load true 12 (.t 1), (some 10), none⟩, ⟨.bslice false ⟨true, 12⟩ (.agg [(.int .i64 0), (.str []), .nils, .nils, (.int .i64 0), (.int .i64 0), .nils, (.str []), (.int .i64 0), .nils, (.int .i64 0), (.int .i64 0)]) 2 [(0, (.t 9)), (1, (.t 10))], (some 11), none⟩, ⟨.call false (.c (.fn (.func n_desk_Play) [] [])) [(.c .nili), (.t 11)], (some 12), none⟩, ⟨.mv (.t 12), (some 3), none⟩]) <|
  .seq (.region [⟨.load true 12 (.t 1), (some 13), none⟩, ⟨.call false (.c (.fn (.func n_desk_Do) [] [])) [(.c .nili), (.t 13)], (some 14), none⟩, ⟨.build [(.int .i64 0), (.int .i64 0), (.str []), .nils, .nils, (.int .i64 0), (.int .i64 0), .nils, .nils, .nils, (.int .i64 0), (.int .i64 0), (.str []), (.str [])] [(0, 1, (.c (.int .i64 1)))], (some 15), none⟩, ⟨.call false (.c (.fn (.func n_ref28_Same) [] [])) [(.t 14), (.t 15)], (some 16), none⟩, ⟨.mv (.t 16), (some 17), none⟩, ⟨.mv (.t 3), (some 18), some (17, true)⟩, ⟨.len false (.t 18), (some 19), some (17, true)⟩, ⟨.bin .eql (.t 19) (.c (.int .i64 2)), (some 20), some (17, true)⟩, ⟨.pick (.t 17) (.t 20) (.c (.bool false)), (some 21), none⟩, ⟨.mv (.t 21), (some 22), none⟩, ⟨.mv (.t 3), (some 23), some (22, true)⟩, ⟨.iaddr ⟨true, 14⟩ none (.t 23) (.c (.int .i64 1)), (some 24), some (22, true)⟩, ⟨.load true 14 (.t 24), (some 25), some (22, true)⟩, ⟨.build [(.int .i64 0), (.int .i64 0), (.str []), .nils, .nils, (.int .i64 0), (.int .i64 0), .nils, .nils, .nils, (.int .i64 0), (.int .i64 0), (.str []), (.str [])] [(0, 1, (.c (.int .i64 1)))], (some 26), some (22, true)⟩, ⟨.call false (.c (.fn (.func n_ref28_Same) [] [])) [(.t 25), (.t 26)], (some 27), some (22, true)⟩, ⟨.pick (.t 22) (.t 27) (.c (.bool false)), (some 28), none⟩, ⟨.mv (.t 28), (some 29), none⟩, ⟨.call false (.c (.fn (.func n_law28_lives) [] [])) [], (some 30), some (29, true)⟩, ⟨.pick (.t 29) (.t 30) (.c (.bool false)), (some 31), none⟩, ⟨.mv (.t 31), (some 2), none⟩]) <|
  .ret
def a_law28_DeskNil : AFunc := ⟨32, [.tmp 2], b_law28_DeskNil⟩
theorem a_law28_DeskNil_ok : compileF Tryz.prog h_law28_DeskNil Tryz.f3 = some a_law28_DeskNil := by kernel_rfl
theorem of_law28_DeskNil {args : List AV} {σ : Store} {R : Out → Store → Prop} (hl : args.length ≤ 32) (h : WpR Tryz.prog b_law28_DeskNil [.tmp 2] args σ R) : CallA Tryz.prog n_law28_DeskNil args σ R := CallA.of_wp Tryz.func3 (by kernel_rfl) a_law28_DeskNil_ok hl h.go
def h_law27_Cmds_Few : Hints := ⟨[], [], [], [], [], []⟩
def b_law27_Cmds_Few : ACode := .seq (.region [⟨.mv (.c (.bool false)), (some 2), none⟩]) <|
  .seq (.seq (.region [⟨.mv (.t 0), (some 4), none⟩, ⟨.len false (.t 4), (some 5), none⟩, ⟨.bin .gtr (.t 5) (.c (.int .i64 70)), (some 6), none⟩]) <|
  .cond (.t 6) (.seq (.region [⟨.mv (.c (.bool false)), (some 2), none⟩]) <|
  .ret) (.skip)) <|
  .seq (.seq (.region [⟨.mv (.c (.int .i64 0)), (some 3), none⟩]) <|
  .block 0 (.loop (.seq (.seq (.region [⟨.mv (.t 3), (some 7), none⟩, ⟨.mv (.t 0), (some 8), none⟩, ⟨.len false (.t 8), (some 9), none⟩, ⟨.bin .lss (.t 7) (.t 9), (some 10), none⟩]) <|
  .cond (.t 10) (.skip) (.exit 0)) <|
  .seq (.block 1 (.seq (.region [⟨.mv (.t 0), (some 13), none⟩, ⟨.mv (.t 3), (some 14), none⟩, ⟨.iaddr ⟨true, 12⟩ none (.t 13) (.t 14), (some 15), none⟩, ⟨.faddr 1 (.t 15), (some 16), none⟩, ⟨.load true 6 (.t 16), (some 17), none⟩, ⟨.call false (.c (.fn (.func n_law18_T_Small) [] [])) [(.t 17)], (some 18), none⟩, ⟨.un .not (.t 18), (some 19), none⟩, ⟨.mv (.t 19), (some 20), none⟩, ⟨.mv (.t 0), (some 21), some (20, false)⟩, ⟨.mv (.t 3), (some 22), some (20, false)⟩, ⟨.iaddr ⟨true, 12⟩ none (.t 21) (.t 22), (some 23), some (20, false)⟩, ⟨.faddr 7 (.t 23), (some 24), some (20, false)⟩, ⟨.load false 1 (.t 24), (some 25), some (20, false)⟩, ⟨.len true (.t 25), (some 26), some (20, false)⟩, ⟨.bin .gtr (.t 26) (.c (.int .i64 300)), (some 27), some (20, false)⟩, ⟨.pick (.t 20) (.c (.bool true)) (.t 27), (some 28), none⟩, ⟨.mv (.t 28), (some 29), none⟩, ⟨.mv (.t 0), (some 30), some (29, false)⟩, ⟨.mv (.t 3), (some 31), some (29, false)⟩, ⟨.iaddr ⟨true, 12⟩ none (.t 30) (.t 31), (some 32), some (29, false)⟩, ⟨.faddr 9 (.t 32), (some 33), some (29, false)⟩, ⟨.load false 1 (.t 33), (some 34), some (29, false)⟩, ⟨.call false (.c (.fn (.func n_law16_Row_Few) [] [])) [(.t 34)], (some 35), some (29, false)⟩, ⟨.un .not (.t 35), (some 36), some (29, false)⟩, ⟨.pick (.t 29) (.c (.bool true)) (.t 36), (some 37), none⟩]) <|
  .cond (.t 37) (.seq (.region [⟨.mv (.c (.bool false)), (some 2), none⟩]) <|
  .ret) (.skip))) <|
  .region [⟨.mv (.t 3), (some 11), none⟩, ⟨.bin .add (.t 11) (.c (.int .i64 1)), (some 12), none⟩, ⟨.mv (.t 12), (some 3), none⟩]))) <|
  .seq (.region [⟨.mv (.c (.bool true)), (some 2), none⟩]) <|
  .ret
def a_law27_Cmds_Few : AFunc := ⟨38, [.tmp 2], b_law27_Cmds_Few⟩
theorem a_law27_Cmds_Few_ok : compileF Tryz.prog h_law27_Cmds_Few Tryz.f4 = some a_law27_Cmds_Few := by kernel_rfl
theorem of_law27_Cmds_Few {args : List AV} {σ : Store} {R : Out → Store → Prop} (hl : args.length ≤ 38) (h : WpR Tryz.prog b_law27_Cmds_Few [.tmp 2] args σ R) : CallA Tryz.prog n_law27_Cmds_Few args σ R := CallA.of_wp Tryz.func4 (by kernel_rfl) a_law27_Cmds_Few_ok hl h.go
def h_law18_T_Small : Hints := ⟨[], [], [], [], [], []⟩
def b_law18_T_Small : ACode := .seq (.region [⟨.box (.t 0), (some 1), none⟩, ⟨.mv (.c (.bool false)), (some 2), none⟩]) <|
  .seq (.seq (.region [⟨.faddr 0 (.t 1), (some 4), none⟩, ⟨.load false 1 (.t 4), (some 5), none⟩, ⟨.len true (.t 5), (some 6), none⟩, ⟨.bin .gtr (.t 6) (.c (.int .i64 300)), (some 7), none⟩, ⟨.mv (.t 7), (some 8), none⟩, ⟨.faddr 5 (.t 1), (some 9), some (8, false)⟩, ⟨.load false 1 (.t 9), (some 10), some (8, false)⟩, ⟨.len false (.t 10), (some 11), some (8, false)⟩, ⟨.bin .gtr (.t 11) (.c (.int .i64 26)), (some 12), some (8, false)⟩, ⟨.pick (.t 8) (.c (.bool true)) (.t 12), (some 13), none⟩, ⟨.mv (.t 13), (some 14), none⟩, ⟨.faddr 1 (.t 1), (some 15), some (14, false)⟩, ⟨.load false 1 (.t 15), (some 16), some (14, false)⟩, ⟨.call false (.c (.fn (.func n_law18_order) [] [])) [(.t 16)], (some 17), some (14, false)⟩, ⟨.un .not (.t 17), (some 18), some (14, false)⟩, ⟨.pick (.t 14) (.c (.bool true)) (.t 18), (some 19), none⟩, ⟨.mv (.t 19), (some 20), none⟩, ⟨.faddr 2 (.t 1), (some 21), some (20, false)⟩, ⟨.load false 1 (.t 21), (some 22), some (20, false)⟩, ⟨.call false (.c (.fn (.func n_law18_order) [] [])) [(.t 22)], (some 23), some (20, false)⟩, ⟨.un .not (.t 23), (some 24), some (20, false)⟩, ⟨.pick (.t 20) (.c (.bool true)) (.t 24), (some 25), none⟩]) <|
  .cond (.t 25) (.seq (.region [⟨.mv (.c (.bool false)), (some 2), none⟩]) <|
  .ret) (.skip)) <|
  .seq (.seq (.region [⟨.mv (.c (.int .i64 0)), (some 3), none⟩]) <|
  .block 0 (.loop (.seq (.seq (.region [⟨.mv (.t 3), (some 26), none⟩, ⟨.faddr 5 (.t 1), (some 27), none⟩, ⟨.load false 1 (.t 27), (some 28), none⟩, ⟨.len false (.t 28), (some 29), none⟩, ⟨.bin .lss (.t 26) (.t 29), (some 30), none⟩]) <|
  .cond (.t 30) (.skip) (.exit 0)) <|
  .seq (.block 1 (.seq (.region [⟨.faddr 5 (.t 1), (some 33), none⟩, ⟨.load false 1 (.t 33), (some 34), none⟩, ⟨.mv (.t 3), (some 35), none⟩, ⟨.iaddr ⟨true, 2⟩ none (.t 34) (.t 35), (some 36), none⟩, ⟨.faddr 0 (.t 36), (some 37), none⟩, ⟨.load false 1 (.t 37), (some 38), none⟩, ⟨.call false (.c (.fn (.func n_law18_texts) [] [])) [(.t 38)], (some 39), none⟩, ⟨.un .not (.t 39), (some 40), none⟩, ⟨.mv (.t 40), (some 41), none⟩, ⟨.faddr 5 (.t 1), (some 42), some (41, false)⟩, ⟨.load false 1 (.t 42), (some 43), some (41, false)⟩, ⟨.mv (.t 3), (some 44), some (41, false)⟩, ⟨.iaddr ⟨true, 2⟩ none (.t 43) (.t 44), (some 45), some (41, false)⟩, ⟨.faddr 1 (.t 45), (some 46), some (41, false)⟩, ⟨.load false 1 (.t 46), (some 47), some (41, false)⟩, ⟨.call false (.c (.fn (.func n_law18_texts) [] [])) [(.t 47)], (some 48), some (41, false)⟩, ⟨.un .not (.t 48), (some 49), some (41, false)⟩, ⟨.pick (.t 41) (.c (.bool true)) (.t 49), (some 50), none⟩]) <|
  .cond (.t 50) (.seq (.region [⟨.mv (.c (.bool false)), (some 2), none⟩]) <|
  .ret) (.skip))) <|
  .region [⟨.mv (.t 3), (some 31), none⟩, ⟨.bin .add (.t 31) (.c (.int .i64 1)), (some 32), none⟩, ⟨.mv (.t 32), (some 3), none⟩]))) <|
  .seq (.region [⟨.mv (.c (.bool true)), (some 2), none⟩]) <|
  .ret
def a_law18_T_Small : AFunc := ⟨51, [.tmp 2], b_law18_T_Small⟩
theorem a_law18_T_Small_ok : compileF Tryz.prog h_law18_T_Small Tryz.f9 = some a_law18_T_Small := by kernel_rfl
theorem of_law18_T_Small {args : List AV} {σ : Store} {R : Out → Store → Prop} (hl : args.length ≤ 51) (h : WpR Tryz.prog b_law18_T_Small [.tmp 2] args σ R) : CallA Tryz.prog n_law18_T_Small args σ R := CallA.of_wp Tryz.func9 (by kernel_rfl) a_law18_T_Small_ok hl h.go
def h_law16_Row_Few : Hints := ⟨[], [], [], [], [], []⟩
def b_law16_Row_Few : ACode := .seq (.region [⟨.mv (.c (.bool false)), (some 2), none⟩]) <|
  .seq (.seq (.region [⟨.mv (.t 0), (some 4), none⟩, ⟨.len false (.t 4), (some 5), none⟩, ⟨.bin .gtr (.t 5) (.c (.int .i64 12)), (some 6), none⟩]) <|
  .cond (.t 6) (.seq (.region [⟨.mv (.c (.bool false)), (some 2), none⟩]) <|
  .ret) (.skip)) <|
  .seq (.seq (.region [⟨.mv (.c (.int .i64 0)), (some 3), none⟩]) <|
  .block 0 (.loop (.seq (.seq (.region [⟨.mv (.t 3), (some 7), none⟩, ⟨.mv (.t 0), (some 8), none⟩, ⟨.len false (.t 8), (some 9), none⟩, ⟨.bin .lss (.t 7) (.t 9), (some 10), none⟩]) <|
  .cond (.t 10) (.skip) (.exit 0)) <|
  .seq (.block 1 (.seq (.region [⟨.mv (.t 0), (some 13), none⟩, ⟨.mv (.t 3), (some 14), none⟩, ⟨.iaddr ⟨true, 3⟩ none (.t 13) (.t 14), (some 15), none⟩, ⟨.faddr 2 (.t 15), (some 16), none⟩, ⟨.load false 1 (.t 16), (some 17), none⟩, ⟨.len true (.t 17), (some 18), none⟩, ⟨.bin .gtr (.t 18) (.c (.int .i64 300)), (some 19), none⟩]) <|
  .cond (.t 19) (.seq (.region [⟨.mv (.c (.bool false)), (some 2), none⟩]) <|
  .ret) (.skip))) <|
  .region [⟨.mv (.t 3), (some 11), none⟩, ⟨.bin .add (.t 11) (.c (.int .i64 1)), (some 12), none⟩, ⟨.mv (.t 12), (some 3), none⟩]))) <|
  .seq (.region [⟨.mv (.c (.bool true)), (some 2), none⟩]) <|
  .ret
def a_law16_Row_Few : AFunc := ⟨20, [.tmp 2], b_law16_Row_Few⟩
theorem a_law16_Row_Few_ok : compileF Tryz.prog h_law16_Row_Few Tryz.f10 = some a_law16_Row_Few := by kernel_rfl
theorem of_law16_Row_Few {args : List AV} {σ : Store} {R : Out → Store → Prop} (hl : args.length ≤ 20) (h : WpR Tryz.prog b_law16_Row_Few [.tmp 2] args σ R) : CallA Tryz.prog n_law16_Row_Few args σ R := CallA.of_wp Tryz.func10 (by kernel_rfl) a_law16_Row_Few_ok hl h.go
def h_law18_order : Hints := ⟨[], [], [], [], [], []⟩
def b_law18_order : ACode := .seq (.region [⟨.mv (.c (.bool false)), (some 2), none⟩]) <|
  .seq (.seq (.region [⟨.mv (.t 0), (some 5), none⟩, ⟨.call false (.c (.fn (.func n_law15_Cols_Few) [] [])) [(.t 5)], (some 6), none⟩, ⟨.un .not (.t 6), (some 7), none⟩]) <|
  .cond (.t 7) (.seq (.region [⟨.mv (.c (.bool false)), (some 2), none⟩]) <|
  .ret) (.skip)) <|
  .seq (.seq (.region [⟨.mv (.c (.int .i64 0)), (some 3), none⟩]) <|
  .block 0 (.loop (.seq (.seq (.region [⟨.mv (.t 3), (some 8), none⟩, ⟨.mv (.t 0), (some 9), none⟩, ⟨.len false (.t 9), (some 10), none⟩, ⟨.bin .lss (.t 8) (.t 10), (some 11), none⟩]) <|
  .cond (.t 11) (.skip) (.exit 0)) <|
  .seq (.block 1 (.seq (.seq (.region [⟨.mv (.t 0), (some 14), none⟩, ⟨.mv (.t 3), (some 15), none⟩, ⟨.iaddr ⟨true, 3⟩ none (.t 14) (.t 15), (some 16), none⟩, ⟨.faddr 2 (.t 16), (some 17), none⟩, ⟨.load false 1 (.t 17), (some 18), none⟩, ⟨.len false (.t 18), (some 19), none⟩, ⟨.bin .gtr (.t 19) (.c (.int .i64 12)), (some 20), none⟩]) <|
  .cond (.t 20) (.seq (.region [⟨.mv (.c (.bool false)), (some 2), none⟩]) <|
  .ret) (.skip)) <|
  .seq (.region [⟨.mv (.c (.int .i64 0)), (some 4), none⟩]) <|
  .block 2 (.loop (.seq (.seq (.region [⟨.mv (.t 4), (some 21), none⟩, ⟨.mv (.t 0), (some 22), none⟩, ⟨.mv (.t 3), (some 23), none⟩, ⟨.iaddr ⟨true, 3⟩ none (.t 22) (.t 23), (some 24), none⟩, ⟨.faddr 2 (.t 24), (some 25), none⟩, ⟨.load false 1 (.t 25), (some 26), none⟩, ⟨.len false (.t 26), (some 27), none⟩, ⟨.bin .lss (.t 21) (.t 27), (some 28), none⟩]) <|
  .cond (.t 28) (.skip) (.exit 2)) <|
  .seq (.block 3 (.seq (.region [⟨.mv (.t 0), (some 31), none⟩, ⟨.mv (.t 3), (some 32), none⟩, ⟨.iaddr ⟨true, 3⟩ none (.t 31) (.t 32), (some 33), none⟩, ⟨.faddr 2 (.t 33), (some 34), none⟩, ⟨.load false 1 (.t 34), (some 35), none⟩, ⟨.mv (.t 4), (some 36), none⟩, ⟨.iaddr ⟨true, 3⟩ none (.t 35) (.t 36), (some 37), none⟩, ⟨.faddr 2 (.t 37), (some 38), none⟩, ⟨.load false 1 (.t 38), (some 39), none⟩, ⟨.len true (.t 39), (some 40), none⟩, ⟨.bin .gtr (.t 40) (.c (.int .i64 300)), (some 41), none⟩]) <|
  .cond (.t 41) (.seq (.region [⟨.mv (.c (.bool false)), (some 2), none⟩]) <|
  .ret) (.skip))) <|
  .region [⟨.mv (.t 4), (some 29), none⟩, ⟨.bin .add (.t 29) (.c (.int .i64 1)), (some 30), none⟩, ⟨.mv (.t 30), (some 4), none⟩])))) <|
  .region [⟨.mv (.t 3), (some 12), none⟩, ⟨.bin .add (.t 12) (.c (.int .i64 1)), (some 13), none⟩, ⟨.mv (.t 13), (some 3), none⟩]))) <|
  .seq (.region [⟨.mv (.c (.bool true)), (some 2), none⟩]) <|
  .ret
def a_law18_order : AFunc := ⟨42, [.tmp 2], b_law18_order⟩
theorem a_law18_order_ok : compileF Tryz.prog h_law18_order Tryz.f19 = some a_law18_order := by kernel_rfl
theorem of_law18_order {args : List AV} {σ : Store} {R : Out → Store → Prop} (hl : args.length ≤ 42) (h : WpR Tryz.prog b_law18_order [.tmp 2] args σ R) : CallA Tryz.prog n_law18_order args σ R := CallA.of_wp Tryz.func19 (by kernel_rfl) a_law18_order_ok hl h.go
def h_law18_texts : Hints := ⟨[], [], [], [], [], []⟩
def b_law18_texts : ACode := .seq (.region [⟨.mv (.c (.bool false)), (some 2), none⟩]) <|
  .seq (.seq (.region [⟨.mv (.t 0), (some 4), none⟩, ⟨.len false (.t 4), (some 5), none⟩, ⟨.bin .gtr (.t 5) (.c (.int .i64 10)), (some 6), none⟩]) <|
  .cond (.t 6) (.seq (.region [⟨.mv (.c (.bool false)), (some 2), none⟩]) <|
  .ret) (.skip)) <|
  .seq (.seq (.region [⟨.mv (.c (.int .i64 0)), (some 3), none⟩]) <|
  .block 0 (.loop (.seq (.seq (.region [⟨.mv (.t 3), (some 7), none⟩, ⟨.mv (.t 0), (some 8), none⟩, ⟨.len false (.t 8), (some 9), none⟩, ⟨.bin .lss (.t 7) (.t 9), (some 10), none⟩]) <|
  .cond (.t 10) (.skip) (.exit 0)) <|
  .seq (.block 1 (.seq (.region [⟨.mv (.t 0), (some 13), none⟩, ⟨.mv (.t 3), (some 14), none⟩, ⟨.iaddr ⟨false, 1⟩ none (.t 13) (.t 14), (some 15), none⟩, ⟨.load false 1 (.t 15), (some 16), none⟩, ⟨.len true (.t 16), (some 17), none⟩, ⟨.bin .gtr (.t 17) (.c (.int .i64 300)), (some 18), none⟩]) <|
  .cond (.t 18) (.seq (.region [⟨.mv (.c (.bool false)), (some 2), none⟩]) <|
  .ret) (.skip))) <|
  .region [⟨.mv (.t 3), (some 11), none⟩, ⟨.bin .add (.t 11) (.c (.int .i64 1)), (some 12), none⟩, ⟨.mv (.t 12), (some 3), none⟩]))) <|
  .seq (.region [⟨.mv (.c (.bool true)), (some 2), none⟩]) <|
  .ret
def a_law18_texts : AFunc := ⟨19, [.tmp 2], b_law18_texts⟩
theorem a_law18_texts_ok : compileF Tryz.prog h_law18_texts Tryz.f20 = some a_law18_texts := by kernel_rfl
theorem of_law18_texts {args : List AV} {σ : Store} {R : Out → Store → Prop} (hl : args.length ≤ 19) (h : WpR Tryz.prog b_law18_texts [.tmp 2] args σ R) : CallA Tryz.prog n_law18_texts args σ R := CallA.of_wp Tryz.func20 (by kernel_rfl) a_law18_texts_ok hl h.go
def h_law15_Cols_Few : Hints := ⟨[], [], [], [], [], []⟩
def b_law15_Cols_Few : ACode := .seq (.region [⟨.mv (.c (.bool false)), (some 2), none⟩]) <|
  .seq (.seq (.region [⟨.mv (.t 0), (some 4), none⟩, ⟨.len false (.t 4), (some 5), none⟩, ⟨.bin .gtr (.t 5) (.c (.int .i64 12)), (some 6), none⟩]) <|
  .cond (.t 6) (.seq (.region [⟨.mv (.c (.bool false)), (some 2), none⟩]) <|
  .ret) (.skip)) <|
  .seq (.seq (.region [⟨.mv (.c (.int .i64 0)), (some 3), none⟩]) <|
  .block 0 (.loop (.seq (.seq (.region [⟨.mv (.t 3), (some 7), none⟩, ⟨.mv (.t 0), (some 8), none⟩, ⟨.len false (.t 8), (some 9), none⟩, ⟨.bin .lss (.t 7) (.t 9), (some 10), none⟩]) <|
  .cond (.t 10) (.skip) (.exit 0)) <|
  .seq (.block 1 (.seq (.region [⟨.mv (.t 0), (some 13), none⟩, ⟨.mv (.t 3), (some 14), none⟩, ⟨.iaddr ⟨true, 3⟩ none (.t 13) (.t 14), (some 15), none⟩, ⟨.faddr 0 (.t 15), (some 16), none⟩, ⟨.load false 1 (.t 16), (some 17), none⟩, ⟨.len true (.t 17), (some 18), none⟩, ⟨.bin .gtr (.t 18) (.c (.int .i64 300)), (some 19), none⟩]) <|
  .cond (.t 19) (.seq (.region [⟨.mv (.c (.bool false)), (some 2), none⟩]) <|
  .ret) (.skip))) <|
  .region [⟨.mv (.t 3), (some 11), none⟩, ⟨.bin .add (.t 11) (.c (.int .i64 1)), (some 12), none⟩, ⟨.mv (.t 12), (some 3), none⟩]))) <|
  .seq (.region [⟨.mv (.c (.bool true)), (some 2), none⟩]) <|
  .ret
def a_law15_Cols_Few : AFunc := ⟨20, [.tmp 2], b_law15_Cols_Few⟩
theorem a_law15_Cols_Few_ok : compileF Tryz.prog h_law15_Cols_Few Tryz.f35 = some a_law15_Cols_Few := by kernel_rfl
theorem of_law15_Cols_Few {args : List AV} {σ : Store} {R : Out → Store → Prop} (hl : args.length ≤ 20) (h : WpR Tryz.prog b_law15_Cols_Few [.tmp 2] args σ R) : CallA Tryz.prog n_law15_Cols_Few args σ R := CallA.of_wp Tryz.func35 (by kernel_rfl) a_law15_Cols_Few_ok hl h.go
end Go.Proofs.YtnpkjelldjnepaaGreatDoor
namespace Go.Proofs.YtnpkjelldjnepaaGreatDoor
open Go.AM
set_option maxRecDepth 10000
end Go.Proofs.YtnpkjelldjnepaaGreatDoor
namespace Go.Proofs.YtnpkjelldjnepaaGreatDoor
open Go.AM
set_option maxRecDepth 10000
end Go.Proofs.YtnpkjelldjnepaaGreatDoor
namespace Go.Proofs.YtnpkjelldjnepaaGreatDoor
open Go.AM
set_option maxRecDepth 10000
end Go.Proofs.YtnpkjelldjnepaaGreatDoor
namespace Go.Proofs.YtnpkjelldjnepaaGreatDoor
open Go.AM
set_option maxRecDepth 10000
end Go.Proofs.YtnpkjelldjnepaaGreatDoor
namespace Go.Proofs.YtnpkjelldjnepaaGreatDoor
open Go.AM
set_option maxRecDepth 4000
theorem before_succ {q : Nat → Prop} {i : Nat} (h : ∀ k, k < i → q k) (hi : q i) : ∀ k, k < i + 1 → q k := fun k hk => by
  by_cases h2 : k < i
  · exact h k h2
  · have : k = i := by omega
    subst this; exact hi
theorem allN {α : Type} [Inhabited α] {p : α → Bool} {l : List α} (h : ∀ k, k < l.length → p (l.getD k default) = true) : l.all p = true := by
  rw [List.all_eq_true]
  intro x hx
  obtain ⟨i, hi, rfl⟩ := List.getElem_of_mem hx
  have := h i hi
  rwa [List.getD_eq_getElem?_getD, List.getElem?_eq_getElem hi, Option.getD_some] at this
theorem allF {α : Type} [Inhabited α] {p : α → Bool} {l : List α} {i : Nat} (hi : i < l.length) (h : p (l.getD i default) = false) : l.all p = false := by
  cases hq : l.all p with
  | false => rfl
  | true => rw [List.all_eq_true] at hq; rw [hq _ (getD_mem hi)] at h; cases h
def lenB (n : Nat) (s : Str) : Bool := decide (s.length ≤ n)
def txS (l : List Str) : Bool := decide (l.length ≤ 10) && l.all (lenB 300)
theorem law18_texts (l : List Str) : CallF Tryz.prog n_law18_texts [eStrs l] (.bool (txS l)) := by
  obtain ⟨E, hE⟩ : ∃ E, txS l = E := ⟨_, rfl⟩
  rw [hE]
  unfold txS at hE
  simp only [eStrs]
  refine CallF.of_nil (of_law18_texts (by simp) ?_) (by simp)
  unfold b_law18_texts WpR
  intro Q hQr hQn hQp
  repeat' first | refine go_ ?_ | refine br_ (fun hw => ?_) (fun hw => ?_) <;> try omega | fail
  · refine leafE ?_ rfl; rw [← hE, decide_eq_false (by omega), Bool.false_and]
  have h10 : l.length ≤ 10 := by omega
  rw [decide_eq_true h10, Bool.true_and] at hE
  with_reducible refine loop_i [2, 3, 7, 8, 9, 10, 11, 12, 13, 14, 15, 16, 17, 18] (fun i : Nat => [(3, I i)]) (fun _ => []) (fun i => i ≤ l.length ∧ ∀ k, k < i → lenB 300 (l.getD k default) = true) (fun i => l.length - i) (0) ?_ ?_ ?_ ?_
  · simp
  · rfl
  · exact at_
  rintro i r ⟨h1, h2⟩
  by_cases hi : i < l.length
  · have hne := fun h => allF (p := lenB 300) hi h
    have hbs := fun he => before_succ (q := fun k => lenB 300 (l.getD k default) = true) h2 (i := i) he
    have hS : lenB 300 (l.getD i default) = decide ((l.getD i default).length ≤ 300) := rfl
    rw [hS] at hne hbs
    repeat' first | refine go_ ?_ | refine br_ (fun hw => ?_) (fun hw => ?_) <;> try omega | fail
    all_goals first
      | exact ab_
      | (refine leafE ?_ rfl; rw [← hE, hne (decide_eq_false (by omega))])
      | (refine ⟨i + 1, ?_, ?_, by first | rfl | (simp [go_sem]; done), ou_, at_⟩ <;> (try dsimp only)
         · exact ⟨by omega, hbs (decide_eq_true (by omega))⟩
         · omega)
  · repeat' first | refine go_ ?_ | refine br_ (fun hw => ?_) (fun hw => ?_) <;> try omega | fail
    refine leafE ?_ rfl; rw [← hE, allN (fun k hk => h2 k (by omega))]
def nameB (c : Col) : Bool := decide (c.name.length ≤ 300)
def fewS (l : List Col) : Bool := decide (l.length ≤ 12) && l.all nameB
theorem law15_Few (l : List Col) : CallF Tryz.prog n_law15_Cols_Few [eCols l] (.bool (fewS l)) := by
  obtain ⟨E, hE⟩ : ∃ E, fewS l = E := ⟨_, rfl⟩
  rw [hE]
  unfold fewS at hE
  simp only [eCols]
  refine CallF.of_nil (of_law15_Cols_Few (by simp) ?_) (by simp)
  unfold b_law15_Cols_Few WpR
  intro Q hQr hQn hQp
  repeat' first | refine go_ ?_ | refine br_ (fun hw => ?_) (fun hw => ?_) <;> try omega | fail
  · refine leafE ?_ rfl; rw [← hE, decide_eq_false (by omega), Bool.false_and]
  have h10 : l.length ≤ 12 := by omega
  rw [decide_eq_true h10, Bool.true_and] at hE
  with_reducible refine loop_i [2, 3, 7, 8, 9, 10, 11, 12, 13, 14, 15, 16, 17, 18, 19] (fun i : Nat => [(3, I i)]) (fun _ => []) (fun i => i ≤ l.length ∧ ∀ k, k < i → nameB (l.getD k default) = true) (fun i => l.length - i) (0) ?_ ?_ ?_ ?_
  · simp
  · rfl
  · exact at_
  rintro i r ⟨h1, h2⟩
  by_cases hi : i < l.length
  · have hne := fun h => allF (p := nameB) hi h
    have hbs := fun he => before_succ (q := fun k => nameB (l.getD k default) = true) h2 (i := i) he
    have hS : nameB (l.getD i default) = decide ((l.getD i default).name.length ≤ 300) := rfl
    rw [hS] at hne hbs
    repeat' first | refine go_ ?_ | refine br_ (fun hw => ?_) (fun hw => ?_) <;> try omega | fail
    all_goals first
      | exact ab_
      | (refine leafE ?_ rfl; rw [← hE, hne (decide_eq_false (by omega))])
      | (refine ⟨i + 1, ?_, ?_, by first | rfl | (simp [go_sem]; done), ou_, at_⟩ <;> (try dsimp only)
         · exact ⟨by omega, hbs (decide_eq_true (by omega))⟩
         · omega)
  · repeat' first | refine go_ ?_ | refine br_ (fun hw => ?_) (fun hw => ?_) <;> try omega | fail
    refine leafE ?_ rfl; rw [← hE, allN (fun k hk => h2 k (by omega))]
def valB (v : Val) : Bool := decide (v.s.length ≤ 300)
def colB (c : Col) : Bool := decide (c.order.length ≤ 12) && c.order.all valB
def ordS (l : List Col) : Bool := fewS l && l.all colB
theorem law18_order (l : List Col) : CallF Tryz.prog n_law18_order [eCols l] (.bool (ordS l)) := by
  have cf := law15_Few l
  obtain ⟨E, hE⟩ : ∃ E, ordS l = E := ⟨_, rfl⟩
  rw [hE]
  unfold ordS at hE
  have h12 : fewS l = true → l.length ≤ 12 := fun h => by simp only [fewS, Bool.and_eq_true, decide_eq_true_eq] at h; exact h.1
  simp only [eCols] at cf ⊢
  generalize fewS l = fe at *
  refine CallF.of_nil (of_law18_order (by simp) ?_) (by simp)
  unfold b_law18_order WpR
  intro Q hQr hQn hQp
  cases fe with
  | false =>
    repeat' first | refine go_ ?_ | refine cf_ cf ?_ | refine br_ (fun hw => ?_) (fun hw => ?_) <;> try omega | fail
    all_goals first
      | exact ab_
      | (refine leafE ?_ rfl; rw [← hE, Bool.false_and])
  | true =>
    rw [Bool.true_and] at hE
    have h12 := h12 rfl
    repeat' first | refine go_ ?_ | refine cf_ cf ?_ | refine br_ (fun hw => ?_) (fun hw => ?_) <;> try omega | fail
    all_goals first | exact ab_ | skip
    with_reducible refine loop_i [2, 3, 4, 8, 9, 10, 11, 12, 13, 14, 15, 16, 17, 18, 19, 20, 21, 22, 23, 24, 25, 26, 27, 28, 29, 30, 31, 32, 33, 34, 35, 36, 37, 38, 39, 40, 41] (fun i : Nat => [(3, I i)]) (fun _ => []) (fun i => i ≤ l.length ∧ ∀ k, k < i → colB (l.getD k default) = true) (fun i => l.length - i) (0) ?_ ?_ ?_ ?_
    · simp
    · rfl
    · exact at_
    rintro i r ⟨h1, h2⟩
    by_cases hi : i < l.length
    · have hne := fun h => allF (p := colB) hi h
      have hbs := fun he => before_succ (q := fun k => colB (l.getD k default) = true) h2 (i := i) he
      have hS : colB (l.getD i default) = (decide ((l.getD i default).order.length ≤ 12) && (l.getD i default).order.all valB) := rfl
      rw [hS] at hne hbs
      obtain ⟨c, hc⟩ : ∃ c, l.getD i default = c := ⟨_, rfl⟩
      rw [hc] at hne hbs
      clear hS
      repeat' first | simp (disch := omega) only [go_sem, hQr, hQn, hQp, wrapK_i64, wrapK_u8, wrapK_u64, Nat.reduceAdd, Nat.reduceBEq, ↓reduceIte, hc] | refine go_ ?_ | refine br_ (fun hw => ?_) (fun hw => ?_) <;> try omega | fail
      · refine leafE ?_ rfl; rw [← hE, hne (by rw [decide_eq_false (by omega), Bool.false_and])]
      have ho : c.order.length ≤ 12 := by omega
      rw [decide_eq_true ho, Bool.true_and] at hne hbs
      with_reducible refine loop_i [2, 4, 21, 22, 23, 24, 25, 26, 27, 28, 29, 30, 31, 32, 33, 34, 35, 36, 37, 38, 39, 40, 41] (fun j : Nat => [(4, I j)]) (fun _ => []) (fun j => j ≤ c.order.length ∧ ∀ k, k < j → valB (c.order.getD k default) = true) (fun j => c.order.length - j) (0) ?_ ?_ ?_ ?_
      · simp
      · rfl
      · exact at_
      rintro j r2 ⟨g1, g2⟩
      by_cases hj : j < c.order.length
      · have hne2 := fun h => allF (p := valB) hj h
        have hbs2 := fun he => before_succ (q := fun k => valB (c.order.getD k default) = true) g2 (i := j) he
        have hS : valB (c.order.getD j default) = decide ((c.order.getD j default).s.length ≤ 300) := rfl
        rw [hS] at hne2 hbs2
        repeat' first | simp (disch := omega) only [go_sem, hQr, hQn, hQp, wrapK_i64, wrapK_u8, wrapK_u64, Nat.reduceAdd, Nat.reduceBEq, ↓reduceIte, hc] | refine go_ ?_ | refine br_ (fun hw => ?_) (fun hw => ?_) <;> try omega | fail
        all_goals first
          | exact ab_
          | (refine leafE ?_ rfl; rw [← hE, hne (hne2 (decide_eq_false (by omega)))])
          | (refine ⟨j + 1, ?_, ?_, by first | rfl | (simp [go_sem]; done), ou_, at_⟩ <;> (try dsimp only)
             · exact ⟨by omega, hbs2 (decide_eq_true (by omega))⟩
             · omega)
      · repeat' first | simp (disch := omega) only [go_sem, hQr, hQn, hQp, wrapK_i64, wrapK_u8, wrapK_u64, Nat.reduceAdd, Nat.reduceBEq, ↓reduceIte, hc] | refine go_ ?_ | refine br_ (fun hw => ?_) (fun hw => ?_) <;> try omega | fail
        refine ⟨i + 1, ?_, ?_, by first | rfl | (simp [go_sem]; done), ou_, at_⟩ <;> (try dsimp only)
        · exact ⟨by omega, hbs (allN (fun k hk => g2 k (by omega)))⟩
        · omega
    · repeat' first | refine go_ ?_ | refine br_ (fun hw => ?_) (fun hw => ?_) <;> try omega | fail
      refine leafE ?_ rfl; rw [← hE, allN (fun k hk => h2 k (by omega))]
def rulB (r : Rule) : Bool := txS r.cells && txS r.outs
def smallT (t : Table) : Bool := decide (t.name.length ≤ 300) && decide (t.rules.length ≤ 26) && ordS t.ins && ordS t.outs && t.rules.all rulB
theorem law18_Small (t : Table) : CallF Tryz.prog n_law18_T_Small [eTable t] (.bool (smallT t)) := by
  have ci := law18_order t.ins
  have co := law18_order t.outs
  obtain ⟨E, hE⟩ : ∃ E, smallT t = E := ⟨_, rfl⟩
  rw [hE]
  unfold smallT at hE
  simp only [eTable, cTable, eCols, eRules] at ci co ⊢
  generalize ordS t.ins = oi at *
  generalize ordS t.outs = oo at *
  refine CallF.of_nil (of_law18_T_Small (by simp) ?_) (by simp)
  unfold b_law18_T_Small WpR
  intro Q hQr hQn hQp
  by_cases hb : (decide (t.name.length ≤ 300) && decide (t.rules.length ≤ 26) && oi && oo) = true
  case neg =>
    simp only [Bool.not_eq_true] at hb
    rw [hb, Bool.false_and] at hE
    cases oi <;> cases oo
    all_goals
      repeat' first | refine go_ ?_ | refine cf_ ci ?_ | refine cf_ co ?_ | refine br_ (fun hw => ?_) (fun hw => ?_) <;> try omega | fail
    all_goals first
      | exact ab_
      | (refine leafE ?_ rfl; rw [← hE])
      | (exfalso; simp at hb; omega)
  rw [hb, Bool.true_and] at hE
  simp only [Bool.and_eq_true, decide_eq_true_eq] at hb
  obtain ⟨⟨⟨b1, b2⟩, rfl⟩, rfl⟩ := hb
  repeat' first | refine go_ ?_ | refine cf_ ci ?_ | refine cf_ co ?_ | refine br_ (fun hw => ?_) (fun hw => ?_) <;> try omega | fail
  all_goals first | exact ab_ | skip
  with_reducible refine loop_i [2, 3, 26, 27, 28, 29, 30, 31, 32, 33, 34, 35, 36, 37, 38, 39, 40, 41, 42, 43, 44, 45, 46, 47, 48, 49, 50] (fun i : Nat => [(3, I i)]) (fun _ => [.cells [.str t.name, .lst false EC (t.ins.map eCol), .lst false EC (t.outs.map eCol), I t.policy, I t.agg, .lst false ER (t.rules.map eRule)]]) (fun i => i ≤ t.rules.length ∧ ∀ k, k < i → rulB (t.rules.getD k default) = true) (fun i => t.rules.length - i) (0) ?_ ?_ ?_ ?_
  · simp
  · rfl
  · exact at_
  rintro i r ⟨h1, h2⟩
  by_cases hi : i < t.rules.length
  · have hne := fun h => allF (p := rulB) hi h
    have hbs := fun he => before_succ (q := fun k => rulB (t.rules.getD k default) = true) h2 (i := i) he
    have hS : rulB (t.rules.getD i default) = (txS (t.rules.getD i default).cells && txS (t.rules.getD i default).outs) := rfl
    have c1 := law18_texts (t.rules.getD i default).cells
    have c2 := law18_texts (t.rules.getD i default).outs
    rw [hS] at hne hbs
    simp only [eStrs] at c1 c2
    generalize txS (t.rules.getD i default).cells = u1 at *
    generalize txS (t.rules.getD i default).outs = u2 at *
    cases u1 <;> cases u2
    all_goals
      repeat' first | refine go_ ?_ | refine cf_ c1 ?_ | refine cf_ c2 ?_ | refine br_ (fun hw => ?_) (fun hw => ?_) <;> try omega | fail
    all_goals first
      | exact ab_
      | (refine leafE ?_ rfl; rw [← hE, hne rfl])
      | (refine ⟨i + 1, ?_, ?_, by first | rfl | (simp [go_sem]; done), ou_, at_⟩ <;> (try dsimp only)
         · exact ⟨by omega, hbs rfl⟩
         · omega)
  · repeat' first | refine go_ ?_ | refine br_ (fun hw => ?_) (fun hw => ?_) <;> try omega | fail
    refine leafE ?_ rfl; rw [← hE, allN (fun k hk => h2 k (by omega))]
theorem law16_Few (l : List Val) : CallF Tryz.prog n_law16_Row_Few [eVals l] (.bool (decide (l.length ≤ 12) && l.all valB)) := by
  obtain ⟨E, hE⟩ : ∃ E, (decide (l.length ≤ 12) && l.all valB) = E := ⟨_, rfl⟩
  rw [hE]
  simp only [eVals]
  refine CallF.of_nil (of_law16_Row_Few (by simp) ?_) (by simp)
  unfold b_law16_Row_Few WpR
  intro Q hQr hQn hQp
  repeat' first | refine go_ ?_ | refine br_ (fun hw => ?_) (fun hw => ?_) <;> try omega | fail
  · exact leafE (by rw [← hE, decide_eq_false (by omega), Bool.false_and]) rfl
  have h12 : l.length ≤ 12 := by omega
  rw [decide_eq_true h12, Bool.true_and] at hE
  with_reducible refine loop_i [2, 3, 7, 8, 9, 10, 11, 12, 13, 14, 15, 16, 17, 18, 19] (fun q : Nat => [(3, I q)]) (fun _ => []) (fun q => q ≤ l.length ∧ ∀ k, k < q → valB (l.getD k default) = true) (fun q => l.length - q) (0) ?_ ?_ ?_ ?_
  · simp
  · rfl
  · exact at_
  rintro i r ⟨g1, g2⟩
  by_cases hi : i < l.length
  · have hne := fun h => allF (p := valB) hi h
    have hbs := fun he => before_succ (q := fun k => valB (l.getD k default) = true) g2 (i := i) he
    obtain ⟨v, hve⟩ : ∃ v, l.getD i default = v := ⟨_, rfl⟩
    rw [hve] at hne hbs
    have hS : valB v = decide (v.s.length ≤ 300) := rfl
    rw [hS] at hne hbs
    repeat' first | simp (disch := omega) only [go_sem, hQr, hQn, hQp, wrapK_i64, wrapK_u8, wrapK_u64, Nat.reduceAdd, Nat.reduceBEq, ↓reduceIte, hve] | refine go_ ?_ | refine br_ (fun hw => ?_) (fun hw => ?_) <;> try omega | fail
    all_goals first
      | exact ab_
      | (exact leafE (by rw [← hE, hne (decide_eq_false (by omega))]) rfl)
      | (refine ⟨i + 1, ?_, ?_, by first | rfl | (simp [go_sem]; done), ou_, at_⟩ <;> (try dsimp only)
         · exact ⟨by omega, hbs (decide_eq_true (by omega))⟩
         · omega)
  · repeat' first | refine go_ ?_ | refine br_ (fun hw => ?_) (fun hw => ?_) <;> try omega | fail
    exact leafE (by rw [← hE, allN (fun k hk => g2 k (by omega))]) rfl
end Go.Proofs.YtnpkjelldjnepaaGreatDoor
namespace Go.Proofs
open Go.Shelf
def Tryz.lays106_ren : Go.Shelf.Ren := ⟨fun | 106 => 362 | 213 => 378 | 265 => 385 | n => n, fun | 9 => 9 | 3 => 3 | n => n, fun | n => n⟩
theorem Tryz.lays106 : Go.Proofs.Lays.n106 Tryz.prog Tryz.lays106_ren := {
  mixed := by kernel_rfl
  f106 := Tryz.func362.trans (congrArg some (by kernel_rfl))
  f213 := Tryz.func378.trans (congrArg some (by kernel_rfl))
  f265 := Tryz.func385.trans (congrArg some (by kernel_rfl))
  t3 := Tryz.underlying3
  a3 := Tryz.isAgg3
  z3 := Tryz.sizeOf3
  v3 := Tryz.zeroValue3
  t9 := Tryz.underlying9
  a9 := Tryz.isAgg9
  z9 := Tryz.sizeOf9
  v9 := Tryz.zeroValue9 }
open Go.RowKit in
theorem Tryz.strings_Compare (a b : ByteArray) (w : World) :
    Calls Tryz.prog 362 #[.string a, .string b] w fun e w' => e = .returned (.int .i64 (Lib.compareBytes a.data.toList b.data.toList)) ∧ w' = w := Any.strings_Compare Tryz.lays106 a b w
def Tryz.lays105_ren : Go.Shelf.Ren := ⟨fun | 105 => 36 | 212 => 55 | 99 => 56 | 165 => 57 | 166 => 58 | 170 => 59 | 169 => 60 | 263 => 87 | 264 => 88 | 206 => 89 | 240 => 90 | 241 => 91 | 276 => 119 | 277 => 120 | n => n, fun | 9 => 9 | 3 => 3 | 4 => 4 | 20 => 20 | 0 => 0 | 46 => 144 | 109 => 145 | 5 => 5 | 72 => 151 | 76 => 155 | 51 => 187 | 146 => 188 | 53 => 180 | 148 => 190 | 70 => 148 | 37 => 149 | 75 => 154 | 127 => 192 | 164 => 222 | 80 => 158 | n => n, fun | n => n⟩
theorem Tryz.lays105 : Go.Proofs.Lays.n105 Tryz.prog Tryz.lays105_ren := {
  mixed := by kernel_rfl
  f99 := Tryz.func56.trans (congrArg some (by kernel_rfl))
  f105 := Tryz.func36.trans (congrArg some (by kernel_rfl))
  f165 := Tryz.func57.trans (congrArg some (by kernel_rfl))
  f166 := Tryz.func58.trans (congrArg some (by kernel_rfl))
  f169 := Tryz.func60.trans (congrArg some (by kernel_rfl))
  f170 := Tryz.func59.trans (congrArg some (by kernel_rfl))
  f206 := Tryz.func89.trans (congrArg some (by kernel_rfl))
  f212 := Tryz.func55.trans (congrArg some (by kernel_rfl))
  f240 := Tryz.func90.trans (congrArg some (by kernel_rfl))
  f241 := Tryz.func91.trans (congrArg some (by kernel_rfl))
  f263 := Tryz.func87.trans (congrArg some (by kernel_rfl))
  f264 := Tryz.func88.trans (congrArg some (by kernel_rfl))
  f276 := Tryz.func119.trans (congrArg some (by kernel_rfl))
  f277 := Tryz.func120.trans (congrArg some (by kernel_rfl))
  t0 := Tryz.underlying0
  a0 := Tryz.isAgg0
  z0 := Tryz.sizeOf0
  v0 := Tryz.zeroValue0
  t3 := Tryz.underlying3
  a3 := Tryz.isAgg3
  z3 := Tryz.sizeOf3
  v3 := Tryz.zeroValue3
  t4 := Tryz.underlying4
  a4 := Tryz.isAgg4
  z4 := Tryz.sizeOf4
  v4 := Tryz.zeroValue4
  t5 := Tryz.underlying5
  a5 := Tryz.isAgg5
  z5 := Tryz.sizeOf5
  v5 := Tryz.zeroValue5
  t9 := Tryz.underlying9
  a9 := Tryz.isAgg9
  z9 := Tryz.sizeOf9
  v9 := Tryz.zeroValue9
  t20 := Tryz.underlying20
  a20 := Tryz.isAgg20
  z20 := Tryz.sizeOf20
  v20 := Tryz.zeroValue20
  t37 := Tryz.underlying149
  a37 := Tryz.isAgg149
  z37 := Tryz.sizeOf149
  v37 := Tryz.zeroValue149
  t46 := Tryz.underlying144
  a46 := Tryz.isAgg144
  z46 := Tryz.sizeOf144
  v46 := Tryz.zeroValue144
  t51 := Tryz.underlying187
  a51 := Tryz.isAgg187
  z51 := Tryz.sizeOf187
  v51 := Tryz.zeroValue187
  t53 := Tryz.underlying180
  a53 := Tryz.isAgg180
  z53 := Tryz.sizeOf180
  v53 := Tryz.zeroValue180
  t70 := Tryz.underlying148
  a70 := Tryz.isAgg148
  z70 := Tryz.sizeOf148
  v70 := Tryz.zeroValue148
  t72 := Tryz.underlying151
  a72 := Tryz.isAgg151
  z72 := Tryz.sizeOf151
  v72 := Tryz.zeroValue151
  t75 := Tryz.underlying154
  a75 := Tryz.isAgg154
  z75 := Tryz.sizeOf154
  v75 := Tryz.zeroValue154
  t76 := Tryz.underlying155
  a76 := Tryz.isAgg155
  z76 := Tryz.sizeOf155
  v76 := Tryz.zeroValue155
  t109 := Tryz.underlying145
  a109 := Tryz.isAgg145
  z109 := Tryz.sizeOf145
  v109 := Tryz.zeroValue145
  t127 := Tryz.underlying192
  a127 := Tryz.isAgg192
  z127 := Tryz.sizeOf192
  v127 := Tryz.zeroValue192
  t146 := Tryz.underlying188
  a146 := Tryz.isAgg188
  z146 := Tryz.sizeOf188
  v146 := Tryz.zeroValue188
  t148 := Tryz.underlying190
  a148 := Tryz.isAgg190
  z148 := Tryz.sizeOf190
  v148 := Tryz.zeroValue190
  t164 := Tryz.underlying222
  a164 := Tryz.isAgg222
  z164 := Tryz.sizeOf222
  v164 := Tryz.zeroValue222 }
theorem Tryz.Builder_Extra_105 : Builder.Extra Tryz.prog Tryz.lays105_ren := {
  sizeBuilder := by kernel_rfl
  liesBuilder := by kernel_rfl
  t5 := Tryz.underlying5
  a5 := Tryz.isAgg5
  z5 := Tryz.sizeOf5
  v5 := Tryz.zeroValue5
  infoByte := by kernel_rfl
  cellsByte := by kernel_rfl
  sizeByte := by kernel_rfl
  neB5 := by decide }
open Go.RowKit Go.Lib in
theorem Tryz.strings_Repeat (s : ByteArray) (c : Nat) (w : World) (hc : c ≤ 9223372036854775807) (hlen : s.size * c ≤ 140737488355328) :
    Calls Tryz.prog 36 #[.string s, .int .i64 c] w fun e w' => e = .returned (.string ⟨(Lib.repeatL s.data.toList c).toArray⟩) ∧ Below w.heap.size w w' := Any.strings_Repeat Tryz.lays105 Tryz.Builder_Extra_105 s c w hc hlen
end Go.Proofs
