/- Part of a proof: see Root. -/
import Derived.Test.YtigjkomalhjhdaaGreatDoorW14
import Derived.KernelRfl
import Derived.Shelf.Strings.OnBuilder
import Derived.Shelf.Strings.Repeat
import Derived.Shelf.Small.Strs
import Derived.Shelf.Small.Wraps
import Derived.Shelf.LaysM
import Derived.Shelf.Strconv.Itoa3
import Derived.Test.YtigjkomalhjhdaaGreatDoorProg
set_option linter.unnecessarySimpa false
set_option linter.unusedSimpArgs false
set_option linter.unusedVariables false
namespace Go.Proofs.YtigjkomalhjhdaaGreatDoor
open Go.AM
set_option maxRecDepth 10000
def h_law25_ModelNil : Hints := ⟨[], [], [], [], [], []⟩
def b_law25_ModelNil : ACode := .seq (.region [⟨.box (.t 0), (some 2), none⟩, ⟨.mv (.c (.bool false)), (some 4), none⟩]) <|
  .seq (.seq (.region [⟨.load true 12 (.t 2), (some 22), none⟩, ⟨.bslice false ⟨true, 12⟩ (.agg [(.int .i64 0), (.str []), .nils, .nils, (.int .i64 0), (.int .i64 0), .nils, (.str []), (.int .i64 0), .nils, (.int .i64 0), (.int .i64 0)]) 1 [(0, (.t 22))], (some 23), none⟩, ⟨.call false (.c (.fn (.func n_law25_Acts_Few) [] [])) [(.t 23)], (some 24), none⟩, ⟨.un .not (.t 24), (some 25), none⟩]) <|
  .cond (.t 25) (.seq (.region [⟨.call false (.c (.fn (.func n_law25_lives) [] [])) [], (some 26), none⟩, ⟨.mv (.t 26), (some 4), none⟩]) <|
  .ret) (.skip)) <|
  .seq (.region [⟨.mv (.c .nilp), (some 5), none⟩]) <|
  .seq (.seq (.region [⟨.mv (.t 1), (some 27), none⟩]) <|
  .cond (.t 27) (.region [⟨.build [.nilm, (.int .i64 0), (.int .i64 0), (.str []), (.str []), .nils] [], (some 28), none⟩, ⟨.box (.t 28), (some 29), none⟩, ⟨.mv (.t 29), (some 5), none⟩]) (.skip)) <|
  .seq (.region [⟨.mv (.t 5), (some 31), none⟩, ⟨.faddr 1 (.t 2), (some 32), none⟩, ⟨.load true 6 (.t 32), (some 33), none⟩, ⟨.call false (.c (.fn (.func n_model_Model_Publish) [] [])) [(.t 31), (.t 33)], (some 34), none⟩, ⟨.mv (.t 34), (some 30), none⟩, ⟨.ext (.t 30) 0, (some 35), none⟩, ⟨.ext (.t 30) 1, (some 36), none⟩, ⟨.mv (.t 35), (some 6), none⟩, ⟨.mv (.t 36), (some 7), none⟩]) <|
  .seq (.region [⟨.mv (.t 5), (some 38), none⟩, ⟨.faddr 7 (.t 2), (some 39), none⟩, ⟨.load false 1 (.t 39), (some 40), none⟩, ⟨.faddr 8 (.t 2), (some 41), none⟩, ⟨.load false 1 (.t 41), (some 42), none⟩, ⟨.call false (.c (.fn (.func n_model_Model_Version) [] [])) [(.t 38), (.t 40), (.t 42)], (some 43), none⟩, ⟨.mv (.t 43), (some 37), none⟩, ⟨.ext (.t 37) 0, (some 44), none⟩, ⟨.ext (.t 37) 1, (some 45), none⟩, ⟨.ext (.t 37) 2, (some 46), none⟩, ⟨.alloc none [(.str []), .nils, .nils, (.int .i64 0), (.int .i64 0), .nils], (some 8), none⟩, ⟨.store 6 (.t 8) (.t 44), none, none⟩, ⟨.mv (.t 45), (some 9), none⟩, ⟨.mv (.t 46), (some 10), none⟩]) <|
  .seq (.region [⟨.mv (.t 5), (some 48), none⟩, ⟨.call false (.c (.fn (.func n_model_Model_List) [] [])) [(.t 48)], (some 49), none⟩, ⟨.mv (.t 49), (some 47), none⟩, ⟨.ext (.t 47) 0, (some 50), none⟩, ⟨.ext (.t 47) 1, (some 51), none⟩, ⟨.mv (.t 50), (some 11), none⟩, ⟨.mv (.t 51), (some 12), none⟩]) <|
  .seq (.region [⟨.mv (.t 5), (some 53), none⟩, ⟨.faddr 7 (.t 2), (some 54), none⟩, ⟨.load false 1 (.t 54), (some 55), none⟩, ⟨.faddr 8 (.t 2), (some 56), none⟩, ⟨.load false 1 (.t 56), (some 57), none⟩, ⟨.faddr 9 (.t 2), (some 58), none⟩, ⟨.load false 1 (.t 58), (some 59), none⟩, ⟨.call false (.c (.fn (.func n_model_Model_Decide) [] [])) [(.t 53), (.t 55), (.t 57), (.t 59)], (some 60), none⟩, ⟨.mv (.t 60), (some 52), none⟩, ⟨.ext (.t 52) 0, (some 61), none⟩, ⟨.ext (.t 52) 1, (some 62), none⟩, ⟨.ext (.t 52) 2, (some 63), none⟩, ⟨.alloc none [(.str []), (.int .i64 0), .nils, (.int .i64 0), .nils, .nils], (some 13), none⟩, ⟨.store 6 (.t 13) (.t 61), none, none⟩, ⟨.mv (.t 62), (some 14), none⟩, ⟨.mv (.t 63), (some 15), none⟩]) <|
  .seq (.region [⟨.mv (.t 5), (some 65), none⟩, ⟨.faddr 10 (.t 2), (some 66), none⟩, ⟨.load false 1 (.t 66), (some 67), none⟩, ⟨.faddr 11 (.t 2), (some 68), none⟩, ⟨.load false 1 (.t 68), (some 69), none⟩, ⟨.call false (.c (.fn (.func n_model_Model_Log) [] [])) [(.t 65), (.t 67), (.t 69)], (some 70), none⟩, ⟨.mv (.t 70), (some 64), none⟩, ⟨.ext (.t 64) 0, (some 71), none⟩, ⟨.ext (.t 64) 1, (some 72), none⟩, ⟨.mv (.t 71), (some 16), none⟩, ⟨.mv (.t 72), (some 17), none⟩]) <|
  .seq (.region [⟨.mv (.t 5), (some 74), none⟩, ⟨.call false (.c (.fn (.func n_model_Model_Mark) [] [])) [(.t 74)], (some 75), none⟩, ⟨.mv (.t 75), (some 73), none⟩, ⟨.ext (.t 73) 0, (some 76), none⟩, ⟨.ext (.t 73) 1, (some 77), none⟩, ⟨.alloc none [(.int .i64 0), (.int .i64 0), (.str []), (.str [])], (some 18), none⟩, ⟨.store 4 (.t 18) (.t 76), none, none⟩, ⟨.mv (.t 77), (some 19), none⟩]) <|
  .seq (.region [⟨.mv (.t 5), (some 79), none⟩, ⟨.call false (.c (.fn (.func n_model_Model_Audit) [] [])) [(.t 79)], (some 80), none⟩, ⟨.mv (.t 80), (some 78), none⟩, ⟨.ext (.t 78) 0, (some 81), none⟩, ⟨.ext (.t 78) 1, (some 82), none⟩, ⟨.mv (.t 81), (some 20), none⟩, ⟨.mv (.t 82), (some 21), none⟩]) <|
  .seq (.region [⟨.mv (.t 6), (some 83), none⟩, ⟨.bin .eql (.t 83) (.c (.int .i64 0)), (some 84), none⟩, ⟨.mv (.t 84), (some 85), none⟩, ⟨.mv (.t 7), (some 86), some (85, true)⟩, ⟨.bin .eql (.t 86) (.c (.int .i64 1)), (some 87), some (85, true)⟩, ⟨.pick (.t 85) (.t 87) (.c (.bool false)), (some 88), none⟩, ⟨.mv (.t 88), (some 89), none⟩, ⟨.mv (.t 9), (some 90), some (89, true)⟩, ⟨.bin .eql (.t 90) (.c (.int .i64 0)), (some 91), some (89, true)⟩, ⟨.pick (.t 89) (.t 91) (.c (.bool false)), (some 92), none⟩, ⟨.mv (.t 92), (some 93), none⟩, ⟨.mv (.t 10), (some 94), some (93, true)⟩, ⟨.bin .eql (.t 94) (.c (.int .i64 1)), (some 95), some (93, true)⟩, ⟨.pick (.t 93) (.t 95) (.c (.bool false)), (some 96), none⟩, ⟨.mv (.t 96), (some 97), none⟩, ⟨.mv (.t 11), (some 98), some (97, true)⟩, ⟨.len false (.t 98), (some 99), some (97, true)⟩, ⟨.bin .eql (.t 99) (.c (.int .i64 0)), (some 100), some (97, true)⟩, ⟨.pick (.t 97) (.t 100) (.c (.bool false)), (some 101), none⟩, ⟨.mv (.t 101), (some 102), none⟩, ⟨.mv (.t 12), (some 103), some (102, true)⟩, ⟨.bin .eql (.t 103) (.c (.int .i64 1)), (some 104), some (102, true)⟩, ⟨.pick (.t 102) (.t 104) (.c (.bool false)), (some 105), none⟩, ⟨.mv (.t 105), (some 106), none⟩, ⟨.mv (.t 14), (some 107), some (106, true)⟩, ⟨.bin .eql (.t 107) (.c (.int .i64 0)), (some 108), some (106, true)⟩, ⟨.pick (.t 106) (.t 108) (.c (.bool false)), (some 109), none⟩, ⟨.mv (.t 109), (some 110), none⟩, ⟨.mv (.t 15), (some 111), some (110, true)⟩, ⟨.bin .eql (.t 111) (.c (.int .i64 1)), (some 112), some (110, true)⟩, ⟨.pick (.t 110) (.t 112) (.c (.bool false)), (some 113), none⟩, ⟨.mv (.t 113), (some 114), none⟩, ⟨.mv (.t 16), (some 115), some (114, true)⟩, ⟨.len false (.t 115), (some 116), some (114, true)⟩, ⟨.bin .eql (.t 116) (.c (.int .i64 0)), (some 117), some (114, true)⟩, ⟨.pick (.t 114) (.t 117) (.c (.bool false)), (some 118), none⟩, ⟨.mv (.t 118), (some 119), none⟩, ⟨.mv (.t 17), (some 120), some (119, true)⟩, ⟨.bin .eql (.t 120) (.c (.int .i64 1)), (some 121), some (119, true)⟩, ⟨.pick (.t 119) (.t 121) (.c (.bool false)), (some 122), none⟩, ⟨.mv (.t 122), (some 123), none⟩, ⟨.load true 4 (.t 18), (some 124), some (123, true)⟩, ⟨.build [(.int .i64 0), (.int .i64 0), (.str []), (.str [])] [], (some 125), some (123, true)⟩, ⟨.eqf false true [.i, .i, .s, .s] (.t 124) (.t 125), (some 126), some (123, true)⟩, ⟨.pick (.t 123) (.t 126) (.c (.bool false)), (some 127), none⟩, ⟨.mv (.t 127), (some 128), none⟩, ⟨.mv (.t 19), (some 129), some (128, true)⟩, ⟨.bin .eql (.t 129) (.c (.int .i64 1)), (some 130), some (128, true)⟩, ⟨.pick (.t 128) (.t 130) (.c (.bool false)), (some 131), none⟩, ⟨.mv (.t 131), (some 132), none⟩, ⟨.mv (.t 5), (some 133), some (132, true)⟩, ⟨.faddr 10 (.t 2), (some 134), some (132, true)⟩, ⟨.load false 1 (.t 134), (some 135), some (132, true)⟩, ⟨.call false (.c (.fn (.func n_model_Model_Compact) [] [])) [(.t 133), (.t 135)], (some 136), some (132, true)⟩, ⟨.bin .eql (.t 136) (.c (.int .i64 1)), (some 137), some (132, true)⟩, ⟨.pick (.t 132) (.t 137) (.c (.bool false)), (some 138), none⟩, ⟨.mv (.t 138), (some 139), none⟩, ⟨.mv (.t 5), (some 140), some (139, true)⟩, ⟨.call false (.c (.fn (.func n_model_Model_Sync) [] [])) [(.t 140)], (some 141), some (139, true)⟩, ⟨.bin .eql (.t 141) (.c (.int .i64 1)), (some 142), some (139, true)⟩, ⟨.pick (.t 139) (.t 142) (.c (.bool false)), (some 143), none⟩, ⟨.mv (.t 143), (some 144), none⟩, ⟨.mv (.t 20), (some 145), some (144, true)⟩, ⟨.bin .eql (.t 145) (.c (.int .i64 0)), (some 146), some (144, true)⟩, ⟨.pick (.t 144) (.t 146) (.c (.bool false)), (some 147), none⟩, ⟨.mv (.t 147), (some 148), none⟩, ⟨.mv (.t 21), (some 149), some (148, true)⟩, ⟨.bin .eql (.t 149) (.c (.int .i64 1)), (some 150), some (148, true)⟩, ⟨.pick (.t 148) (.t 150) (.c (.bool false)), (some 151), none⟩, ⟨.mv (.t 151), (some 152), none⟩, ⟨.mv (.t 5), (some 153), some (152, true)⟩, ⟨.call false (.c (.fn (.func n_model_Model_Copy) [] [])) [(.t 153)], (some 154), some (152, true)⟩, ⟨.eqnil false .p (.t 154) (.c .nilp), (some 155), some (152, true)⟩, ⟨.pick (.t 152) (.t 155) (.c (.bool false)), (some 156), none⟩, ⟨.mv (.t 156), (some 157), none⟩, ⟨.call false (.c (.fn (.func n_law25_lives) [] [])) [], (some 158), some (157, true)⟩, ⟨.pick (.t 157) (.t 158) (.c (.bool false)), (some 159), none⟩, ⟨.mv (.t 159), (some 4), none⟩]) <|
  .ret
def a_law25_ModelNil : AFunc := ⟨160, [.tmp 4], b_law25_ModelNil⟩
theorem a_law25_ModelNil_ok : compileF Tryz.prog h_law25_ModelNil Tryz.f7 = some a_law25_ModelNil := by kernel_rfl
theorem of_law25_ModelNil {args : List AV} {σ : Store} {R : Out → Store → Prop} (hl : args.length ≤ 160) (h : WpR Tryz.prog b_law25_ModelNil [.tmp 4] args σ R) : CallA Tryz.prog n_law25_ModelNil args σ R := CallA.of_wp Tryz.func7 (by kernel_rfl) a_law25_ModelNil_ok hl h.go
def h_law25_Acts_Few : Hints := ⟨[], [], [], [], [], []⟩
def b_law25_Acts_Few : ACode := .seq (.region [⟨.mv (.c (.bool false)), (some 2), none⟩]) <|
  .seq (.seq (.region [⟨.mv (.t 0), (some 4), none⟩, ⟨.len false (.t 4), (some 5), none⟩, ⟨.bin .gtr (.t 5) (.c (.int .i64 30)), (some 6), none⟩]) <|
  .cond (.t 6) (.seq (.region [⟨.mv (.c (.bool false)), (some 2), none⟩]) <|
  .ret) (.skip)) <|
  .seq (.seq (.region [⟨.mv (.c (.int .i64 0)), (some 3), none⟩]) <|
  .block 0 (.loop (.seq (.seq (.region [⟨.mv (.t 3), (some 7), none⟩, ⟨.mv (.t 0), (some 8), none⟩, ⟨.len false (.t 8), (some 9), none⟩, ⟨.bin .lss (.t 7) (.t 9), (some 10), none⟩]) <|
  .cond (.t 10) (.skip) (.exit 0)) <|
  .seq (.block 1 (.seq (.region [⟨.mv (.t 0), (some 13), none⟩, ⟨.mv (.t 3), (some 14), none⟩, ⟨.iaddr ⟨true, 12⟩ none (.t 13) (.t 14), (some 15), none⟩, ⟨.faddr 1 (.t 15), (some 16), none⟩, ⟨.load true 6 (.t 16), (some 17), none⟩, ⟨.call false (.c (.fn (.func n_law18_T_Small) [] [])) [(.t 17)], (some 18), none⟩, ⟨.un .not (.t 18), (some 19), none⟩, ⟨.mv (.t 19), (some 20), none⟩, ⟨.mv (.t 0), (some 21), some (20, false)⟩, ⟨.mv (.t 3), (some 22), some (20, false)⟩, ⟨.iaddr ⟨true, 12⟩ none (.t 21) (.t 22), (some 23), some (20, false)⟩, ⟨.faddr 7 (.t 23), (some 24), some (20, false)⟩, ⟨.load false 1 (.t 24), (some 25), some (20, false)⟩, ⟨.len true (.t 25), (some 26), some (20, false)⟩, ⟨.bin .gtr (.t 26) (.c (.int .i64 300)), (some 27), some (20, false)⟩, ⟨.pick (.t 20) (.c (.bool true)) (.t 27), (some 28), none⟩, ⟨.mv (.t 28), (some 29), none⟩, ⟨.mv (.t 0), (some 30), some (29, false)⟩, ⟨.mv (.t 3), (some 31), some (29, false)⟩, ⟨.iaddr ⟨true, 12⟩ none (.t 30) (.t 31), (some 32), some (29, false)⟩, ⟨.faddr 9 (.t 32), (some 33), some (29, false)⟩, ⟨.load false 1 (.t 33), (some 34), some (29, false)⟩, ⟨.call false (.c (.fn (.func n_law16_Row_Few) [] [])) [(.t 34)], (some 35), some (29, false)⟩, ⟨.un .not (.t 35), (some 36), some (29, false)⟩, ⟨.pick (.t 29) (.c (.bool true)) (.t 36), (some 37), none⟩]) <|
  .cond (.t 37) (.seq (.region [⟨.mv (.c (.bool false)), (some 2), none⟩]) <|
  .ret) (.skip))) <|
  .region [⟨.mv (.t 3), (some 11), none⟩, ⟨.bin .add (.t 11) (.c (.int .i64 1)), (some 12), none⟩, ⟨.mv (.t 12), (some 3), none⟩]))) <|
  .seq (.region [⟨.mv (.c (.bool true)), (some 2), none⟩]) <|
  .ret
def a_law25_Acts_Few : AFunc := ⟨38, [.tmp 2], b_law25_Acts_Few⟩
theorem a_law25_Acts_Few_ok : compileF Tryz.prog h_law25_Acts_Few Tryz.f8 = some a_law25_Acts_Few := by kernel_rfl
theorem of_law25_Acts_Few {args : List AV} {σ : Store} {R : Out → Store → Prop} (hl : args.length ≤ 38) (h : WpR Tryz.prog b_law25_Acts_Few [.tmp 2] args σ R) : CallA Tryz.prog n_law25_Acts_Few args σ R := CallA.of_wp Tryz.func8 (by kernel_rfl) a_law25_Acts_Few_ok hl h.go
def h_law18_T_Small : Hints := ⟨[], [], [], [], [], []⟩
def b_law18_T_Small : ACode := .seq (.region [⟨.box (.t 0), (some 1), none⟩, ⟨.mv (.c (.bool false)), (some 2), none⟩]) <|
  .seq (.seq (.region [⟨.faddr 0 (.t 1), (some 4), none⟩, ⟨.load false 1 (.t 4), (some 5), none⟩, ⟨.len true (.t 5), (some 6), none⟩, ⟨.bin .gtr (.t 6) (.c (.int .i64 300)), (some 7), none⟩, ⟨.mv (.t 7), (some 8), none⟩, ⟨.faddr 5 (.t 1), (some 9), some (8, false)⟩, ⟨.load false 1 (.t 9), (some 10), some (8, false)⟩, ⟨.len false (.t 10), (some 11), some (8, false)⟩, ⟨.bin .gtr (.t 11) (.c (.int .i64 26)), (some 12), some (8, false)⟩, ⟨.pick (.t 8) (.c (.bool true)) (.t 12), (some 13), none⟩, ⟨.mv (.t 13), (some 14), none⟩, ⟨.faddr 1 (.t 1), (some 15), some (14, false)⟩, ⟨.load false 1 (.t 15), (some 16), some (14, false)⟩, ⟨.call false (.c (.fn (.func n_law18_order) [] [])) [(.t 16)], (some 17), some (14, false)⟩, ⟨.un .not (.t 17), (some 18), some (14, false)⟩, ⟨.pick (.t 14) (.c (.bool true)) (.t 18), (some 19), none⟩, ⟨.mv (.t 19), (some 20), none⟩, ⟨.faddr 2 (.t 1), (some 21), some (20, false)⟩, ⟨.load false 1 (.t 21), (some 22), some (20, false)⟩, ⟨.call false (.c (.fn (.func n_law18_order) [] [])) [(.t 22)], (some 23), some (20, false)⟩, ⟨.un .not (.t 23), (some 24), some (20, false)⟩, ⟨.pick (.t 20) (.c (.bool true)) (.t 24), (some 25), none⟩]) <|
  .cond (.t 25) (.seq (.region [⟨.mv (.c (.bool false)), (some 2), none⟩]) <|
  .ret) (.skip)) <|
  .seq (.seq (.region [⟨.mv (.c (.int .i64 0)), (some 3), none⟩]) <|
  .block 0 (.loop (.seq (.seq (.region [⟨.mv (.t 3), (some 26), none⟩, ⟨.faddr 5 (.t 1), (some 27), none⟩, ⟨.load false 1 (.t 27), (some 28), none⟩, ⟨.len false (.t 28), (some 29), none⟩, ⟨.bin .lss (.t 26) (.t 29), (some 30), none⟩]) <|
  .cond (.t 30) (.skip) (.exit 0)) <|
  .seq (.block 1 (.seq (.region [⟨.faddr 5 (.t 1), (some 33), none⟩, ⟨.load false 1 (.t 33), (some 34), none⟩, ⟨.mv (.t 3), (some 35), none⟩, ⟨.iaddr ⟨true, 2⟩ none (.t 34) (.t 35), (some 36), none⟩, ⟨.faddr 0 (.t 36), (some 37), none⟩, ⟨.load false 1 (.t 37), (some 38), none⟩, ⟨.call false (.c (.fn (.func n_law18_texts) [] [])) [(.t 38)], (some 39), none⟩, ⟨.un .not (.t 39), (some 40), none⟩, ⟨.mv (.t 40), (some 41), none⟩, ⟨.faddr 5 (.t 1), (some 42), some (41, false)⟩, ⟨.load false 1 (.t 42), (some 43), some (41, false)⟩, ⟨.mv (.t 3), (some 44), some (41, false)⟩, ⟨.iaddr ⟨true, 2⟩ none (.t 43) (.t 44), (some 45), some (41, false)⟩, ⟨.faddr 1 (.t 45), (some 46), some (41, false)⟩, ⟨.load false 1 (.t 46), (some 47), some (41, false)⟩, ⟨.call false (.c (.fn (.func n_law18_texts) [] [])) [(.t 47)], (some 48), some (41, false)⟩, ⟨.un .not (.t 48), (some 49), some (41, false)⟩, ⟨.pick (.t 41) (.c (.bool true)) (.t 49), (some 50), none⟩]) <|
  .cond (.t 50) (.seq (.region [⟨.mv (.c (.bool false)), (some 2), none⟩]) <|
  .ret) (.skip))) <|
  .region [⟨.mv (.t 3), (some 31), none⟩, ⟨.bin .add (.t 31) (.c (.int .i64 1)), (some 32), none⟩, ⟨.mv (.t 32), (some 3), none⟩]))) <|
  .seq (.region [⟨.mv (.c (.bool true)), (some 2), none⟩]) <|
  .ret
def a_law18_T_Small : AFunc := ⟨51, [.tmp 2], b_law18_T_Small⟩
theorem a_law18_T_Small_ok : compileF Tryz.prog h_law18_T_Small Tryz.f33 = some a_law18_T_Small := by kernel_rfl
theorem of_law18_T_Small {args : List AV} {σ : Store} {R : Out → Store → Prop} (hl : args.length ≤ 51) (h : WpR Tryz.prog b_law18_T_Small [.tmp 2] args σ R) : CallA Tryz.prog n_law18_T_Small args σ R := CallA.of_wp Tryz.func33 (by kernel_rfl) a_law18_T_Small_ok hl h.go
def h_law16_Row_Few : Hints := ⟨[], [], [], [], [], []⟩
def b_law16_Row_Few : ACode := .seq (.region [⟨.mv (.c (.bool false)), (some 2), none⟩]) <|
  .seq (.seq (.region [⟨.mv (.t 0), (some 4), none⟩, ⟨.len false (.t 4), (some 5), none⟩, ⟨.bin .gtr (.t 5) (.c (.int .i64 12)), (some 6), none⟩]) <|
  .cond (.t 6) (.seq (.region [⟨.mv (.c (.bool false)), (some 2), none⟩]) <|
  .ret) (.skip)) <|
  .seq (.seq (.region [⟨.mv (.c (.int .i64 0)), (some 3), none⟩]) <|
  .block 0 (.loop (.seq (.seq (.region [⟨.mv (.t 3), (some 7), none⟩, ⟨.mv (.t 0), (some 8), none⟩, ⟨.len false (.t 8), (some 9), none⟩, ⟨.bin .lss (.t 7) (.t 9), (some 10), none⟩]) <|
  .cond (.t 10) (.skip) (.exit 0)) <|
  .seq (.block 1 (.seq (.region [⟨.mv (.t 0), (some 13), none⟩, ⟨.mv (.t 3), (some 14), none⟩, ⟨.iaddr ⟨true, 3⟩ none (.t 13) (.t 14), (some 15), none⟩, ⟨.faddr 2 (.t 15), (some 16), none⟩, ⟨.load false 1 (.t 16), (some 17), none⟩, ⟨.len true (.t 17), (some 18), none⟩, ⟨.bin .gtr (.t 18) (.c (.int .i64 300)), (some 19), none⟩]) <|
  .cond (.t 19) (.seq (.region [⟨.mv (.c (.bool false)), (some 2), none⟩]) <|
  .ret) (.skip))) <|
  .region [⟨.mv (.t 3), (some 11), none⟩, ⟨.bin .add (.t 11) (.c (.int .i64 1)), (some 12), none⟩, ⟨.mv (.t 12), (some 3), none⟩]))) <|
  .seq (.region [⟨.mv (.c (.bool true)), (some 2), none⟩]) <|
  .ret
def a_law16_Row_Few : AFunc := ⟨20, [.tmp 2], b_law16_Row_Few⟩
theorem a_law16_Row_Few_ok : compileF Tryz.prog h_law16_Row_Few Tryz.f34 = some a_law16_Row_Few := by kernel_rfl
theorem of_law16_Row_Few {args : List AV} {σ : Store} {R : Out → Store → Prop} (hl : args.length ≤ 20) (h : WpR Tryz.prog b_law16_Row_Few [.tmp 2] args σ R) : CallA Tryz.prog n_law16_Row_Few args σ R := CallA.of_wp Tryz.func34 (by kernel_rfl) a_law16_Row_Few_ok hl h.go
def h_law18_order : Hints := ⟨[], [], [], [], [], []⟩
def b_law18_order : ACode := .seq (.region [⟨.mv (.c (.bool false)), (some 2), none⟩]) <|
  .seq (.seq (.region [⟨.mv (.t 0), (some 5), none⟩, ⟨.call false (.c (.fn (.func n_law15_Cols_Few) [] [])) [(.t 5)], (some 6), none⟩, ⟨.un .not (.t 6), (some 7), none⟩]) <|
  .cond (.t 7) (.seq (.region [⟨.mv (.c (.bool false)), (some 2), none⟩]) <|
  .ret) (.skip)) <|
  .seq (.seq (.region [⟨.mv (.c (.int .i64 0)), (some 3), none⟩]) <|
  .block 0 (.loop (.seq (.seq (.region [⟨.mv (.t 3), (some 8), none⟩, ⟨.mv (.t 0), (some 9), none⟩, ⟨.len false (.t 9), (some 10), none⟩, ⟨.bin .lss (.t 8) (.t 10), (some 11), none⟩]) <|
  .cond (.t 11) (.skip) (.exit 0)) <|
  .seq (.block 1 (.seq (.seq (.region [⟨.mv (.t 0), (some 14), none⟩, ⟨.mv (.t 3), (some 15), none⟩, ⟨.iaddr ⟨true, 3⟩ none (.t 14) (.t 15), (some 16), none⟩, ⟨.faddr 2 (.t 16), (some 17), none⟩, ⟨.load false 1 (.t 17), (some 18), none⟩, ⟨.len false (.t 18), (some 19), none⟩, ⟨.bin .gtr (.t 19) (.c (.int .i64 12)), (some 20), none⟩]) <|
  .cond (.t 20) (.seq (.region [⟨.mv (.c (.bool false)), (some 2), none⟩]) <|
  .ret) (.skip)) <|
  .seq (.region [⟨.mv (.c (.int .i64 0)), (some 4), none⟩]) <|
  .block 2 (.loop (.seq (.seq (.region [⟨.mv (.t 4), (some 21), none⟩, ⟨.mv (.t 0), (some 22), none⟩, ⟨.mv (.t 3), (some 23), none⟩, ⟨.iaddr ⟨true, 3⟩ none (.t 22) (.t 23), (some 24), none⟩, ⟨.faddr 2 (.t 24), (some 25), none⟩, ⟨.load false 1 (.t 25), (some 26), none⟩, ⟨.len false (.t 26), (some 27), none⟩, ⟨.bin .lss (.t 21) (.t 27), (some 28), none⟩]) <|
  .cond (.t 28) (.skip) (.exit 2)) <|
  .seq (.block 3 (.seq (.region [⟨.mv (.t 0), (some 31), none⟩, ⟨.mv (.t 3), (some 32), none⟩, ⟨.iaddr ⟨true, 3⟩ none (.t 31) (.t 32), (some 33), none⟩, ⟨.faddr 2 (.t 33), (some 34), none⟩, ⟨.load false 1 (.t 34), (some 35), none⟩, ⟨.mv (.t 4), (some 36), none⟩, ⟨.iaddr ⟨true, 3⟩ none (.t 35) (.t 36), (some 37), none⟩, ⟨.faddr 2 (.t 37), (some 38), none⟩, ⟨.load false 1 (.t 38), (some 39), none⟩, ⟨.len true (.t 39), (some 40), none⟩, ⟨.bin .gtr (.t 40) (.c (.int .i64 300)), (some 41), none⟩]) <|
  .cond (.t 41) (.seq (.region [⟨.mv (.c (.bool false)), (some 2), none⟩]) <|
  .ret) (.skip))) <|
  .region [⟨.mv (.t 4), (some 29), none⟩, ⟨.bin .add (.t 29) (.c (.int .i64 1)), (some 30), none⟩, ⟨.mv (.t 30), (some 4), none⟩])))) <|
  .region [⟨.mv (.t 3), (some 12), none⟩, ⟨.bin .add (.t 12) (.c (.int .i64 1)), (some 13), none⟩, ⟨.mv (.t 13), (some 3), none⟩]))) <|
  .seq (.region [⟨.mv (.c (.bool true)), (some 2), none⟩]) <|
  .ret
def a_law18_order : AFunc := ⟨42, [.tmp 2], b_law18_order⟩
theorem a_law18_order_ok : compileF Tryz.prog h_law18_order Tryz.f66 = some a_law18_order := by kernel_rfl
theorem of_law18_order {args : List AV} {σ : Store} {R : Out → Store → Prop} (hl : args.length ≤ 42) (h : WpR Tryz.prog b_law18_order [.tmp 2] args σ R) : CallA Tryz.prog n_law18_order args σ R := CallA.of_wp Tryz.func66 (by kernel_rfl) a_law18_order_ok hl h.go
def h_law18_texts : Hints := ⟨[], [], [], [], [], []⟩
def b_law18_texts : ACode := .seq (.region [⟨.mv (.c (.bool false)), (some 2), none⟩]) <|
  .seq (.seq (.region [⟨.mv (.t 0), (some 4), none⟩, ⟨.len false (.t 4), (some 5), none⟩, ⟨.bin .gtr (.t 5) (.c (.int .i64 10)), (some 6), none⟩]) <|
  .cond (.t 6) (.seq (.region [⟨.mv (.c (.bool false)), (some 2), none⟩]) <|
  .ret) (.skip)) <|
  .seq (.seq (.region [⟨.mv (.c (.int .i64 0)), (some 3), none⟩]) <|
  .block 0 (.loop (.seq (.seq (.region [⟨.mv (.t 3), (some 7), none⟩, ⟨.mv (.t 0), (some 8), none⟩, ⟨.len false (.t 8), (some 9), none⟩, ⟨.bin .lss (.t 7) (.t 9), (some 10), none⟩]) <|
  .cond (.t 10) (.skip) (.exit 0)) <|
  .seq (.block 1 (.seq (.region [⟨.mv (.t 0), (some 13), none⟩, ⟨.mv (.t 3), (some 14), none⟩, ⟨.iaddr ⟨false, 1⟩ none (.t 13) (.t 14), (some 15), none⟩, ⟨.load false 1 (.t 15), (some 16), none⟩, ⟨.len true (.t 16), (some 17), none⟩, ⟨.bin .gtr (.t 17) (.c (.int .i64 300)), (some 18), none⟩]) <|
  .cond (.t 18) (.seq (.region [⟨.mv (.c (.bool false)), (some 2), none⟩]) <|
  .ret) (.skip))) <|
  .region [⟨.mv (.t 3), (some 11), none⟩, ⟨.bin .add (.t 11) (.c (.int .i64 1)), (some 12), none⟩, ⟨.mv (.t 12), (some 3), none⟩]))) <|
  .seq (.region [⟨.mv (.c (.bool true)), (some 2), none⟩]) <|
  .ret
def a_law18_texts : AFunc := ⟨19, [.tmp 2], b_law18_texts⟩
theorem a_law18_texts_ok : compileF Tryz.prog h_law18_texts Tryz.f67 = some a_law18_texts := by kernel_rfl
theorem of_law18_texts {args : List AV} {σ : Store} {R : Out → Store → Prop} (hl : args.length ≤ 19) (h : WpR Tryz.prog b_law18_texts [.tmp 2] args σ R) : CallA Tryz.prog n_law18_texts args σ R := CallA.of_wp Tryz.func67 (by kernel_rfl) a_law18_texts_ok hl h.go
end Go.Proofs.YtigjkomalhjhdaaGreatDoor
namespace Go.Proofs.YtigjkomalhjhdaaGreatDoor
open Go.AM
set_option maxRecDepth 10000
def h_law15_Cols_Few : Hints := ⟨[], [], [], [], [], []⟩
def b_law15_Cols_Few : ACode := .seq (.region [⟨.mv (.c (.bool false)), (some 2), none⟩]) <|
  .seq (.seq (.region [⟨.mv (.t 0), (some 4), none⟩, ⟨.len false (.t 4), (some 5), none⟩, ⟨.bin .gtr (.t 5) (.c (.int .i64 12)), (some 6), none⟩]) <|
  .cond (.t 6) (.seq (.region [⟨.mv (.c (.bool false)), (some 2), none⟩]) <|
  .ret) (.skip)) <|
  .seq (.seq (.region [⟨.mv (.c (.int .i64 0)), (some 3), none⟩]) <|
  .block 0 (.loop (.seq (.seq (.region [⟨.mv (.t 3), (some 7), none⟩, ⟨.mv (.t 0), (some 8), none⟩, ⟨.len false (.t 8), (some 9), none⟩, ⟨.bin .lss (.t 7) (.t 9), (some 10), none⟩]) <|
  .cond (.t 10) (.skip) (.exit 0)) <|
  .seq (.block 1 (.seq (.region [⟨.mv (.t 0), (some 13), none⟩, ⟨.mv (.t 3), (some 14), none⟩, ⟨.iaddr ⟨true, 3⟩ none (.t 13) (.t 14), (some 15), none⟩, ⟨.faddr 0 (.t 15), (some 16), none⟩, ⟨.load false 1 (.t 16), (some 17), none⟩, ⟨.len true (.t 17), (some 18), none⟩, ⟨.bin .gtr (.t 18) (.c (.int .i64 300)), (some 19), none⟩]) <|
  .cond (.t 19) (.seq (.region [⟨.mv (.c (.bool false)), (some 2), none⟩]) <|
  .ret) (.skip))) <|
  .region [⟨.mv (.t 3), (some 11), none⟩, ⟨.bin .add (.t 11) (.c (.int .i64 1)), (some 12), none⟩, ⟨.mv (.t 12), (some 3), none⟩]))) <|
  .seq (.region [⟨.mv (.c (.bool true)), (some 2), none⟩]) <|
  .ret
def a_law15_Cols_Few : AFunc := ⟨20, [.tmp 2], b_law15_Cols_Few⟩
theorem a_law15_Cols_Few_ok : compileF Tryz.prog h_law15_Cols_Few Tryz.f107 = some a_law15_Cols_Few := by kernel_rfl
theorem of_law15_Cols_Few {args : List AV} {σ : Store} {R : Out → Store → Prop} (hl : args.length ≤ 20) (h : WpR Tryz.prog b_law15_Cols_Few [.tmp 2] args σ R) : CallA Tryz.prog n_law15_Cols_Few args σ R := CallA.of_wp Tryz.func107 (by kernel_rfl) a_law15_Cols_Few_ok hl h.go
end Go.Proofs.YtigjkomalhjhdaaGreatDoor
namespace Go.Proofs.YtigjkomalhjhdaaGreatDoor
open Go.AM
set_option maxRecDepth 10000
end Go.Proofs.YtigjkomalhjhdaaGreatDoor
namespace Go.Proofs.YtigjkomalhjhdaaGreatDoor
open Go.AM
set_option maxRecDepth 10000
end Go.Proofs.YtigjkomalhjhdaaGreatDoor
namespace Go.Proofs.YtigjkomalhjhdaaGreatDoor
open Go.AM
set_option maxRecDepth 10000
end Go.Proofs.YtigjkomalhjhdaaGreatDoor
namespace Go.Proofs.YtigjkomalhjhdaaGreatDoor
open Go.AM
set_option maxRecDepth 10000
end Go.Proofs.YtigjkomalhjhdaaGreatDoor
namespace Go.Proofs.YtigjkomalhjhdaaGreatDoor
open Go.AM
set_option maxRecDepth 4000
theorem before_succ {q : Nat → Prop} {i : Nat} (h : ∀ k, k < i → q k) (hi : q i) : ∀ k, k < i + 1 → q k := fun k hk => by
  by_cases h2 : k < i
  · exact h k h2
  · have : k = i := by omega
    subst this; exact hi
theorem allN {α : Type} [Inhabited α] {p : α → Bool} {l : List α} (h : ∀ k, k < l.length → p (l.getD k default) = true) : l.all p = true := by
  rw [List.all_eq_true]
  intro x hx
  obtain ⟨i, hi, rfl⟩ := List.getElem_of_mem hx
  have := h i hi
  rwa [List.getD_eq_getElem?_getD, List.getElem?_eq_getElem hi, Option.getD_some] at this
theorem allF {α : Type} [Inhabited α] {p : α → Bool} {l : List α} {i : Nat} (hi : i < l.length) (h : p (l.getD i default) = false) : l.all p = false := by
  cases hq : l.all p with
  | false => rfl
  | true => rw [List.all_eq_true] at hq; rw [hq _ (getD_mem hi)] at h; cases h
def lenB (n : Nat) (s : Str) : Bool := decide (s.length ≤ n)
def txS (l : List Str) : Bool := decide (l.length ≤ 10) && l.all (lenB 300)
theorem law18_texts (l : List Str) : CallF Tryz.prog n_law18_texts [eStrs l] (.bool (txS l)) := by
  obtain ⟨E, hE⟩ : ∃ E, txS l = E := ⟨_, rfl⟩
  rw [hE]
  unfold txS at hE
  simp only [eStrs]
  refine CallF.of_nil (of_law18_texts (by simp) ?_) (by simp)
  unfold b_law18_texts WpR
  intro Q hQr hQn hQp
  repeat' first | refine go_ ?_ | refine br_ (fun hw => ?_) (fun hw => ?_) <;> try omega | fail
  · refine leafE ?_ rfl; rw [← hE, decide_eq_false (by omega), Bool.false_and]
  have h10 : l.length ≤ 10 := by omega
  rw [decide_eq_true h10, Bool.true_and] at hE
  with_reducible refine loop_i [2, 3, 7, 8, 9, 10, 11, 12, 13, 14, 15, 16, 17, 18] (fun i : Nat => [(3, I i)]) (fun _ => []) (fun i => i ≤ l.length ∧ ∀ k, k < i → lenB 300 (l.getD k default) = true) (fun i => l.length - i) (0) ?_ ?_ ?_ ?_
  · simp
  · rfl
  · exact at_
  rintro i r ⟨h1, h2⟩
  by_cases hi : i < l.length
  · have hne := fun h => allF (p := lenB 300) hi h
    have hbs := fun he => before_succ (q := fun k => lenB 300 (l.getD k default) = true) h2 (i := i) he
    have hS : lenB 300 (l.getD i default) = decide ((l.getD i default).length ≤ 300) := rfl
    rw [hS] at hne hbs
    repeat' first | refine go_ ?_ | refine br_ (fun hw => ?_) (fun hw => ?_) <;> try omega | fail
    all_goals first
      | exact ab_
      | (refine leafE ?_ rfl; rw [← hE, hne (decide_eq_false (by omega))])
      | (refine ⟨i + 1, ?_, ?_, by first | rfl | (simp [go_sem]; done), ou_, at_⟩ <;> (try dsimp only)
         · exact ⟨by omega, hbs (decide_eq_true (by omega))⟩
         · omega)
  · repeat' first | refine go_ ?_ | refine br_ (fun hw => ?_) (fun hw => ?_) <;> try omega | fail
    refine leafE ?_ rfl; rw [← hE, allN (fun k hk => h2 k (by omega))]
def nameB (c : Col) : Bool := decide (c.name.length ≤ 300)
def fewS (l : List Col) : Bool := decide (l.length ≤ 12) && l.all nameB
theorem law15_Few (l : List Col) : CallF Tryz.prog n_law15_Cols_Few [eCols l] (.bool (fewS l)) := by
  obtain ⟨E, hE⟩ : ∃ E, fewS l = E := ⟨_, rfl⟩
  rw [hE]
  unfold fewS at hE
  simp only [eCols]
  refine CallF.of_nil (of_law15_Cols_Few (by simp) ?_) (by simp)
  unfold b_law15_Cols_Few WpR
  intro Q hQr hQn hQp
  repeat' first | refine go_ ?_ | refine br_ (fun hw => ?_) (fun hw => ?_) <;> try omega | fail
  · refine leafE ?_ rfl; rw [← hE, decide_eq_false (by omega), Bool.false_and]
  have h10 : l.length ≤ 12 := by omega
  rw [decide_eq_true h10, Bool.true_and] at hE
  with_reducible refine loop_i [2, 3, 7, 8, 9, 10, 11, 12, 13, 14, 15, 16, 17, 18, 19] (fun i : Nat => [(3, I i)]) (fun _ => []) (fun i => i ≤ l.length ∧ ∀ k, k < i → nameB (l.getD k default) = true) (fun i => l.length - i) (0) ?_ ?_ ?_ ?_
  · simp
  · rfl
  · exact at_
  rintro i r ⟨h1, h2⟩
  by_cases hi : i < l.length
  · have hne := fun h => allF (p := nameB) hi h
    have hbs := fun he => before_succ (q := fun k => nameB (l.getD k default) = true) h2 (i := i) he
    have hS : nameB (l.getD i default) = decide ((l.getD i default).name.length ≤ 300) := rfl
    rw [hS] at hne hbs
    repeat' first | refine go_ ?_ | refine br_ (fun hw => ?_) (fun hw => ?_) <;> try omega | fail
    all_goals first
      | exact ab_
      | (refine leafE ?_ rfl; rw [← hE, hne (decide_eq_false (by omega))])
      | (refine ⟨i + 1, ?_, ?_, by first | rfl | (simp [go_sem]; done), ou_, at_⟩ <;> (try dsimp only)
         · exact ⟨by omega, hbs (decide_eq_true (by omega))⟩
         · omega)
  · repeat' first | refine go_ ?_ | refine br_ (fun hw => ?_) (fun hw => ?_) <;> try omega | fail
    refine leafE ?_ rfl; rw [← hE, allN (fun k hk => h2 k (by omega))]
def valB (v : Val) : Bool := decide (v.s.length ≤ 300)
def colB (c : Col) : Bool := decide (c.order.length ≤ 12) && c.order.all valB
def ordS (l : List Col) : Bool := fewS l && l.all colB
theorem law18_order (l : List Col) : CallF Tryz.prog n_law18_order [eCols l] (.bool (ordS l)) := by
  have cf := law15_Few l
  obtain ⟨E, hE⟩ : ∃ E, ordS l = E := ⟨_, rfl⟩
  rw [hE]
  unfold ordS at hE
  have h12 : fewS l = true → l.length ≤ 12 := fun h => by simp only [fewS, Bool.and_eq_true, decide_eq_true_eq] at h; exact h.1
  simp only [eCols] at cf ⊢
  generalize fewS l = fe at *
  refine CallF.of_nil (of_law18_order (by simp) ?_) (by simp)
  unfold b_law18_order WpR
  intro Q hQr hQn hQp
  cases fe with
  | false =>
    repeat' first | refine go_ ?_ | refine cf_ cf ?_ | refine br_ (fun hw => ?_) (fun hw => ?_) <;> try omega | fail
    all_goals first
      | exact ab_
      | (refine leafE ?_ rfl; rw [← hE, Bool.false_and])
  | true =>
    rw [Bool.true_and] at hE
    have h12 := h12 rfl
    repeat' first | refine go_ ?_ | refine cf_ cf ?_ | refine br_ (fun hw => ?_) (fun hw => ?_) <;> try omega | fail
    all_goals first | exact ab_ | skip
    with_reducible refine loop_i [2, 3, 4, 8, 9, 10, 11, 12, 13, 14, 15, 16, 17, 18, 19, 20, 21, 22, 23, 24, 25, 26, 27, 28, 29, 30, 31, 32, 33, 34, 35, 36, 37, 38, 39, 40, 41] (fun i : Nat => [(3, I i)]) (fun _ => []) (fun i => i ≤ l.length ∧ ∀ k, k < i → colB (l.getD k default) = true) (fun i => l.length - i) (0) ?_ ?_ ?_ ?_
    · simp
    · rfl
    · exact at_
    rintro i r ⟨h1, h2⟩
    by_cases hi : i < l.length
    · have hne := fun h => allF (p := colB) hi h
      have hbs := fun he => before_succ (q := fun k => colB (l.getD k default) = true) h2 (i := i) he
      have hS : colB (l.getD i default) = (decide ((l.getD i default).order.length ≤ 12) && (l.getD i default).order.all valB) := rfl
      rw [hS] at hne hbs
      obtain ⟨c, hc⟩ : ∃ c, l.getD i default = c := ⟨_, rfl⟩
      rw [hc] at hne hbs
      clear hS
      repeat' first | simp (disch := omega) only [go_sem, hQr, hQn, hQp, wrapK_i64, wrapK_u8, wrapK_u64, Nat.reduceAdd, Nat.reduceBEq, ↓reduceIte, hc] | refine go_ ?_ | refine br_ (fun hw => ?_) (fun hw => ?_) <;> try omega | fail
      · refine leafE ?_ rfl; rw [← hE, hne (by rw [decide_eq_false (by omega), Bool.false_and])]
      have ho : c.order.length ≤ 12 := by omega
      rw [decide_eq_true ho, Bool.true_and] at hne hbs
      with_reducible refine loop_i [2, 4, 21, 22, 23, 24, 25, 26, 27, 28, 29, 30, 31, 32, 33, 34, 35, 36, 37, 38, 39, 40, 41] (fun j : Nat => [(4, I j)]) (fun _ => []) (fun j => j ≤ c.order.length ∧ ∀ k, k < j → valB (c.order.getD k default) = true) (fun j => c.order.length - j) (0) ?_ ?_ ?_ ?_
      · simp
      · rfl
      · exact at_
      rintro j r2 ⟨g1, g2⟩
      by_cases hj : j < c.order.length
      · have hne2 := fun h => allF (p := valB) hj h
        have hbs2 := fun he => before_succ (q := fun k => valB (c.order.getD k default) = true) g2 (i := j) he
        have hS : valB (c.order.getD j default) = decide ((c.order.getD j default).s.length ≤ 300) := rfl
        rw [hS] at hne2 hbs2
        repeat' first | simp (disch := omega) only [go_sem, hQr, hQn, hQp, wrapK_i64, wrapK_u8, wrapK_u64, Nat.reduceAdd, Nat.reduceBEq, ↓reduceIte, hc] | refine go_ ?_ | refine br_ (fun hw => ?_) (fun hw => ?_) <;> try omega | fail
        all_goals first
          | exact ab_
          | (refine leafE ?_ rfl; rw [← hE, hne (hne2 (decide_eq_false (by omega)))])
          | (refine ⟨j + 1, ?_, ?_, by first | rfl | (simp [go_sem]; done), ou_, at_⟩ <;> (try dsimp only)
             · exact ⟨by omega, hbs2 (decide_eq_true (by omega))⟩
             · omega)
      · repeat' first | simp (disch := omega) only [go_sem, hQr, hQn, hQp, wrapK_i64, wrapK_u8, wrapK_u64, Nat.reduceAdd, Nat.reduceBEq, ↓reduceIte, hc] | refine go_ ?_ | refine br_ (fun hw => ?_) (fun hw => ?_) <;> try omega | fail
        refine ⟨i + 1, ?_, ?_, by first | rfl | (simp [go_sem]; done), ou_, at_⟩ <;> (try dsimp only)
        · exact ⟨by omega, hbs (allN (fun k hk => g2 k (by omega)))⟩
        · omega
    · repeat' first | refine go_ ?_ | refine br_ (fun hw => ?_) (fun hw => ?_) <;> try omega | fail
      refine leafE ?_ rfl; rw [← hE, allN (fun k hk => h2 k (by omega))]
def rulB (r : Rule) : Bool := txS r.cells && txS r.outs
def smallT (t : Table) : Bool := decide (t.name.length ≤ 300) && decide (t.rules.length ≤ 26) && ordS t.ins && ordS t.outs && t.rules.all rulB
theorem law18_Small (t : Table) : CallF Tryz.prog n_law18_T_Small [eTable t] (.bool (smallT t)) := by
  have ci := law18_order t.ins
  have co := law18_order t.outs
  obtain ⟨E, hE⟩ : ∃ E, smallT t = E := ⟨_, rfl⟩
  rw [hE]
  unfold smallT at hE
  simp only [eTable, cTable, eCols, eRules] at ci co ⊢
  generalize ordS t.ins = oi at *
  generalize ordS t.outs = oo at *
  refine CallF.of_nil (of_law18_T_Small (by simp) ?_) (by simp)
  unfold b_law18_T_Small WpR
  intro Q hQr hQn hQp
  by_cases hb : (decide (t.name.length ≤ 300) && decide (t.rules.length ≤ 26) && oi && oo) = true
  case neg =>
    simp only [Bool.not_eq_true] at hb
    rw [hb, Bool.false_and] at hE
    cases oi <;> cases oo
    all_goals
      repeat' first | refine go_ ?_ | refine cf_ ci ?_ | refine cf_ co ?_ | refine br_ (fun hw => ?_) (fun hw => ?_) <;> try omega | fail
    all_goals first
      | exact ab_
      | (refine leafE ?_ rfl; rw [← hE])
      | (exfalso; simp at hb; omega)
  rw [hb, Bool.true_and] at hE
  simp only [Bool.and_eq_true, decide_eq_true_eq] at hb
  obtain ⟨⟨⟨b1, b2⟩, rfl⟩, rfl⟩ := hb
  repeat' first | refine go_ ?_ | refine cf_ ci ?_ | refine cf_ co ?_ | refine br_ (fun hw => ?_) (fun hw => ?_) <;> try omega | fail
  all_goals first | exact ab_ | skip
  with_reducible refine loop_i [2, 3, 26, 27, 28, 29, 30, 31, 32, 33, 34, 35, 36, 37, 38, 39, 40, 41, 42, 43, 44, 45, 46, 47, 48, 49, 50] (fun i : Nat => [(3, I i)]) (fun _ => [.cells [.str t.name, .lst false EC (t.ins.map eCol), .lst false EC (t.outs.map eCol), I t.policy, I t.agg, .lst false ER (t.rules.map eRule)]]) (fun i => i ≤ t.rules.length ∧ ∀ k, k < i → rulB (t.rules.getD k default) = true) (fun i => t.rules.length - i) (0) ?_ ?_ ?_ ?_
  · simp
  · rfl
  · exact at_
  rintro i r ⟨h1, h2⟩
  by_cases hi : i < t.rules.length
  · have hne := fun h => allF (p := rulB) hi h
    have hbs := fun he => before_succ (q := fun k => rulB (t.rules.getD k default) = true) h2 (i := i) he
    have hS : rulB (t.rules.getD i default) = (txS (t.rules.getD i default).cells && txS (t.rules.getD i default).outs) := rfl
    have c1 := law18_texts (t.rules.getD i default).cells
    have c2 := law18_texts (t.rules.getD i default).outs
    rw [hS] at hne hbs
    simp only [eStrs] at c1 c2
    generalize txS (t.rules.getD i default).cells = u1 at *
    generalize txS (t.rules.getD i default).outs = u2 at *
    cases u1 <;> cases u2
    all_goals
      repeat' first | refine go_ ?_ | refine cf_ c1 ?_ | refine cf_ c2 ?_ | refine br_ (fun hw => ?_) (fun hw => ?_) <;> try omega | fail
    all_goals first
      | exact ab_
      | (refine leafE ?_ rfl; rw [← hE, hne rfl])
      | (refine ⟨i + 1, ?_, ?_, by first | rfl | (simp [go_sem]; done), ou_, at_⟩ <;> (try dsimp only)
         · exact ⟨by omega, hbs rfl⟩
         · omega)
  · repeat' first | refine go_ ?_ | refine br_ (fun hw => ?_) (fun hw => ?_) <;> try omega | fail
    refine leafE ?_ rfl; rw [← hE, allN (fun k hk => h2 k (by omega))]
theorem law16_Few (l : List Val) : CallF Tryz.prog n_law16_Row_Few [eVals l] (.bool (decide (l.length ≤ 12) && l.all valB)) := by
  obtain ⟨E, hE⟩ : ∃ E, (decide (l.length ≤ 12) && l.all valB) = E := ⟨_, rfl⟩
  rw [hE]
  simp only [eVals]
  refine CallF.of_nil (of_law16_Row_Few (by simp) ?_) (by simp)
  unfold b_law16_Row_Few WpR
  intro Q hQr hQn hQp
  repeat' first | refine go_ ?_ | refine br_ (fun hw => ?_) (fun hw => ?_) <;> try omega | fail
  · exact leafE (by rw [← hE, decide_eq_false (by omega), Bool.false_and]) rfl
  have h12 : l.length ≤ 12 := by omega
  rw [decide_eq_true h12, Bool.true_and] at hE
  with_reducible refine loop_i [2, 3, 7, 8, 9, 10, 11, 12, 13, 14, 15, 16, 17, 18, 19] (fun q : Nat => [(3, I q)]) (fun _ => []) (fun q => q ≤ l.length ∧ ∀ k, k < q → valB (l.getD k default) = true) (fun q => l.length - q) (0) ?_ ?_ ?_ ?_
  · simp
  · rfl
  · exact at_
  rintro i r ⟨g1, g2⟩
  by_cases hi : i < l.length
  · have hne := fun h => allF (p := valB) hi h
    have hbs := fun he => before_succ (q := fun k => valB (l.getD k default) = true) g2 (i := i) he
    obtain ⟨v, hve⟩ : ∃ v, l.getD i default = v := ⟨_, rfl⟩
    rw [hve] at hne hbs
    have hS : valB v = decide (v.s.length ≤ 300) := rfl
    rw [hS] at hne hbs
    repeat' first | simp (disch := omega) only [go_sem, hQr, hQn, hQp, wrapK_i64, wrapK_u8, wrapK_u64, Nat.reduceAdd, Nat.reduceBEq, ↓reduceIte, hve] | refine go_ ?_ | refine br_ (fun hw => ?_) (fun hw => ?_) <;> try omega | fail
    all_goals first
      | exact ab_
      | (exact leafE (by rw [← hE, hne (decide_eq_false (by omega))]) rfl)
      | (refine ⟨i + 1, ?_, ?_, by first | rfl | (simp [go_sem]; done), ou_, at_⟩ <;> (try dsimp only)
         · exact ⟨by omega, hbs (decide_eq_true (by omega))⟩
         · omega)
  · repeat' first | refine go_ ?_ | refine br_ (fun hw => ?_) (fun hw => ?_) <;> try omega | fail
    exact leafE (by rw [← hE, allN (fun k hk => g2 k (by omega))]) rfl
end Go.Proofs.YtigjkomalhjhdaaGreatDoor
namespace Go.Proofs
open Go.Shelf
def Tryz.lays106_ren : Go.Shelf.Ren := ⟨fun | 106 => 321 | 213 => 368 | 265 => 400 | n => n, fun | 9 => 9 | 3 => 3 | n => n, fun | n => n⟩
theorem Tryz.lays106 : Go.Proofs.Lays.n106 Tryz.prog Tryz.lays106_ren := {
  mixed := by kernel_rfl
  f106 := Tryz.func321.trans (congrArg some (by kernel_rfl))
  f213 := Tryz.func368.trans (congrArg some (by kernel_rfl))
  f265 := Tryz.func400.trans (congrArg some (by kernel_rfl))
  t3 := Tryz.underlying3
  a3 := Tryz.isAgg3
  z3 := Tryz.sizeOf3
  v3 := Tryz.zeroValue3
  t9 := Tryz.underlying9
  a9 := Tryz.isAgg9
  z9 := Tryz.sizeOf9
  v9 := Tryz.zeroValue9 }
open Go.RowKit in
theorem Tryz.strings_Compare (a b : ByteArray) (w : World) :
    Calls Tryz.prog 321 #[.string a, .string b] w fun e w' => e = .returned (.int .i64 (Lib.compareBytes a.data.toList b.data.toList)) ∧ w' = w := Any.strings_Compare Tryz.lays106 a b w
def Tryz.lays105_ren : Go.Shelf.Ren := ⟨fun | 105 => 68 | 212 => 108 | 99 => 109 | 165 => 110 | 166 => 111 | 170 => 112 | 169 => 113 | 263 => 164 | 264 => 165 | 206 => 166 | 240 => 167 | 241 => 168 | 276 => 229 | 277 => 230 | n => n, fun | 9 => 9 | 3 => 3 | 4 => 4 | 20 => 20 | 0 => 0 | 46 => 185 | 109 => 186 | 5 => 5 | 72 => 191 | 76 => 195 | 51 => 252 | 146 => 253 | 53 => 204 | 148 => 255 | 70 => 189 | 37 => 155 | 75 => 194 | 127 => 257 | 164 => 317 | 80 => 198 | n => n, fun | n => n⟩
theorem Tryz.lays105 : Go.Proofs.Lays.n105 Tryz.prog Tryz.lays105_ren := {
  mixed := by kernel_rfl
  f99 := Tryz.func109.trans (congrArg some (by kernel_rfl))
  f105 := Tryz.func68.trans (congrArg some (by kernel_rfl))
  f165 := Tryz.func110.trans (congrArg some (by kernel_rfl))
  f166 := Tryz.func111.trans (congrArg some (by kernel_rfl))
  f169 := Tryz.func113.trans (congrArg some (by kernel_rfl))
  f170 := Tryz.func112.trans (congrArg some (by kernel_rfl))
  f206 := Tryz.func166.trans (congrArg some (by kernel_rfl))
  f212 := Tryz.func108.trans (congrArg some (by kernel_rfl))
  f240 := Tryz.func167.trans (congrArg some (by kernel_rfl))
  f241 := Tryz.func168.trans (congrArg some (by kernel_rfl))
  f263 := Tryz.func164.trans (congrArg some (by kernel_rfl))
  f264 := Tryz.func165.trans (congrArg some (by kernel_rfl))
  f276 := Tryz.func229.trans (congrArg some (by kernel_rfl))
  f277 := Tryz.func230.trans (congrArg some (by kernel_rfl))
  t0 := Tryz.underlying0
  a0 := Tryz.isAgg0
  z0 := Tryz.sizeOf0
  v0 := Tryz.zeroValue0
  t3 := Tryz.underlying3
  a3 := Tryz.isAgg3
  z3 := Tryz.sizeOf3
  v3 := Tryz.zeroValue3
  t4 := Tryz.underlying4
  a4 := Tryz.isAgg4
  z4 := Tryz.sizeOf4
  v4 := Tryz.zeroValue4
  t5 := Tryz.underlying5
  a5 := Tryz.isAgg5
  z5 := Tryz.sizeOf5
  v5 := Tryz.zeroValue5
  t9 := Tryz.underlying9
  a9 := Tryz.isAgg9
  z9 := Tryz.sizeOf9
  v9 := Tryz.zeroValue9
  t20 := Tryz.underlying20
  a20 := Tryz.isAgg20
  z20 := Tryz.sizeOf20
  v20 := Tryz.zeroValue20
  t37 := Tryz.underlying155
  a37 := Tryz.isAgg155
  z37 := Tryz.sizeOf155
  v37 := Tryz.zeroValue155
  t46 := Tryz.underlying185
  a46 := Tryz.isAgg185
  z46 := Tryz.sizeOf185
  v46 := Tryz.zeroValue185
  t51 := Tryz.underlying252
  a51 := Tryz.isAgg252
  z51 := Tryz.sizeOf252
  v51 := Tryz.zeroValue252
  t53 := Tryz.underlying204
  a53 := Tryz.isAgg204
  z53 := Tryz.sizeOf204
  v53 := Tryz.zeroValue204
  t70 := Tryz.underlying189
  a70 := Tryz.isAgg189
  z70 := Tryz.sizeOf189
  v70 := Tryz.zeroValue189
  t72 := Tryz.underlying191
  a72 := Tryz.isAgg191
  z72 := Tryz.sizeOf191
  v72 := Tryz.zeroValue191
  t75 := Tryz.underlying194
  a75 := Tryz.isAgg194
  z75 := Tryz.sizeOf194
  v75 := Tryz.zeroValue194
  t76 := Tryz.underlying195
  a76 := Tryz.isAgg195
  z76 := Tryz.sizeOf195
  v76 := Tryz.zeroValue195
  t109 := Tryz.underlying186
  a109 := Tryz.isAgg186
  z109 := Tryz.sizeOf186
  v109 := Tryz.zeroValue186
  t127 := Tryz.underlying257
  a127 := Tryz.isAgg257
  z127 := Tryz.sizeOf257
  v127 := Tryz.zeroValue257
  t146 := Tryz.underlying253
  a146 := Tryz.isAgg253
  z146 := Tryz.sizeOf253
  v146 := Tryz.zeroValue253
  t148 := Tryz.underlying255
  a148 := Tryz.isAgg255
  z148 := Tryz.sizeOf255
  v148 := Tryz.zeroValue255
  t164 := Tryz.underlying317
  a164 := Tryz.isAgg317
  z164 := Tryz.sizeOf317
  v164 := Tryz.zeroValue317 }
theorem Tryz.Builder_Extra_105 : Builder.Extra Tryz.prog Tryz.lays105_ren := {
  sizeBuilder := by kernel_rfl
  liesBuilder := by kernel_rfl
  t5 := Tryz.underlying5
  a5 := Tryz.isAgg5
  z5 := Tryz.sizeOf5
  v5 := Tryz.zeroValue5
  infoByte := by kernel_rfl
  cellsByte := by kernel_rfl
  sizeByte := by kernel_rfl
  neB5 := by decide }
open Go.RowKit Go.Lib in
theorem Tryz.strings_Repeat (s : ByteArray) (c : Nat) (w : World) (hc : c ≤ 9223372036854775807) (hlen : s.size * c ≤ 140737488355328) :
    Calls Tryz.prog 68 #[.string s, .int .i64 c] w fun e w' => e = .returned (.string ⟨(Lib.repeatL s.data.toList c).toArray⟩) ∧ Below w.heap.size w w' := Any.strings_Repeat Tryz.lays105 Tryz.Builder_Extra_105 s c w hc hlen
end Go.Proofs
