/- Part of a proof: see Root. -/
import Derived.Test.YtdohdkdejmhgnaaGreatDoorW16
import Derived.KernelRfl
set_option linter.unnecessarySimpa false
set_option linter.unusedSectionVars false
set_option linter.unusedSimpArgs false
set_option linter.unusedVariables false
namespace Go.Proofs.YtdohdkdejmhgnaaGreatDoor
open Go.AM
set_option maxRecDepth 10000
def h_law24_JournalNil : Hints := ⟨[], [], [], [], [], []⟩
def b_law24_JournalNil : ACode := .seq (.region [⟨.box (.t 0), (some 2), none⟩, ⟨.mv (.c (.bool false)), (some 4), none⟩]) <|
  .seq (.seq (.region [⟨.load true 6 (.t 2), (some 18), none⟩, ⟨.call false (.c (.fn (.func n_law21_E_Small) [] [])) [(.t 18)], (some 19), none⟩, ⟨.un .not (.t 19), (some 20), none⟩]) <|
  .cond (.t 20) (.seq (.region [⟨.call false (.c (.fn (.func n_law24_lives) [] [])) [], (some 21), none⟩, ⟨.mv (.t 21), (some 4), none⟩]) <|
  .ret) (.skip)) <|
  .seq (.region [⟨.call false (.c (.fn (.func n_journal_Mark) [] [])) [(.c .nilp)], (some 23), none⟩, ⟨.mv (.t 23), (some 22), none⟩, ⟨.ext (.t 22) 0, (some 24), none⟩, ⟨.ext (.t 22) 1, (some 25), none⟩, ⟨.alloc none [(.int .i64 0), (.int .i64 0), (.str []), (.str [])], (some 5), none⟩, ⟨.store 4 (.t 5) (.t 24), none, none⟩, ⟨.mv (.t 25), (some 6), none⟩]) <|
  .seq (.region [⟨.load true 6 (.t 2), (some 27), none⟩, ⟨.call false (.c (.fn (.func n_journal_Add) [] [])) [(.c .nilp), (.t 27)], (some 28), none⟩, ⟨.mv (.t 28), (some 26), none⟩, ⟨.ext (.t 26) 0, (some 29), none⟩, ⟨.ext (.t 26) 1, (some 30), none⟩, ⟨.ext (.t 26) 2, (some 31), none⟩, ⟨.mv (.t 29), (some 7), none⟩, ⟨.mv (.t 30), (some 8), none⟩, ⟨.mv (.t 31), (some 9), none⟩]) <|
  .seq (.region [⟨.mv (.t 1), (some 33), none⟩, ⟨.call false (.c (.fn (.func n_journal_Get) [] [])) [(.c .nilp), (.t 33)], (some 34), none⟩, ⟨.mv (.t 34), (some 32), none⟩, ⟨.ext (.t 32) 0, (some 35), none⟩, ⟨.ext (.t 32) 1, (some 36), none⟩, ⟨.alloc none [(.str []), (.int .i64 0), .nils, (.int .i64 0), .nils, .nils], (some 10), none⟩, ⟨.store 6 (.t 10) (.t 35), none, none⟩, ⟨.mv (.t 36), (some 11), none⟩]) <|
  .seq (.region [⟨.mv (.t 1), (some 38), none⟩, ⟨.call false (.c (.fn (.func n_journal_Range) [] [])) [(.c .nilp), (.t 38), (.c (.int .i64 1))], (some 39), none⟩, ⟨.mv (.t 39), (some 37), none⟩, ⟨.ext (.t 37) 0, (some 40), none⟩, ⟨.ext (.t 37) 1, (some 41), none⟩, ⟨.mv (.t 40), (some 12), none⟩, ⟨.mv (.t 41), (some 13), none⟩]) <|
  .seq (.region [⟨.call false (.c (.fn (.func n_journal_Texts) [] [])) [(.c .nilp)], (some 43), none⟩, ⟨.mv (.t 43), (some 42), none⟩, ⟨.ext (.t 42) 0, (some 44), none⟩, ⟨.ext (.t 42) 1, (some 45), none⟩, ⟨.mv (.t 44), (some 14), none⟩, ⟨.mv (.t 45), (some 15), none⟩]) <|
  .seq (.region [⟨.mv (.t 1), (some 47), none⟩, ⟨.call false (.c (.fn (.func n_journal_Compact) [] [])) [(.c .nilp), (.t 47)], (some 48), none⟩, ⟨.mv (.t 48), (some 46), none⟩, ⟨.ext (.t 46) 0, (some 49), none⟩, ⟨.ext (.t 46) 1, (some 50), none⟩, ⟨.mv (.t 49), (some 16), none⟩, ⟨.mv (.t 50), (some 17), none⟩]) <|
  .seq (.region [⟨.mv (.t 6), (some 51), none⟩, ⟨.bin .eql (.t 51) (.c (.int .i64 1)), (some 52), none⟩, ⟨.mv (.t 52), (some 53), none⟩, ⟨.mv (.t 8), (some 54), some (53, true)⟩, ⟨.bin .eql (.t 54) (.c (.int .i64 0)), (some 55), some (53, true)⟩, ⟨.pick (.t 53) (.t 55) (.c (.bool false)), (some 56), none⟩, ⟨.mv (.t 56), (some 57), none⟩, ⟨.mv (.t 9), (some 58), some (57, true)⟩, ⟨.bin .neq (.t 58) (.c (.int .i64 0)), (some 59), some (57, true)⟩, ⟨.pick (.t 57) (.t 59) (.c (.bool false)), (some 60), none⟩, ⟨.mv (.t 60), (some 61), none⟩, ⟨.mv (.t 11), (some 62), some (61, true)⟩, ⟨.bin .eql (.t 62) (.c (.int .i64 1)), (some 63), some (61, true)⟩, ⟨.pick (.t 61) (.t 63) (.c (.bool false)), (some 64), none⟩, ⟨.mv (.t 64), (some 65), none⟩, ⟨.mv (.t 13), (some 66), some (65, true)⟩, ⟨.bin .eql (.t 66) (.c (.int .i64 1)), (some 67), some (65, true)⟩, ⟨.pick (.t 65) (.t 67) (.c (.bool false)), (some 68), none⟩, ⟨.mv (.t 68), (some 69), none⟩, ⟨.mv (.t 15), (some 70), some (69, true)⟩, ⟨.bin .eql (.t 70) (.c (.int .i64 1)), (some 71), some (69, true)⟩, ⟨.pick (.t 69) (.t 71) (.c (.bool false)), (some 72), none⟩, ⟨.mv (.t 72), (some 73), none⟩, ⟨.mv (.t 17), (some 74), some (73, true)⟩, ⟨.bin .eql (.t 74) (.c (.int .i64 1)), (some 75), some (73, true)⟩, ⟨.pick (.t 73) (.t 75) (.c (.bool false)), (some 76), none⟩, ⟨.mv (.t 76), (some 77), none⟩, ⟨.call false (.c (.fn (.func n_journal_Verify) [] [])) [(.c .nilp)], (some 78), some (77, true)⟩, ⟨.bin .eql (.t 78) (.c (.int .i64 1)), (some 79), some (77, true)⟩, ⟨.pick (.t 77) (.t 79) (.c (.bool false)), (some 80), none⟩, ⟨.mv (.t 80), (some 81), none⟩, ⟨.call false (.c (.fn (.func n_law24_lives) [] [])) [], (some 82), some (81, true)⟩, ⟨.pick (.t 81) (.t 82) (.c (.bool false)), (some 83), none⟩, ⟨.mv (.t 83), (some 4), none⟩]) <|
  .ret
def a_law24_JournalNil : AFunc := ⟨84, [.tmp 4], b_law24_JournalNil⟩
theorem a_law24_JournalNil_ok : compileF Tryz.prog h_law24_JournalNil Tryz.f3 = some a_law24_JournalNil := by kernel_rfl
theorem of_law24_JournalNil {args : List AV} {σ : Store} {R : Out → Store → Prop} (hl : args.length ≤ 84) (h : WpR Tryz.prog b_law24_JournalNil [.tmp 4] args σ R) : CallA Tryz.prog n_law24_JournalNil args σ R := CallA.of_wp Tryz.func3 (by kernel_rfl) a_law24_JournalNil_ok hl h.go
def h_law21_E_Small : Hints := ⟨[], [], [], [], [], []⟩
def b_law21_E_Small : ACode := .seq (.region [⟨.box (.t 0), (some 1), none⟩, ⟨.mv (.c (.bool false)), (some 2), none⟩]) <|
  .seq (.seq (.region [⟨.faddr 0 (.t 1), (some 4), none⟩, ⟨.load false 1 (.t 4), (some 5), none⟩, ⟨.len true (.t 5), (some 6), none⟩, ⟨.bin .gtr (.t 6) (.c (.int .i64 300)), (some 7), none⟩, ⟨.mv (.t 7), (some 8), none⟩, ⟨.faddr 2 (.t 1), (some 9), some (8, false)⟩, ⟨.load false 1 (.t 9), (some 10), some (8, false)⟩, ⟨.call false (.c (.fn (.func n_law16_Row_Few) [] [])) [(.t 10)], (some 11), some (8, false)⟩, ⟨.un .not (.t 11), (some 12), some (8, false)⟩, ⟨.pick (.t 8) (.c (.bool true)) (.t 12), (some 13), none⟩, ⟨.mv (.t 13), (some 14), none⟩, ⟨.faddr 3 (.t 1), (some 15), some (14, false)⟩, ⟨.faddr 1 (.t 15), (some 16), some (14, false)⟩, ⟨.load false 1 (.t 16), (some 17), some (14, false)⟩, ⟨.len false (.t 17), (some 18), some (14, false)⟩, ⟨.bin .gtr (.t 18) (.c (.int .i64 30)), (some 19), some (14, false)⟩, ⟨.pick (.t 14) (.c (.bool true)) (.t 19), (some 20), none⟩, ⟨.mv (.t 20), (some 21), none⟩, ⟨.faddr 3 (.t 1), (some 22), some (21, false)⟩, ⟨.faddr 2 (.t 22), (some 23), some (21, false)⟩, ⟨.load false 1 (.t 23), (some 24), some (21, false)⟩, ⟨.len false (.t 24), (some 25), some (21, false)⟩, ⟨.bin .gtr (.t 25) (.c (.int .i64 30)), (some 26), some (21, false)⟩, ⟨.pick (.t 21) (.c (.bool true)) (.t 26), (some 27), none⟩]) <|
  .cond (.t 27) (.seq (.region [⟨.mv (.c (.bool false)), (some 2), none⟩]) <|
  .ret) (.skip)) <|
  .seq (.seq (.region [⟨.mv (.c (.int .i64 0)), (some 3), none⟩]) <|
  .block 0 (.loop (.seq (.seq (.region [⟨.mv (.t 3), (some 28), none⟩, ⟨.faddr 3 (.t 1), (some 29), none⟩, ⟨.faddr 2 (.t 29), (some 30), none⟩, ⟨.load false 1 (.t 30), (some 31), none⟩, ⟨.len false (.t 31), (some 32), none⟩, ⟨.bin .lss (.t 28) (.t 32), (some 33), none⟩]) <|
  .cond (.t 33) (.skip) (.exit 0)) <|
  .seq (.block 1 (.seq (.region [⟨.faddr 3 (.t 1), (some 36), none⟩, ⟨.faddr 2 (.t 36), (some 37), none⟩, ⟨.load false 1 (.t 37), (some 38), none⟩, ⟨.mv (.t 3), (some 39), none⟩, ⟨.iaddr ⟨false, 1⟩ none (.t 38) (.t 39), (some 40), none⟩, ⟨.load false 1 (.t 40), (some 41), none⟩, ⟨.call false (.c (.fn (.func n_law16_Row_Few) [] [])) [(.t 41)], (some 42), none⟩, ⟨.un .not (.t 42), (some 43), none⟩]) <|
  .cond (.t 43) (.seq (.region [⟨.mv (.c (.bool false)), (some 2), none⟩]) <|
  .ret) (.skip))) <|
  .region [⟨.mv (.t 3), (some 34), none⟩, ⟨.bin .add (.t 34) (.c (.int .i64 1)), (some 35), none⟩, ⟨.mv (.t 35), (some 3), none⟩]))) <|
  .seq (.region [⟨.mv (.c (.bool true)), (some 2), none⟩]) <|
  .ret
def a_law21_E_Small : AFunc := ⟨44, [.tmp 2], b_law21_E_Small⟩
theorem a_law21_E_Small_ok : compileF Tryz.prog h_law21_E_Small Tryz.f5 = some a_law21_E_Small := by kernel_rfl
theorem of_law21_E_Small {args : List AV} {σ : Store} {R : Out → Store → Prop} (hl : args.length ≤ 44) (h : WpR Tryz.prog b_law21_E_Small [.tmp 2] args σ R) : CallA Tryz.prog n_law21_E_Small args σ R := CallA.of_wp Tryz.func5 (by kernel_rfl) a_law21_E_Small_ok hl h.go
def h_journal_Add : Hints := ⟨[], [], [], [], [100060], []⟩
def b_journal_Add : ACode := .seq (.region [⟨.box (.t 1), (some 3), none⟩, ⟨.mv (.c .nils), (some 4), none⟩, ⟨.mv (.c (.int .i64 0)), (some 5), none⟩, ⟨.mv (.c (.int .i64 0)), (some 6), none⟩]) <|
  .seq (.region [⟨.load true 6 (.t 3), (some 14), none⟩, ⟨.call false (.c (.fn (.func n_entry_Bytes) [] [])) [(.t 14)], (some 15), none⟩, ⟨.mv (.t 15), (some 13), none⟩, ⟨.ext (.t 13) 0, (some 16), none⟩, ⟨.ext (.t 13) 1, (some 17), none⟩, ⟨.mv (.t 16), (some 7), none⟩, ⟨.mv (.t 17), (some 8), none⟩]) <|
  .seq (.seq (.region [⟨.mv (.t 8), (some 18), none⟩, ⟨.bin .neq (.t 18) (.c (.int .i64 0)), (some 19), none⟩]) <|
  .cond (.t 19) (.seq (.region [⟨.mv (.t 8), (some 20), none⟩, ⟨.mv (.c .nils), (some 4), none⟩, ⟨.mv (.c (.int .i64 0)), (some 5), none⟩, ⟨.mv (.t 20), (some 6), none⟩]) <|
  .ret) (.skip)) <|
  .seq (.region [⟨.mv (.t 0), (some 22), none⟩, ⟨.call false (.c (.fn (.func n_journal_Mark) [] [])) [(.t 22)], (some 23), none⟩, ⟨.mv (.t 23), (some 21), none⟩, ⟨.ext (.t 21) 0, (some 24), none⟩, ⟨.ext (.t 21) 1, (some 25), none⟩, ⟨.alloc none [(.int .i64 0), (.int .i64 0), (.str []), (.str [])], (some 9), none⟩, ⟨.store 4 (.t 9) (.t 24), none, none⟩, ⟨.mv (.t 25), (some 8), none⟩]) <|
  .seq (.seq (.region [⟨.mv (.t 8), (some 26), none⟩, ⟨.bin .neq (.t 26) (.c (.int .i64 0)), (some 27), none⟩]) <|
  .cond (.t 27) (.seq (.region [⟨.mv (.t 8), (some 28), none⟩, ⟨.mv (.c .nils), (some 4), none⟩, ⟨.mv (.c (.int .i64 0)), (some 5), none⟩, ⟨.mv (.t 28), (some 6), none⟩]) <|
  .ret) (.skip)) <|
  .seq (.region [⟨.load true 4 (.t 9), (some 30), none⟩, ⟨.mv (.t 7), (some 31), none⟩, ⟨.call false (.c (.fn (.func n_chain_Push) [] [])) [(.t 30), (.t 31)], (some 32), none⟩, ⟨.mv (.t 32), (some 29), none⟩, ⟨.ext (.t 29) 0, (some 33), none⟩, ⟨.ext (.t 29) 1, (some 34), none⟩, ⟨.alloc none [(.int .i64 0), (.int .i64 0), (.str []), (.str [])], (some 10), none⟩, ⟨.store 4 (.t 10) (.t 33), none, none⟩, ⟨.mv (.t 34), (some 8), none⟩]) <|
  .seq (.seq (.region [⟨.mv (.t 8), (some 35), none⟩, ⟨.bin .neq (.t 35) (.c (.int .i64 0)), (some 36), none⟩]) <|
  .cond (.t 36) (.seq (.region [⟨.mv (.t 8), (some 37), none⟩, ⟨.mv (.c .nils), (some 4), none⟩, ⟨.mv (.c (.int .i64 0)), (some 5), none⟩, ⟨.mv (.t 37), (some 6), none⟩]) <|
  .ret) (.skip)) <|
  .seq (.region [⟨.faddr 1 (.t 9), (some 39), none⟩, ⟨.load false 1 (.t 39), (some 40), none⟩, ⟨.call false (.c (.fn (.func n_journal_place) [] [])) [(.t 40)], (some 41), none⟩, ⟨.mv (.t 7), (some 42), none⟩, ⟨.call false (.c (.fn (.func n_chunk_Edits) [] [])) [(.t 41), (.t 42)], (some 43), none⟩, ⟨.mv (.t 43), (some 38), none⟩, ⟨.ext (.t 38) 0, (some 44), none⟩, ⟨.ext (.t 38) 1, (some 45), none⟩, ⟨.mv (.t 44), (some 11), none⟩, ⟨.mv (.t 45), (some 8), none⟩]) <|
  .seq (.seq (.region [⟨.mv (.t 8), (some 46), none⟩, ⟨.bin .neq (.t 46) (.c (.int .i64 0)), (some 47), none⟩]) <|
  .cond (.t 47) (.seq (.region [⟨.mv (.t 8), (some 48), none⟩, ⟨.mv (.c .nils), (some 4), none⟩, ⟨.mv (.c (.int .i64 0)), (some 5), none⟩, ⟨.mv (.t 48), (some 6), none⟩]) <|
  .ret) (.skip)) <|
  .seq (.region [⟨.load true 4 (.t 10), (some 50), none⟩, ⟨.call false (.c (.fn (.func n_journal_put) [] [])) [(.t 50)], (some 51), none⟩, ⟨.mv (.t 51), (some 49), none⟩, ⟨.ext (.t 49) 0, (some 52), none⟩, ⟨.ext (.t 49) 1, (some 53), none⟩, ⟨.alloc none [(.str []), (.str []), (.bool false), (.str [])], (some 12), none⟩, ⟨.store 4 (.t 12) (.t 52), none, none⟩, ⟨.mv (.t 53), (some 8), none⟩]) <|
  .seq (.seq (.region [⟨.mv (.t 8), (some 54), none⟩, ⟨.bin .neq (.t 54) (.c (.int .i64 0)), (some 55), none⟩]) <|
  .cond (.t 55) (.seq (.region [⟨.mv (.t 8), (some 56), none⟩, ⟨.mv (.c .nils), (some 4), none⟩, ⟨.mv (.c (.int .i64 0)), (some 5), none⟩, ⟨.mv (.t 56), (some 6), none⟩]) <|
  .ret) (.skip)) <|
  .seq (.draw [⟨.mv (.t 11), (some 57), none⟩, ⟨.load true 4 (.t 12), (some 58), none⟩, ⟨.bslice false ⟨true, 4⟩ (.agg [(.str []), (.str []), (.bool false), (.str [])]) 1 [(0, (.t 58))], (some 59), none⟩, ⟨.faddr 1 (.t 9), (some 61), none⟩, ⟨.load false 1 (.t 61), (some 62), none⟩, ⟨.app none ⟨true, 4⟩ (.t 57) (.t 59), (some 60), none⟩, ⟨.mv (.t 60), (some 4), none⟩, ⟨.mv (.t 62), (some 5), none⟩, ⟨.mv (.c (.int .i64 0)), (some 6), none⟩] [((.t 61), (.t 57))]) <|
  .ret
def a_journal_Add : AFunc := ⟨63, [.tmp 4, .tmp 5, .tmp 6], b_journal_Add⟩
theorem a_journal_Add_ok : compileF Tryz.prog h_journal_Add Tryz.f8 = some a_journal_Add := by kernel_rfl
theorem of_journal_Add {args : List AV} {σ : Store} {R : Out → Store → Prop} (hl : args.length ≤ 63) (h : WpR Tryz.prog b_journal_Add [.tmp 4, .tmp 5, .tmp 6] args σ R) : CallA Tryz.prog n_journal_Add args σ R := CallA.of_wp Tryz.func8 (by kernel_rfl) a_journal_Add_ok hl h.go
def h_law16_Row_Few : Hints := ⟨[], [], [], [], [], []⟩
def b_law16_Row_Few : ACode := .seq (.region [⟨.mv (.c (.bool false)), (some 2), none⟩]) <|
  .seq (.seq (.region [⟨.mv (.t 0), (some 4), none⟩, ⟨.len false (.t 4), (some 5), none⟩, ⟨.bin .gtr (.t 5) (.c (.int .i64 12)), (some 6), none⟩]) <|
  .cond (.t 6) (.seq (.region [⟨.mv (.c (.bool false)), (some 2), none⟩]) <|
  .ret) (.skip)) <|
  .seq (.seq (.region [⟨.mv (.c (.int .i64 0)), (some 3), none⟩]) <|
  .block 0 (.loop (.seq (.seq (.region [⟨.mv (.t 3), (some 7), none⟩, ⟨.mv (.t 0), (some 8), none⟩, ⟨.len false (.t 8), (some 9), none⟩, ⟨.bin .lss (.t 7) (.t 9), (some 10), none⟩]) <|
  .cond (.t 10) (.skip) (.exit 0)) <|
  .seq (.block 1 (.seq (.region [⟨.mv (.t 0), (some 13), none⟩, ⟨.mv (.t 3), (some 14), none⟩, ⟨.iaddr ⟨true, 3⟩ none (.t 13) (.t 14), (some 15), none⟩, ⟨.faddr 2 (.t 15), (some 16), none⟩, ⟨.load false 1 (.t 16), (some 17), none⟩, ⟨.len true (.t 17), (some 18), none⟩, ⟨.bin .gtr (.t 18) (.c (.int .i64 300)), (some 19), none⟩]) <|
  .cond (.t 19) (.seq (.region [⟨.mv (.c (.bool false)), (some 2), none⟩]) <|
  .ret) (.skip))) <|
  .region [⟨.mv (.t 3), (some 11), none⟩, ⟨.bin .add (.t 11) (.c (.int .i64 1)), (some 12), none⟩, ⟨.mv (.t 12), (some 3), none⟩]))) <|
  .seq (.region [⟨.mv (.c (.bool true)), (some 2), none⟩]) <|
  .ret
def a_law16_Row_Few : AFunc := ⟨20, [.tmp 2], b_law16_Row_Few⟩
theorem a_law16_Row_Few_ok : compileF Tryz.prog h_law16_Row_Few Tryz.f21 = some a_law16_Row_Few := by kernel_rfl
theorem of_law16_Row_Few {args : List AV} {σ : Store} {R : Out → Store → Prop} (hl : args.length ≤ 20) (h : WpR Tryz.prog b_law16_Row_Few [.tmp 2] args σ R) : CallA Tryz.prog n_law16_Row_Few args σ R := CallA.of_wp Tryz.func21 (by kernel_rfl) a_law16_Row_Few_ok hl h.go
def h_entry_Bytes : Hints := ⟨[], [], [], [], [], []⟩
def b_entry_Bytes : ACode := .seq (.region [⟨.box (.t 0), (some 1), none⟩, ⟨.mv (.c (.str [])), (some 2), none⟩, ⟨.mv (.c (.int .i64 0)), (some 3), none⟩]) <|
  .seq (.seq (.region [⟨.load true 6 (.t 1), (some 5), none⟩, ⟨.call false (.c (.fn (.func n_entry_Check) [] [])) [(.t 5)], (some 6), none⟩, ⟨.mv (.t 6), (some 4), none⟩]) <|
  .seq (.region [⟨.mv (.t 4), (some 7), none⟩, ⟨.bin .neq (.t 7) (.c (.int .i64 0)), (some 8), none⟩]) <|
  .cond (.t 8) (.seq (.region [⟨.mv (.t 4), (some 9), none⟩, ⟨.mv (.c (.str [])), (some 2), none⟩, ⟨.mv (.t 9), (some 3), none⟩]) <|
  .ret) (.skip)) <|
  .seq (.region [⟨.load true 6 (.t 1), (some 10), none⟩, ⟨.call false (.c (.fn (.func n_entry_text) [] [])) [(.t 10)], (some 11), none⟩, ⟨.mv (.t 11), (some 2), none⟩, ⟨.mv (.c (.int .i64 0)), (some 3), none⟩]) <|
  .ret
def a_entry_Bytes : AFunc := ⟨12, [.tmp 2, .tmp 3], b_entry_Bytes⟩
theorem a_entry_Bytes_ok : compileF Tryz.prog h_entry_Bytes Tryz.f30 = some a_entry_Bytes := by kernel_rfl
theorem of_entry_Bytes {args : List AV} {σ : Store} {R : Out → Store → Prop} (hl : args.length ≤ 12) (h : WpR Tryz.prog b_entry_Bytes [.tmp 2, .tmp 3] args σ R) : CallA Tryz.prog n_entry_Bytes args σ R := CallA.of_wp Tryz.func30 (by kernel_rfl) a_entry_Bytes_ok hl h.go
def h_lex_Name : Hints := ⟨[], [], [], [], [], []⟩
def b_lex_Name : ACode := .seq (.region [⟨.mv (.c (.bool false)), (some 2), none⟩]) <|
  .seq (.region [⟨.mv (.t 0), (some 3), none⟩, ⟨.bin .neq (.t 3) (.c (.str [])), (some 4), none⟩, ⟨.mv (.t 4), (some 5), none⟩, ⟨.mv (.t 0), (some 6), some (5, true)⟩, ⟨.call false (.c (.fn (.func n_lex_word) [] [])) [(.t 6)], (some 7), some (5, true)⟩, ⟨.mv (.t 0), (some 8), some (5, true)⟩, ⟨.len true (.t 8), (some 9), some (5, true)⟩, ⟨.bin .eql (.t 7) (.t 9), (some 10), some (5, true)⟩, ⟨.pick (.t 5) (.t 10) (.c (.bool false)), (some 11), none⟩, ⟨.mv (.t 11), (some 12), none⟩, ⟨.mv (.t 0), (some 13), some (12, true)⟩, ⟨.len true (.t 13), (some 14), some (12, true)⟩, ⟨.bin .leq (.t 14) (.c (.int .i64 16)), (some 15), some (12, true)⟩, ⟨.pick (.t 12) (.t 15) (.c (.bool false)), (some 16), none⟩, ⟨.mv (.t 16), (some 17), none⟩, ⟨.mv (.t 0), (some 18), some (17, true)⟩, ⟨.call false (.c (.fn (.func n_lex_reserved) [] [])) [(.t 18)], (some 19), some (17, true)⟩, ⟨.un .not (.t 19), (some 20), some (17, true)⟩, ⟨.pick (.t 17) (.t 20) (.c (.bool false)), (some 21), none⟩, ⟨.mv (.t 21), (some 2), none⟩]) <|
  .ret
def a_lex_Name : AFunc := ⟨22, [.tmp 2], b_lex_Name⟩
theorem a_lex_Name_ok : compileF Tryz.prog h_lex_Name Tryz.f45 = some a_lex_Name := by kernel_rfl
theorem of_lex_Name {args : List AV} {σ : Store} {R : Out → Store → Prop} (hl : args.length ≤ 22) (h : WpR Tryz.prog b_lex_Name [.tmp 2] args σ R) : CallA Tryz.prog n_lex_Name args σ R := CallA.of_wp Tryz.func45 (by kernel_rfl) a_lex_Name_ok hl h.go
def h_octet_Num : Hints := ⟨[], [], [], [], [], []⟩
def b_octet_Num : ACode := .seq (.region [⟨.mv (.c (.str [])), (some 2), none⟩]) <|
  .seq (.region [⟨.mv (.t 0), (some 5), none⟩, ⟨.call false (.c (.fn (.func n_octet_code) [] [])) [(.t 5)], (some 6), none⟩, ⟨.mv (.t 6), (some 3), none⟩]) <|
  .seq (.region [⟨.mkslice ⟨false, 1⟩ (.int .u8 0) (.c (.int .i64 0)) (.c (.int .i64 10)), (some 7), none⟩, ⟨.mv (.t 7), (some 4), none⟩]) <|
  .seq (.block 0 (.loop (.seq (.seq (.region [⟨.mv (.t 3), (some 8), none⟩, ⟨.bin .geq (.t 8) (.c (.int .u64 128)), (some 9), none⟩]) <|
  .cond (.t 9) (.skip) (.exit 0)) <|
  .block 1 (.seq (.region [⟨.mv (.t 4), (some 10), none⟩, ⟨.mv (.t 3), (some 11), none⟩, ⟨.call false (.c (.fn (.func n_octet_low_uint64) [] [])) [(.t 11)], (some 12), none⟩, ⟨.bin .or (.t 12) (.c (.int .u8 128)), (some 13), none⟩, ⟨.bslice false ⟨false, 1⟩ (.int .u8 0) 1 [(0, (.t 13))], (some 14), none⟩, ⟨.app none ⟨false, 1⟩ (.t 10) (.t 14), (some 15), none⟩, ⟨.mv (.t 15), (some 4), none⟩]) <|
  .region [⟨.mv (.t 3), (some 16), none⟩, ⟨.bin .shr (.t 16) (.c (.int .u64 7)), (some 17), none⟩, ⟨.mv (.t 17), (some 3), none⟩])))) <|
  .seq (.region [⟨.mv (.t 4), (some 18), none⟩, ⟨.mv (.t 3), (some 19), none⟩, ⟨.call false (.c (.fn (.func n_octet_low_uint64) [] [])) [(.t 19)], (some 20), none⟩, ⟨.bslice false ⟨false, 1⟩ (.int .u8 0) 1 [(0, (.t 20))], (some 21), none⟩, ⟨.app none ⟨false, 1⟩ (.t 18) (.t 21), (some 22), none⟩, ⟨.b2s (.t 22), (some 23), none⟩, ⟨.mv (.t 23), (some 2), none⟩]) <|
  .ret
def a_octet_Num : AFunc := ⟨24, [.tmp 2], b_octet_Num⟩
theorem a_octet_Num_ok : compileF Tryz.prog h_octet_Num Tryz.f55 = some a_octet_Num := by kernel_rfl
theorem of_octet_Num {args : List AV} {σ : Store} {R : Out → Store → Prop} (hl : args.length ≤ 24) (h : WpR Tryz.prog b_octet_Num [.tmp 2] args σ R) : CallA Tryz.prog n_octet_Num args σ R := CallA.of_wp Tryz.func55 (by kernel_rfl) a_octet_Num_ok hl h.go
def h_entry_Check : Hints := ⟨[], [], [], [], [], []⟩
def b_entry_Check : ACode := .seq (.region [⟨.box (.t 0), (some 1), none⟩, ⟨.mv (.c (.int .i64 0)), (some 2), none⟩]) <|
  .seq (.block 0 (.seq (.region [⟨.load true 6 (.t 1), (some 4), none⟩, ⟨.call false (.c (.fn (.func n_entry_right) [] [])) [(.t 4)], (some 5), none⟩, ⟨.un .not (.t 5), (some 6), none⟩, ⟨.mv (.t 6), (some 3), none⟩]) <|
  .cond (.t 3) (.seq (.region [⟨.mv (.c (.int .i64 2)), (some 2), none⟩]) <|
  .ret) (.seq (.region [⟨.load true 6 (.t 1), (some 8), none⟩, ⟨.call false (.c (.fn (.func n_entry_text) [] [])) [(.t 8)], (some 9), none⟩, ⟨.len true (.t 9), (some 10), none⟩, ⟨.bin .gtr (.t 10) (.c (.int .i64 1400)), (some 11), none⟩, ⟨.mv (.t 11), (some 7), none⟩]) <|
  .cond (.t 7) (.seq (.region [⟨.mv (.c (.int .i64 5)), (some 2), none⟩]) <|
  .ret) (.skip)))) <|
  .seq (.region [⟨.mv (.c (.int .i64 0)), (some 2), none⟩]) <|
  .ret
def a_entry_Check : AFunc := ⟨12, [.tmp 2], b_entry_Check⟩
theorem a_entry_Check_ok : compileF Tryz.prog h_entry_Check Tryz.f79 = some a_entry_Check := by kernel_rfl
theorem of_entry_Check {args : List AV} {σ : Store} {R : Out → Store → Prop} (hl : args.length ≤ 12) (h : WpR Tryz.prog b_entry_Check [.tmp 2] args σ R) : CallA Tryz.prog n_entry_Check args σ R := CallA.of_wp Tryz.func79 (by kernel_rfl) a_entry_Check_ok hl h.go
def h_entry_text : Hints := ⟨[], [], [], [], [], []⟩
def b_entry_text : ACode := .seq (.region [⟨.box (.t 0), (some 1), none⟩, ⟨.mv (.c (.str [])), (some 2), none⟩]) <|
  .seq (.draw [⟨.faddr 0 (.t 1), (some 9), none⟩, ⟨.load false 1 (.t 9), (some 10), none⟩, ⟨.call true (.c (.fn (.func n_octet_Text) [] [])) [(.t 10)], (some 11), none⟩, ⟨.faddr 1 (.t 1), (some 12), none⟩, ⟨.load false 1 (.t 12), (some 13), none⟩, ⟨.call true (.c (.fn (.func n_octet_Num) [] [])) [(.t 13)], (some 14), none⟩, ⟨.bin .add (.t 11) (.t 14), (some 15), none⟩, ⟨.alloc none [(.str [])], (some 3), none⟩, ⟨.store 1 (.t 3) (.t 15), none, none⟩] []) <|
  .seq (.region [⟨.mkfn (.func n_entry_text_1) [] [(.t 3)], (some 16), none⟩, ⟨.mv (.t 16), (some 4), none⟩]) <|
  .seq (.region [⟨.mv (.t 4), (some 17), none⟩, ⟨.faddr 2 (.t 1), (some 18), none⟩, ⟨.load false 1 (.t 18), (some 19), none⟩, ⟨.call false (.t 17) [(.t 19)], (some 20), none⟩]) <|
  .seq (.draw [⟨.load false 1 (.t 3), (some 21), none⟩, ⟨.faddr 3 (.t 1), (some 22), none⟩, ⟨.faddr 0 (.t 22), (some 23), none⟩, ⟨.load false 1 (.t 23), (some 24), none⟩, ⟨.call true (.c (.fn (.func n_octet_Num) [] [])) [(.t 24)], (some 25), none⟩, ⟨.faddr 3 (.t 1), (some 26), none⟩, ⟨.faddr 1 (.t 26), (some 27), none⟩, ⟨.load false 1 (.t 27), (some 28), none⟩, ⟨.len false (.t 28), (some 29), none⟩, ⟨.call true (.c (.fn (.func n_octet_Num) [] [])) [(.t 29)], (some 30), none⟩, ⟨.bin .add (.t 25) (.t 30), (some 31), none⟩, ⟨.bin .add (.t 21) (.t 31), (some 32), none⟩, ⟨.store 1 (.t 3) (.t 32), none, none⟩] []) <|
  .seq (.seq (.region [⟨.faddr 3 (.t 1), (some 33), none⟩, ⟨.faddr 1 (.t 33), (some 34), none⟩, ⟨.load false 1 (.t 34), (some 35), none⟩, ⟨.len false (.t 35), (some 36), none⟩, ⟨.mv (.c (.int .i64 0)), (some 37), none⟩]) <|
  .block 0 (.loop (.seq (.region [⟨.bin .lss (.t 37) (.t 36), (some 38), none⟩]) <|
  .seq (.cond (.t 38) (.skip) (.exit 0)) <|
  .seq (.block 1 (.seq (.region [⟨.iaddr ⟨false, 1⟩ none (.t 35) (.t 37), (some 39), none⟩, ⟨.load false 1 (.t 39), (some 40), none⟩, ⟨.mv (.t 40), (some 6), none⟩]) <|
  .draw [⟨.load false 1 (.t 3), (some 41), none⟩, ⟨.mv (.t 6), (some 42), none⟩, ⟨.call true (.c (.fn (.func n_octet_Num) [] [])) [(.t 42)], (some 43), none⟩, ⟨.bin .add (.t 41) (.t 43), (some 44), none⟩, ⟨.store 1 (.t 3) (.t 44), none, none⟩] [])) <|
  .region [⟨.bin .add (.t 37) (.c (.int .i64 1)), (some 45), none⟩, ⟨.mv (.t 45), (some 37), none⟩]))) <|
  .seq (.draw [⟨.load false 1 (.t 3), (some 46), none⟩, ⟨.faddr 3 (.t 1), (some 47), none⟩, ⟨.faddr 2 (.t 47), (some 48), none⟩, ⟨.load false 1 (.t 48), (some 49), none⟩, ⟨.len false (.t 49), (some 50), none⟩, ⟨.call true (.c (.fn (.func n_octet_Num) [] [])) [(.t 50)], (some 51), none⟩, ⟨.bin .add (.t 46) (.t 51), (some 52), none⟩, ⟨.store 1 (.t 3) (.t 52), none, none⟩] []) <|
  .seq (.seq (.region [⟨.faddr 3 (.t 1), (some 53), none⟩, ⟨.faddr 2 (.t 53), (some 54), none⟩, ⟨.load false 1 (.t 54), (some 55), none⟩, ⟨.len false (.t 55), (some 56), none⟩, ⟨.mv (.c (.int .i64 0)), (some 57), none⟩]) <|
  .block 2 (.loop (.seq (.region [⟨.bin .lss (.t 57) (.t 56), (some 58), none⟩]) <|
  .seq (.cond (.t 58) (.skip) (.exit 2)) <|
  .seq (.block 3 (.seq (.region [⟨.iaddr ⟨false, 1⟩ none (.t 55) (.t 57), (some 59), none⟩, ⟨.load false 1 (.t 59), (some 60), none⟩, ⟨.mv (.t 60), (some 8), none⟩]) <|
  .region [⟨.mv (.t 4), (some 61), none⟩, ⟨.mv (.t 8), (some 62), none⟩, ⟨.call false (.t 61) [(.t 62)], (some 63), none⟩])) <|
  .region [⟨.bin .add (.t 57) (.c (.int .i64 1)), (some 64), none⟩, ⟨.mv (.t 64), (some 57), none⟩]))) <|
  .seq (.region [⟨.load false 1 (.t 3), (some 65), none⟩, ⟨.mv (.t 65), (some 2), none⟩]) <|
  .ret
def a_entry_text : AFunc := ⟨66, [.tmp 2], b_entry_text⟩
theorem a_entry_text_ok : compileF Tryz.prog h_entry_text Tryz.f80 = some a_entry_text := by kernel_rfl
theorem of_entry_text {args : List AV} {σ : Store} {R : Out → Store → Prop} (hl : args.length ≤ 66) (h : WpR Tryz.prog b_entry_text [.tmp 2] args σ R) : CallA Tryz.prog n_entry_text args σ R := CallA.of_wp Tryz.func80 (by kernel_rfl) a_entry_text_ok hl h.go
def h_lex_word : Hints := ⟨[], [], [], [], [], []⟩
def b_lex_word : ACode := .seq (.region [⟨.mv (.c (.int .i64 0)), (some 2), none⟩]) <|
  .seq (.seq (.region [⟨.mv (.t 0), (some 3), none⟩, ⟨.bin .eql (.t 3) (.c (.str [])), (some 4), none⟩, ⟨.mv (.t 4), (some 5), none⟩, ⟨.mv (.t 0), (some 6), some (5, false)⟩, ⟨.idxS (.t 6) (.c (.int .i64 0)), (some 7), some (5, false)⟩, ⟨.call false (.c (.fn (.func n_lex_letter) [] [])) [(.t 7)], (some 8), some (5, false)⟩, ⟨.un .not (.t 8), (some 9), some (5, false)⟩, ⟨.pick (.t 5) (.c (.bool true)) (.t 9), (some 10), none⟩]) <|
  .cond (.t 10) (.seq (.region [⟨.mv (.c (.int .i64 0)), (some 2), none⟩]) <|
  .ret) (.skip)) <|
  .seq (.region [⟨.mv (.t 0), (some 11), none⟩, ⟨.call false (.c (.fn (.func n_lex_run) [] [])) [(.t 11), (.c (.fn (.func n_lex_word_1) [] []))], (some 12), none⟩, ⟨.mv (.t 12), (some 2), none⟩]) <|
  .ret
def a_lex_word : AFunc := ⟨13, [.tmp 2], b_lex_word⟩
theorem a_lex_word_ok : compileF Tryz.prog h_lex_word Tryz.f97 = some a_lex_word := by kernel_rfl
theorem of_lex_word {args : List AV} {σ : Store} {R : Out → Store → Prop} (hl : args.length ≤ 13) (h : WpR Tryz.prog b_lex_word [.tmp 2] args σ R) : CallA Tryz.prog n_lex_word args σ R := CallA.of_wp Tryz.func97 (by kernel_rfl) a_lex_word_ok hl h.go
def h_lex_reserved : Hints := ⟨[], [], [], [], [], []⟩
def b_lex_reserved : ACode := .seq (.region [⟨.mv (.c (.bool false)), (some 2), none⟩]) <|
  .seq (.seq (.region [⟨.mv (.t 0), (some 3), none⟩]) <|
  .block 0 (.seq (.seq (.region [⟨.bin .eql (.t 3) (.c (.str [97, 110, 100])), (some 5), none⟩, ⟨.mv (.t 5), (some 4), none⟩]) <|
  .cond (.t 4) (.skip) (.seq (.region [⟨.bin .eql (.t 3) (.c (.str [111, 114])), (some 6), none⟩, ⟨.mv (.t 6), (some 4), none⟩]) <|
  .cond (.t 4) (.skip) (.seq (.region [⟨.bin .eql (.t 3) (.c (.str [110, 111, 116])), (some 7), none⟩, ⟨.mv (.t 7), (some 4), none⟩]) <|
  .cond (.t 4) (.skip) (.seq (.region [⟨.bin .eql (.t 3) (.c (.str [105, 102])), (some 8), none⟩, ⟨.mv (.t 8), (some 4), none⟩]) <|
  .cond (.t 4) (.skip) (.seq (.region [⟨.bin .eql (.t 3) (.c (.str [116, 104, 101, 110])), (some 9), none⟩, ⟨.mv (.t 9), (some 4), none⟩]) <|
  .cond (.t 4) (.skip) (.seq (.region [⟨.bin .eql (.t 3) (.c (.str [101, 108, 115, 101])), (some 10), none⟩, ⟨.mv (.t 10), (some 4), none⟩]) <|
  .cond (.t 4) (.skip) (.seq (.region [⟨.bin .eql (.t 3) (.c (.str [116, 114, 117, 101])), (some 11), none⟩, ⟨.mv (.t 11), (some 4), none⟩]) <|
  .cond (.t 4) (.skip) (.seq (.region [⟨.bin .eql (.t 3) (.c (.str [102, 97, 108, 115, 101])), (some 12), none⟩, ⟨.mv (.t 12), (some 4), none⟩]) <|
  .cond (.t 4) (.skip) (.region [⟨.bin .eql (.t 3) (.c (.str [110, 117, 108, 108])), (some 13), none⟩, ⟨.mv (.t 13), (some 4), none⟩]))))))))) <|
  .cond (.t 4) (.seq (.region [⟨.mv (.c (.bool true)), (some 2), none⟩]) <|
  .ret) (.skip))) <|
  .seq (.region [⟨.mv (.c (.bool false)), (some 2), none⟩]) <|
  .ret
def a_lex_reserved : AFunc := ⟨14, [.tmp 2], b_lex_reserved⟩
theorem a_lex_reserved_ok : compileF Tryz.prog h_lex_reserved Tryz.f98 = some a_lex_reserved := by kernel_rfl
theorem of_lex_reserved {args : List AV} {σ : Store} {R : Out → Store → Prop} (hl : args.length ≤ 14) (h : WpR Tryz.prog b_lex_reserved [.tmp 2] args σ R) : CallA Tryz.prog n_lex_reserved args σ R := CallA.of_wp Tryz.func98 (by kernel_rfl) a_lex_reserved_ok hl h.go
def h_octet_Text : Hints := ⟨[], [], [], [], [], []⟩
def b_octet_Text : ACode := .seq (.region [⟨.mv (.c (.str [])), (some 2), none⟩]) <|
  .seq (.region [⟨.mv (.t 0), (some 3), none⟩, ⟨.len true (.t 3), (some 4), none⟩, ⟨.call false (.c (.fn (.func n_octet_Num) [] [])) [(.t 4)], (some 5), none⟩, ⟨.mv (.t 0), (some 6), none⟩, ⟨.bin .add (.t 5) (.t 6), (some 7), none⟩, ⟨.mv (.t 7), (some 2), none⟩]) <|
  .ret
def a_octet_Text : AFunc := ⟨8, [.tmp 2], b_octet_Text⟩
theorem a_octet_Text_ok : compileF Tryz.prog h_octet_Text Tryz.f116 = some a_octet_Text := by kernel_rfl
theorem of_octet_Text {args : List AV} {σ : Store} {R : Out → Store → Prop} (hl : args.length ≤ 8) (h : WpR Tryz.prog b_octet_Text [.tmp 2] args σ R) : CallA Tryz.prog n_octet_Text args σ R := CallA.of_wp Tryz.func116 (by kernel_rfl) a_octet_Text_ok hl h.go
def h_octet_code : Hints := ⟨[], [], [], [], [], []⟩
def b_octet_code : ACode := .seq (.region [⟨.mv (.c (.int .u64 0)), (some 2), none⟩]) <|
  .seq (.region [⟨.mv (.t 0), (some 3), none⟩, ⟨.cint .u64 (.t 3), (some 4), none⟩, ⟨.bin .shl (.t 4) (.c (.int .u64 1)), (some 5), none⟩, ⟨.mv (.t 0), (some 6), none⟩, ⟨.bin .shr (.t 6) (.c (.int .u64 63)), (some 7), none⟩, ⟨.cint .u64 (.t 7), (some 8), none⟩, ⟨.bin .xor (.t 5) (.t 8), (some 9), none⟩, ⟨.mv (.t 9), (some 2), none⟩]) <|
  .ret
def a_octet_code : AFunc := ⟨10, [.tmp 2], b_octet_code⟩
theorem a_octet_code_ok : compileF Tryz.prog h_octet_code Tryz.f121 = some a_octet_code := by kernel_rfl
theorem of_octet_code {args : List AV} {σ : Store} {R : Out → Store → Prop} (hl : args.length ≤ 10) (h : WpR Tryz.prog b_octet_code [.tmp 2] args σ R) : CallA Tryz.prog n_octet_code args σ R := CallA.of_wp Tryz.func121 (by kernel_rfl) a_octet_code_ok hl h.go
def h_octet_low_uint64 : Hints := ⟨[], [], [], [], [], []⟩
def b_octet_low_uint64 : ACode := .seq (.region [⟨.mv (.c (.int .u8 0)), (some 2), none⟩]) <|
  .seq (.region [⟨.mv (.t 0), (some 3), none⟩, ⟨.cint .u8 (.t 3), (some 4), none⟩, ⟨.bin .and (.t 4) (.c (.int .u8 127)), (some 5), none⟩, ⟨.mv (.t 5), (some 2), none⟩]) <|
  .ret
def a_octet_low_uint64 : AFunc := ⟨6, [.tmp 2], b_octet_low_uint64⟩
theorem a_octet_low_uint64_ok : compileF Tryz.prog h_octet_low_uint64 Tryz.f122 = some a_octet_low_uint64 := by kernel_rfl
theorem of_octet_low_uint64 {args : List AV} {σ : Store} {R : Out → Store → Prop} (hl : args.length ≤ 6) (h : WpR Tryz.prog b_octet_low_uint64 [.tmp 2] args σ R) : CallA Tryz.prog n_octet_low_uint64 args σ R := CallA.of_wp Tryz.func122 (by kernel_rfl) a_octet_low_uint64_ok hl h.go
def h_entry_right : Hints := ⟨[], [], [], [], [], []⟩
def b_entry_right : ACode := .seq (.region [⟨.box (.t 0), (some 1), none⟩, ⟨.mv (.c (.bool false)), (some 2), none⟩]) <|
  .seq (.block 0 (.seq (.region [⟨.faddr 0 (.t 1), (some 4), none⟩, ⟨.load false 1 (.t 4), (some 5), none⟩, ⟨.call false (.c (.fn (.func n_lex_Name) [] [])) [(.t 5)], (some 6), none⟩, ⟨.un .not (.t 6), (some 7), none⟩, ⟨.mv (.t 7), (some 8), none⟩, ⟨.faddr 1 (.t 1), (some 9), some (8, false)⟩, ⟨.load false 1 (.t 9), (some 10), some (8, false)⟩, ⟨.bin .lss (.t 10) (.c (.int .i64 1)), (some 11), some (8, false)⟩, ⟨.pick (.t 8) (.c (.bool true)) (.t 11), (some 12), none⟩, ⟨.mv (.t 12), (some 13), none⟩, ⟨.faddr 1 (.t 1), (some 14), some (13, false)⟩, ⟨.load false 1 (.t 14), (some 15), some (13, false)⟩, ⟨.bin .gtr (.t 15) (.c (.int .i64 2147483648)), (some 16), some (13, false)⟩, ⟨.pick (.t 13) (.c (.bool true)) (.t 16), (some 17), none⟩, ⟨.mv (.t 17), (some 3), none⟩]) <|
  .cond (.t 3) (.seq (.region [⟨.mv (.c (.bool false)), (some 2), none⟩]) <|
  .ret) (.seq (.region [⟨.faddr 3 (.t 1), (some 19), none⟩, ⟨.faddr 0 (.t 19), (some 20), none⟩, ⟨.load false 1 (.t 20), (some 21), none⟩, ⟨.bin .lss (.t 21) (.c (.int .i64 0)), (some 22), none⟩, ⟨.mv (.t 22), (some 23), none⟩, ⟨.faddr 3 (.t 1), (some 24), some (23, false)⟩, ⟨.faddr 0 (.t 24), (some 25), some (23, false)⟩, ⟨.load false 1 (.t 25), (some 26), some (23, false)⟩, ⟨.bin .gtr (.t 26) (.c (.int .i64 99)), (some 27), some (23, false)⟩, ⟨.pick (.t 23) (.c (.bool true)) (.t 27), (some 28), none⟩, ⟨.mv (.t 28), (some 29), none⟩, ⟨.faddr 3 (.t 1), (some 30), some (29, false)⟩, ⟨.faddr 1 (.t 30), (some 31), some (29, false)⟩, ⟨.load false 1 (.t 31), (some 32), some (29, false)⟩, ⟨.call false (.c (.fn (.func n_entry_rising) [] [])) [(.t 32)], (some 33), some (29, false)⟩, ⟨.un .not (.t 33), (some 34), some (29, false)⟩, ⟨.pick (.t 29) (.c (.bool true)) (.t 34), (some 35), none⟩, ⟨.mv (.t 35), (some 36), none⟩, ⟨.faddr 3 (.t 1), (some 37), some (36, false)⟩, ⟨.faddr 2 (.t 37), (some 38), some (36, false)⟩, ⟨.load false 1 (.t 38), (some 39), some (36, false)⟩, ⟨.len false (.t 39), (some 40), some (36, false)⟩, ⟨.bin .gtr (.t 40) (.c (.int .i64 24)), (some 41), some (36, false)⟩, ⟨.pick (.t 36) (.c (.bool true)) (.t 41), (some 42), none⟩, ⟨.mv (.t 42), (some 18), none⟩]) <|
  .cond (.t 18) (.seq (.region [⟨.mv (.c (.bool false)), (some 2), none⟩]) <|
  .ret) (.skip)))) <|
  .seq (.region [⟨.faddr 2 (.t 1), (some 43), none⟩, ⟨.load false 1 (.t 43), (some 44), none⟩, ⟨.call false (.c (.fn (.func n_entry_plain) [] [])) [(.t 44)], (some 45), none⟩, ⟨.mv (.t 45), (some 46), none⟩, ⟨.faddr 3 (.t 1), (some 47), some (46, true)⟩, ⟨.faddr 2 (.t 47), (some 48), some (46, true)⟩, ⟨.load false 1 (.t 48), (some 49), some (46, true)⟩, ⟨.call false (.c (.fn (.func n_slices_ContainsFunc_LValue) [] [])) [(.t 49), (.c (.fn (.func n_entry_right_1) [] []))], (some 50), some (46, true)⟩, ⟨.un .not (.t 50), (some 51), some (46, true)⟩, ⟨.pick (.t 46) (.t 51) (.c (.bool false)), (some 52), none⟩, ⟨.mv (.t 52), (some 2), none⟩]) <|
  .ret
def a_entry_right : AFunc := ⟨53, [.tmp 2], b_entry_right⟩
theorem a_entry_right_ok : compileF Tryz.prog h_entry_right Tryz.f156 = some a_entry_right := by kernel_rfl
theorem of_entry_right {args : List AV} {σ : Store} {R : Out → Store → Prop} (hl : args.length ≤ 53) (h : WpR Tryz.prog b_entry_right [.tmp 2] args σ R) : CallA Tryz.prog n_entry_right args σ R := CallA.of_wp Tryz.func156 (by kernel_rfl) a_entry_right_ok hl h.go
def h_entry_text_1 : Hints := ⟨[], [], [], [], [], []⟩
def b_entry_text_1 : ACode := .seq (.region [⟨.mv (.t 0), (some 6), none⟩, ⟨.call false (.c (.fn (.func n_value_Row) [] [])) [(.t 6)], (some 7), none⟩, ⟨.mv (.t 7), (some 5), none⟩, ⟨.ext (.t 5) 0, (some 8), none⟩, ⟨.ext (.t 5) 1, (some 9), none⟩, ⟨.mv (.t 8), (some 3), none⟩, ⟨.mv (.t 9), (some 4), none⟩]) <|
  .region [⟨.load false 1 (.t 1), (some 10), none⟩, ⟨.mv (.t 3), (some 11), none⟩, ⟨.bin .add (.t 10) (.t 11), (some 12), none⟩, ⟨.store 1 (.t 1) (.t 12), none, none⟩]
def a_entry_text_1 : AFunc := ⟨13, [], b_entry_text_1⟩
theorem a_entry_text_1_ok : compileF Tryz.prog h_entry_text_1 Tryz.f157 = some a_entry_text_1 := by kernel_rfl
theorem of_entry_text_1 {args : List AV} {σ : Store} {R : Out → Store → Prop} (hl : args.length ≤ 13) (h : WpR Tryz.prog b_entry_text_1 [] args σ R) : CallA Tryz.prog n_entry_text_1 args σ R := CallA.of_wp Tryz.func157 (by kernel_rfl) a_entry_text_1_ok hl h.go
def h_value_Row : Hints := ⟨[], [], [], [], [], []⟩
def b_value_Row : ACode := .seq (.region [⟨.mv (.c (.str [])), (some 2), none⟩, ⟨.mv (.c (.int .i64 0)), (some 3), none⟩]) <|
  .seq (.region [⟨.mv (.t 0), (some 9), none⟩, ⟨.len false (.t 9), (some 10), none⟩, ⟨.call false (.c (.fn (.func n_octet_Num) [] [])) [(.t 10)], (some 11), none⟩, ⟨.mv (.t 11), (some 4), none⟩]) <|
  .seq (.seq (.region [⟨.mv (.t 0), (some 12), none⟩, ⟨.len false (.t 12), (some 13), none⟩, ⟨.mv (.c (.int .i64 0)), (some 14), none⟩]) <|
  .block 0 (.loop (.seq (.region [⟨.bin .lss (.t 14) (.t 13), (some 15), none⟩]) <|
  .seq (.cond (.t 15) (.skip) (.exit 0)) <|
  .seq (.block 1 (.seq (.region [⟨.iaddr ⟨true, 3⟩ none (.t 12) (.t 14), (some 16), none⟩, ⟨.load true 3 (.t 16), (some 17), none⟩, ⟨.alloc none [(.int .i64 0), (.int .i64 0), (.str [])], (some 6), none⟩, ⟨.store 3 (.t 6) (.t 17), none, none⟩]) <|
  .seq (.region [⟨.load true 3 (.t 6), (some 19), none⟩, ⟨.call false (.c (.fn (.func n_value_Bytes) [] [])) [(.t 19)], (some 20), none⟩, ⟨.mv (.t 20), (some 18), none⟩, ⟨.ext (.t 18) 0, (some 21), none⟩, ⟨.ext (.t 18) 1, (some 22), none⟩, ⟨.mv (.t 21), (some 7), none⟩, ⟨.mv (.t 22), (some 8), none⟩]) <|
  .seq (.seq (.region [⟨.mv (.t 8), (some 23), none⟩, ⟨.bin .neq (.t 23) (.c (.int .i64 0)), (some 24), none⟩]) <|
  .cond (.t 24) (.seq (.region [⟨.mv (.t 8), (some 25), none⟩, ⟨.mv (.c (.str [])), (some 2), none⟩, ⟨.mv (.t 25), (some 3), none⟩]) <|
  .ret) (.skip)) <|
  .region [⟨.mv (.t 4), (some 26), none⟩, ⟨.mv (.t 7), (some 27), none⟩, ⟨.bin .add (.t 26) (.t 27), (some 28), none⟩, ⟨.mv (.t 28), (some 4), none⟩])) <|
  .region [⟨.bin .add (.t 14) (.c (.int .i64 1)), (some 29), none⟩, ⟨.mv (.t 29), (some 14), none⟩]))) <|
  .seq (.region [⟨.mv (.t 4), (some 30), none⟩, ⟨.mv (.t 30), (some 2), none⟩, ⟨.mv (.c (.int .i64 0)), (some 3), none⟩]) <|
  .ret
def a_value_Row : AFunc := ⟨31, [.tmp 2, .tmp 3], b_value_Row⟩
theorem a_value_Row_ok : compileF Tryz.prog h_value_Row Tryz.f158 = some a_value_Row := by kernel_rfl
theorem of_value_Row {args : List AV} {σ : Store} {R : Out → Store → Prop} (hl : args.length ≤ 31) (h : WpR Tryz.prog b_value_Row [.tmp 2, .tmp 3] args σ R) : CallA Tryz.prog n_value_Row args σ R := CallA.of_wp Tryz.func158 (by kernel_rfl) a_value_Row_ok hl h.go
def h_lex_letter : Hints := ⟨[], [], [], [], [], []⟩
def b_lex_letter : ACode := .seq (.region [⟨.mv (.c (.bool false)), (some 2), none⟩]) <|
  .seq (.region [⟨.mv (.t 0), (some 3), none⟩, ⟨.bin .or (.t 3) (.c (.int .u8 32)), (some 4), none⟩, ⟨.bin .geq (.t 4) (.c (.int .u8 97)), (some 5), none⟩, ⟨.mv (.t 5), (some 6), none⟩, ⟨.mv (.t 0), (some 7), some (6, true)⟩, ⟨.bin .or (.t 7) (.c (.int .u8 32)), (some 8), some (6, true)⟩, ⟨.bin .leq (.t 8) (.c (.int .u8 122)), (some 9), some (6, true)⟩, ⟨.pick (.t 6) (.t 9) (.c (.bool false)), (some 10), none⟩, ⟨.mv (.t 10), (some 11), none⟩, ⟨.mv (.t 0), (some 12), some (11, false)⟩, ⟨.bin .eql (.t 12) (.c (.int .u8 95)), (some 13), some (11, false)⟩, ⟨.pick (.t 11) (.c (.bool true)) (.t 13), (some 14), none⟩, ⟨.mv (.t 14), (some 2), none⟩]) <|
  .ret
def a_lex_letter : AFunc := ⟨15, [.tmp 2], b_lex_letter⟩
theorem a_lex_letter_ok : compileF Tryz.prog h_lex_letter Tryz.f171 = some a_lex_letter := by kernel_rfl
theorem of_lex_letter {args : List AV} {σ : Store} {R : Out → Store → Prop} (hl : args.length ≤ 15) (h : WpR Tryz.prog b_lex_letter [.tmp 2] args σ R) : CallA Tryz.prog n_lex_letter args σ R := CallA.of_wp Tryz.func171 (by kernel_rfl) a_lex_letter_ok hl h.go
def h_lex_run : Hints := ⟨[], [], [], [], [], []⟩
def b_lex_run : ACode := .seq (.region [⟨.mv (.c (.int .i64 0)), (some 4), none⟩]) <|
  .seq (.seq (.region [⟨.mv (.t 0), (some 6), none⟩, ⟨.len true (.t 6), (some 7), none⟩, ⟨.mv (.c (.int .i64 0)), (some 8), none⟩]) <|
  .block 0 (.loop (.seq (.region [⟨.bin .lss (.t 8) (.t 7), (some 9), none⟩]) <|
  .seq (.cond (.t 9) (.skip) (.exit 0)) <|
  .seq (.block 1 (.seq (.region [⟨.mv (.t 8), (some 10), none⟩, ⟨.mv (.t 10), (some 5), none⟩]) <|
  .seq (.region [⟨.mv (.t 1), (some 11), none⟩, ⟨.mv (.t 0), (some 12), none⟩, ⟨.mv (.t 5), (some 13), none⟩, ⟨.idxS (.t 12) (.t 13), (some 14), none⟩, ⟨.call false (.t 11) [(.t 14)], (some 15), none⟩, ⟨.un .not (.t 15), (some 16), none⟩]) <|
  .cond (.t 16) (.seq (.region [⟨.mv (.t 5), (some 17), none⟩, ⟨.mv (.t 17), (some 4), none⟩]) <|
  .ret) (.skip))) <|
  .region [⟨.bin .add (.t 8) (.c (.int .i64 1)), (some 18), none⟩, ⟨.mv (.t 18), (some 8), none⟩]))) <|
  .seq (.region [⟨.mv (.t 0), (some 19), none⟩, ⟨.len true (.t 19), (some 20), none⟩, ⟨.mv (.t 20), (some 4), none⟩]) <|
  .ret
def a_lex_run : AFunc := ⟨21, [.tmp 4], b_lex_run⟩
theorem a_lex_run_ok : compileF Tryz.prog h_lex_run Tryz.f172 = some a_lex_run := by kernel_rfl
theorem of_lex_run {args : List AV} {σ : Store} {R : Out → Store → Prop} (hl : args.length ≤ 21) (h : WpR Tryz.prog b_lex_run [.tmp 4] args σ R) : CallA Tryz.prog n_lex_run args σ R := CallA.of_wp Tryz.func172 (by kernel_rfl) a_lex_run_ok hl h.go
def h_lex_word_1 : Hints := ⟨[], [], [], [], [], []⟩
def b_lex_word_1 : ACode := .seq (.region [⟨.mv (.c (.bool false)), (some 2), none⟩]) <|
  .seq (.region [⟨.mv (.t 0), (some 3), none⟩, ⟨.call false (.c (.fn (.func n_lex_letter) [] [])) [(.t 3)], (some 4), none⟩, ⟨.mv (.t 4), (some 5), none⟩, ⟨.mv (.t 0), (some 6), some (5, false)⟩, ⟨.call false (.c (.fn (.func n_lex_digit) [] [])) [(.t 6)], (some 7), some (5, false)⟩, ⟨.pick (.t 5) (.c (.bool true)) (.t 7), (some 8), none⟩, ⟨.mv (.t 8), (some 2), none⟩]) <|
  .ret
def a_lex_word_1 : AFunc := ⟨9, [.tmp 2], b_lex_word_1⟩
theorem a_lex_word_1_ok : compileF Tryz.prog h_lex_word_1 Tryz.f173 = some a_lex_word_1 := by kernel_rfl
theorem of_lex_word_1 {args : List AV} {σ : Store} {R : Out → Store → Prop} (hl : args.length ≤ 9) (h : WpR Tryz.prog b_lex_word_1 [.tmp 2] args σ R) : CallA Tryz.prog n_lex_word_1 args σ R := CallA.of_wp Tryz.func173 (by kernel_rfl) a_lex_word_1_ok hl h.go
def h_lex_digit : Hints := ⟨[], [], [], [], [], []⟩
def b_lex_digit : ACode := .seq (.region [⟨.mv (.c (.bool false)), (some 2), none⟩]) <|
  .seq (.region [⟨.mv (.t 0), (some 3), none⟩, ⟨.bin .geq (.t 3) (.c (.int .u8 48)), (some 4), none⟩, ⟨.mv (.t 4), (some 5), none⟩, ⟨.mv (.t 0), (some 6), some (5, true)⟩, ⟨.bin .leq (.t 6) (.c (.int .u8 57)), (some 7), some (5, true)⟩, ⟨.pick (.t 5) (.t 7) (.c (.bool false)), (some 8), none⟩, ⟨.mv (.t 8), (some 2), none⟩]) <|
  .ret
def a_lex_digit : AFunc := ⟨9, [.tmp 2], b_lex_digit⟩
theorem a_lex_digit_ok : compileF Tryz.prog h_lex_digit Tryz.f174 = some a_lex_digit := by kernel_rfl
theorem of_lex_digit {args : List AV} {σ : Store} {R : Out → Store → Prop} (hl : args.length ≤ 9) (h : WpR Tryz.prog b_lex_digit [.tmp 2] args σ R) : CallA Tryz.prog n_lex_digit args σ R := CallA.of_wp Tryz.func174 (by kernel_rfl) a_lex_digit_ok hl h.go
def h_entry_rising : Hints := ⟨[], [], [], [], [], []⟩
def b_entry_rising : ACode := .seq (.region [⟨.mv (.c (.bool false)), (some 2), none⟩]) <|
  .seq (.region [⟨.mv (.c (.int .i64 (-1))), (some 3), none⟩]) <|
  .seq (.seq (.region [⟨.mv (.t 0), (some 6), none⟩, ⟨.len false (.t 6), (some 7), none⟩, ⟨.mv (.c (.int .i64 0)), (some 8), none⟩]) <|
  .block 0 (.loop (.seq (.region [⟨.bin .lss (.t 8) (.t 7), (some 9), none⟩]) <|
  .seq (.cond (.t 9) (.skip) (.exit 0)) <|
  .seq (.block 1 (.seq (.region [⟨.iaddr ⟨false, 1⟩ none (.t 6) (.t 8), (some 10), none⟩, ⟨.load false 1 (.t 10), (some 11), none⟩, ⟨.mv (.t 11), (some 5), none⟩]) <|
  .seq (.seq (.region [⟨.mv (.t 5), (some 12), none⟩, ⟨.mv (.t 3), (some 13), none⟩, ⟨.bin .leq (.t 12) (.t 13), (some 14), none⟩, ⟨.mv (.t 14), (some 15), none⟩, ⟨.mv (.t 5), (some 16), some (15, false)⟩, ⟨.bin .geq (.t 16) (.c (.int .i64 24)), (some 17), some (15, false)⟩, ⟨.pick (.t 15) (.c (.bool true)) (.t 17), (some 18), none⟩]) <|
  .cond (.t 18) (.seq (.region [⟨.mv (.c (.bool false)), (some 2), none⟩]) <|
  .ret) (.skip)) <|
  .region [⟨.mv (.t 5), (some 19), none⟩, ⟨.mv (.t 19), (some 3), none⟩])) <|
  .region [⟨.bin .add (.t 8) (.c (.int .i64 1)), (some 20), none⟩, ⟨.mv (.t 20), (some 8), none⟩]))) <|
  .seq (.region [⟨.mv (.c (.bool true)), (some 2), none⟩]) <|
  .ret
def a_entry_rising : AFunc := ⟨21, [.tmp 2], b_entry_rising⟩
theorem a_entry_rising_ok : compileF Tryz.prog h_entry_rising Tryz.f234 = some a_entry_rising := by kernel_rfl
theorem of_entry_rising {args : List AV} {σ : Store} {R : Out → Store → Prop} (hl : args.length ≤ 21) (h : WpR Tryz.prog b_entry_rising [.tmp 2] args σ R) : CallA Tryz.prog n_entry_rising args σ R := CallA.of_wp Tryz.func234 (by kernel_rfl) a_entry_rising_ok hl h.go
def h_entry_plain : Hints := ⟨[], [], [], [], [], []⟩
def b_entry_plain : ACode := .seq (.region [⟨.mv (.c (.bool false)), (some 2), none⟩]) <|
  .seq (.region [⟨.mv (.t 0), (some 3), none⟩, ⟨.len false (.t 3), (some 4), none⟩, ⟨.bin .leq (.t 4) (.c (.int .i64 6)), (some 5), none⟩, ⟨.mv (.t 5), (some 6), none⟩, ⟨.mv (.t 0), (some 7), some (6, true)⟩, ⟨.call false (.c (.fn (.func n_slices_ContainsFunc_Value) [] [])) [(.t 7), (.c (.fn (.func n_entry_plain_1) [] []))], (some 8), some (6, true)⟩, ⟨.un .not (.t 8), (some 9), some (6, true)⟩, ⟨.pick (.t 6) (.t 9) (.c (.bool false)), (some 10), none⟩, ⟨.mv (.t 10), (some 2), none⟩]) <|
  .ret
def a_entry_plain : AFunc := ⟨11, [.tmp 2], b_entry_plain⟩
theorem a_entry_plain_ok : compileF Tryz.prog h_entry_plain Tryz.f235 = some a_entry_plain := by kernel_rfl
theorem of_entry_plain {args : List AV} {σ : Store} {R : Out → Store → Prop} (hl : args.length ≤ 11) (h : WpR Tryz.prog b_entry_plain [.tmp 2] args σ R) : CallA Tryz.prog n_entry_plain args σ R := CallA.of_wp Tryz.func235 (by kernel_rfl) a_entry_plain_ok hl h.go
def h_slices_ContainsFunc_LValue : Hints := ⟨[], [], [], [], [], []⟩
def b_slices_ContainsFunc_LValue : ACode := .seq (.region [⟨.mv (.c (.bool false)), (some 4), none⟩]) <|
  .seq (.region [⟨.mv (.t 0), (some 5), none⟩, ⟨.mv (.t 1), (some 6), none⟩, ⟨.call false (.c (.fn (.func n_slices_IndexFunc_LValue) [] [])) [(.t 5), (.t 6)], (some 7), none⟩, ⟨.bin .geq (.t 7) (.c (.int .i64 0)), (some 8), none⟩, ⟨.mv (.t 8), (some 4), none⟩]) <|
  .ret
def a_slices_ContainsFunc_LValue : AFunc := ⟨9, [.tmp 4], b_slices_ContainsFunc_LValue⟩
theorem a_slices_ContainsFunc_LValue_ok : compileF Tryz.prog h_slices_ContainsFunc_LValue Tryz.f236 = some a_slices_ContainsFunc_LValue := by kernel_rfl
theorem of_slices_ContainsFunc_LValue {args : List AV} {σ : Store} {R : Out → Store → Prop} (hl : args.length ≤ 9) (h : WpR Tryz.prog b_slices_ContainsFunc_LValue [.tmp 4] args σ R) : CallA Tryz.prog n_slices_ContainsFunc_LValue args σ R := CallA.of_wp Tryz.func236 (by kernel_rfl) a_slices_ContainsFunc_LValue_ok hl h.go
def h_entry_right_1 : Hints := ⟨[], [], [], [], [], []⟩
def b_entry_right_1 : ACode := .seq (.region [⟨.mv (.c (.bool false)), (some 2), none⟩]) <|
  .seq (.region [⟨.mv (.t 0), (some 3), none⟩, ⟨.call false (.c (.fn (.func n_entry_plain) [] [])) [(.t 3)], (some 4), none⟩, ⟨.un .not (.t 4), (some 5), none⟩, ⟨.mv (.t 5), (some 2), none⟩]) <|
  .ret
def a_entry_right_1 : AFunc := ⟨6, [.tmp 2], b_entry_right_1⟩
theorem a_entry_right_1_ok : compileF Tryz.prog h_entry_right_1 Tryz.f237 = some a_entry_right_1 := by kernel_rfl
theorem of_entry_right_1 {args : List AV} {σ : Store} {R : Out → Store → Prop} (hl : args.length ≤ 6) (h : WpR Tryz.prog b_entry_right_1 [.tmp 2] args σ R) : CallA Tryz.prog n_entry_right_1 args σ R := CallA.of_wp Tryz.func237 (by kernel_rfl) a_entry_right_1_ok hl h.go
def h_value_Bytes : Hints := ⟨[], [], [], [], [], []⟩
def b_value_Bytes : ACode := .seq (.region [⟨.box (.t 0), (some 1), none⟩, ⟨.mv (.c (.str [])), (some 2), none⟩, ⟨.mv (.c (.int .i64 0)), (some 3), none⟩]) <|
  .seq (.seq (.region [⟨.load true 3 (.t 1), (some 6), none⟩, ⟨.call false (.c (.fn (.func n_value_Check) [] [])) [(.t 6)], (some 7), none⟩, ⟨.mv (.t 7), (some 4), none⟩]) <|
  .seq (.region [⟨.mv (.t 4), (some 8), none⟩, ⟨.bin .neq (.t 8) (.c (.int .i64 0)), (some 9), none⟩]) <|
  .cond (.t 9) (.seq (.region [⟨.mv (.t 4), (some 10), none⟩, ⟨.mv (.c (.str [])), (some 2), none⟩, ⟨.mv (.t 10), (some 3), none⟩]) <|
  .ret) (.skip)) <|
  .seq (.region [⟨.faddr 0 (.t 1), (some 11), none⟩, ⟨.load false 1 (.t 11), (some 12), none⟩, ⟨.call false (.c (.fn (.func n_octet_Num) [] [])) [(.t 12)], (some 13), none⟩, ⟨.mv (.t 13), (some 5), none⟩]) <|
  .seq (.seq (.region [⟨.faddr 0 (.t 1), (some 14), none⟩, ⟨.load false 1 (.t 14), (some 15), none⟩]) <|
  .block 0 (.seq (.region [⟨.bin .eql (.t 15) (.c (.int .i64 2)), (some 17), none⟩, ⟨.mv (.t 17), (some 16), none⟩]) <|
  .cond (.t 16) (.region [⟨.mv (.t 5), (some 18), none⟩, ⟨.faddr 2 (.t 1), (some 19), none⟩, ⟨.load false 1 (.t 19), (some 20), none⟩, ⟨.call false (.c (.fn (.func n_octet_Text) [] [])) [(.t 20)], (some 21), none⟩, ⟨.bin .add (.t 18) (.t 21), (some 22), none⟩, ⟨.mv (.t 22), (some 5), none⟩]) (.seq (.seq (.region [⟨.bin .eql (.t 15) (.c (.int .i64 1)), (some 24), none⟩, ⟨.mv (.t 24), (some 23), none⟩]) <|
  .cond (.t 23) (.skip) (.region [⟨.bin .eql (.t 15) (.c (.int .i64 3)), (some 25), none⟩, ⟨.mv (.t 25), (some 23), none⟩])) <|
  .cond (.t 23) (.region [⟨.mv (.t 5), (some 26), none⟩, ⟨.faddr 1 (.t 1), (some 27), none⟩, ⟨.load false 1 (.t 27), (some 28), none⟩, ⟨.call false (.c (.fn (.func n_octet_Num) [] [])) [(.t 28)], (some 29), none⟩, ⟨.bin .add (.t 26) (.t 29), (some 30), none⟩, ⟨.mv (.t 30), (some 5), none⟩]) (.skip)))) <|
  .seq (.region [⟨.mv (.t 5), (some 31), none⟩, ⟨.mv (.t 31), (some 2), none⟩, ⟨.mv (.c (.int .i64 0)), (some 3), none⟩]) <|
  .ret
def a_value_Bytes : AFunc := ⟨32, [.tmp 2, .tmp 3], b_value_Bytes⟩
theorem a_value_Bytes_ok : compileF Tryz.prog h_value_Bytes Tryz.f238 = some a_value_Bytes := by kernel_rfl
theorem of_value_Bytes {args : List AV} {σ : Store} {R : Out → Store → Prop} (hl : args.length ≤ 32) (h : WpR Tryz.prog b_value_Bytes [.tmp 2, .tmp 3] args σ R) : CallA Tryz.prog n_value_Bytes args σ R := CallA.of_wp Tryz.func238 (by kernel_rfl) a_value_Bytes_ok hl h.go
def h_value_Check : Hints := ⟨[], [], [], [], [], []⟩
def b_value_Check : ACode := .seq (.region [⟨.box (.t 0), (some 1), none⟩, ⟨.mv (.c (.int .i64 0)), (some 2), none⟩]) <|
  .seq (.region [⟨.mv (.c (.bool false)), (some 3), none⟩]) <|
  .seq (.seq (.region [⟨.faddr 0 (.t 1), (some 4), none⟩, ⟨.load false 1 (.t 4), (some 5), none⟩]) <|
  .block 0 (.seq (.region [⟨.bin .eql (.t 5) (.c (.int .i64 0)), (some 7), none⟩, ⟨.mv (.t 7), (some 6), none⟩]) <|
  .cond (.t 6) (.region [⟨.load true 3 (.t 1), (some 8), none⟩, ⟨.build [(.int .i64 0), (.int .i64 0), (.str [])] [], (some 9), none⟩, ⟨.eqf false true [.i, .i, .s] (.t 8) (.t 9), (some 10), none⟩, ⟨.mv (.t 10), (some 3), none⟩]) (.seq (.region [⟨.bin .eql (.t 5) (.c (.int .i64 1)), (some 12), none⟩, ⟨.mv (.t 12), (some 11), none⟩]) <|
  .cond (.t 11) (.region [⟨.faddr 2 (.t 1), (some 13), none⟩, ⟨.load false 1 (.t 13), (some 14), none⟩, ⟨.bin .eql (.t 14) (.c (.str [])), (some 15), none⟩, ⟨.mv (.t 15), (some 3), none⟩]) (.seq (.region [⟨.bin .eql (.t 5) (.c (.int .i64 2)), (some 17), none⟩, ⟨.mv (.t 17), (some 16), none⟩]) <|
  .cond (.t 16) (.region [⟨.faddr 1 (.t 1), (some 18), none⟩, ⟨.load false 1 (.t 18), (some 19), none⟩, ⟨.bin .eql (.t 19) (.c (.int .i64 0)), (some 20), none⟩, ⟨.mv (.t 20), (some 21), none⟩, ⟨.faddr 2 (.t 1), (some 22), some (21, true)⟩, ⟨.load false 1 (.t 22), (some 23), some (21, true)⟩, ⟨.call false (.c (.fn (.func n_value_plain) [] [])) [(.t 23)], (some 24), some (21, true)⟩, ⟨.pick (.t 21) (.t 24) (.c (.bool false)), (some 25), none⟩, ⟨.mv (.t 25), (some 3), none⟩]) (.seq (.region [⟨.bin .eql (.t 5) (.c (.int .i64 3)), (some 27), none⟩, ⟨.mv (.t 27), (some 26), none⟩]) <|
  .cond (.t 26) (.region [⟨.faddr 2 (.t 1), (some 28), none⟩, ⟨.load false 1 (.t 28), (some 29), none⟩, ⟨.bin .eql (.t 29) (.c (.str [])), (some 30), none⟩, ⟨.mv (.t 30), (some 31), none⟩, ⟨.faddr 1 (.t 1), (some 32), some (31, true)⟩, ⟨.load false 1 (.t 32), (some 33), some (31, true)⟩, ⟨.bin .andNot (.t 33) (.c (.int .i64 1)), (some 34), some (31, true)⟩, ⟨.bin .eql (.t 34) (.c (.int .i64 0)), (some 35), some (31, true)⟩, ⟨.pick (.t 31) (.t 35) (.c (.bool false)), (some 36), none⟩, ⟨.mv (.t 36), (some 3), none⟩]) (.skip)))))) <|
  .seq (.seq (.region [⟨.mv (.t 3), (some 37), none⟩, ⟨.un .not (.t 37), (some 38), none⟩]) <|
  .cond (.t 38) (.seq (.region [⟨.mv (.c (.int .i64 2)), (some 2), none⟩]) <|
  .ret) (.skip)) <|
  .seq (.region [⟨.mv (.c (.int .i64 0)), (some 2), none⟩]) <|
  .ret
def a_value_Check : AFunc := ⟨39, [.tmp 2], b_value_Check⟩
theorem a_value_Check_ok : compileF Tryz.prog h_value_Check Tryz.f274 = some a_value_Check := by kernel_rfl
theorem of_value_Check {args : List AV} {σ : Store} {R : Out → Store → Prop} (hl : args.length ≤ 39) (h : WpR Tryz.prog b_value_Check [.tmp 2] args σ R) : CallA Tryz.prog n_value_Check args σ R := CallA.of_wp Tryz.func274 (by kernel_rfl) a_value_Check_ok hl h.go
def h_slices_ContainsFunc_Value : Hints := ⟨[], [], [], [], [], []⟩
def b_slices_ContainsFunc_Value : ACode := .seq (.region [⟨.mv (.c (.bool false)), (some 4), none⟩]) <|
  .seq (.region [⟨.mv (.t 0), (some 5), none⟩, ⟨.mv (.t 1), (some 6), none⟩, ⟨.call false (.c (.fn (.func n_slices_IndexFunc_Value) [] [])) [(.t 5), (.t 6)], (some 7), none⟩, ⟨.bin .geq (.t 7) (.c (.int .i64 0)), (some 8), none⟩, ⟨.mv (.t 8), (some 4), none⟩]) <|
  .ret
def a_slices_ContainsFunc_Value : AFunc := ⟨9, [.tmp 4], b_slices_ContainsFunc_Value⟩
theorem a_slices_ContainsFunc_Value_ok : compileF Tryz.prog h_slices_ContainsFunc_Value Tryz.f315 = some a_slices_ContainsFunc_Value := by kernel_rfl
theorem of_slices_ContainsFunc_Value {args : List AV} {σ : Store} {R : Out → Store → Prop} (hl : args.length ≤ 9) (h : WpR Tryz.prog b_slices_ContainsFunc_Value [.tmp 4] args σ R) : CallA Tryz.prog n_slices_ContainsFunc_Value args σ R := CallA.of_wp Tryz.func315 (by kernel_rfl) a_slices_ContainsFunc_Value_ok hl h.go
def h_entry_plain_1 : Hints := ⟨[], [], [], [], [], []⟩
def b_entry_plain_1 : ACode := .seq (.region [⟨.box (.t 0), (some 1), none⟩, ⟨.mv (.c (.bool false)), (some 2), none⟩]) <|
  .seq (.region [⟨.load true 3 (.t 1), (some 3), none⟩, ⟨.call false (.c (.fn (.func n_value_Check) [] [])) [(.t 3)], (some 4), none⟩, ⟨.bin .neq (.t 4) (.c (.int .i64 0)), (some 5), none⟩, ⟨.mv (.t 5), (some 2), none⟩]) <|
  .ret
def a_entry_plain_1 : AFunc := ⟨6, [.tmp 2], b_entry_plain_1⟩
theorem a_entry_plain_1_ok : compileF Tryz.prog h_entry_plain_1 Tryz.f316 = some a_entry_plain_1 := by kernel_rfl
theorem of_entry_plain_1 {args : List AV} {σ : Store} {R : Out → Store → Prop} (hl : args.length ≤ 6) (h : WpR Tryz.prog b_entry_plain_1 [.tmp 2] args σ R) : CallA Tryz.prog n_entry_plain_1 args σ R := CallA.of_wp Tryz.func316 (by kernel_rfl) a_entry_plain_1_ok hl h.go
def h_slices_IndexFunc_LValue : Hints := ⟨[], [], [], [], [], []⟩
def b_slices_IndexFunc_LValue : ACode := .seq (.region [⟨.mv (.c (.int .i64 0)), (some 4), none⟩]) <|
  .seq (.seq (.region [⟨.mv (.t 0), (some 6), none⟩, ⟨.len false (.t 6), (some 7), none⟩, ⟨.mv (.c (.int .i64 0)), (some 8), none⟩]) <|
  .block 0 (.loop (.seq (.region [⟨.bin .lss (.t 8) (.t 7), (some 9), none⟩]) <|
  .seq (.cond (.t 9) (.skip) (.exit 0)) <|
  .seq (.block 1 (.seq (.region [⟨.mv (.t 8), (some 10), none⟩, ⟨.mv (.t 10), (some 5), none⟩]) <|
  .seq (.region [⟨.mv (.t 1), (some 11), none⟩, ⟨.mv (.t 0), (some 12), none⟩, ⟨.mv (.t 5), (some 13), none⟩, ⟨.iaddr ⟨false, 1⟩ none (.t 12) (.t 13), (some 14), none⟩, ⟨.load false 1 (.t 14), (some 15), none⟩, ⟨.call false (.t 11) [(.t 15)], (some 16), none⟩]) <|
  .cond (.t 16) (.seq (.region [⟨.mv (.t 5), (some 17), none⟩, ⟨.mv (.t 17), (some 4), none⟩]) <|
  .ret) (.skip))) <|
  .region [⟨.bin .add (.t 8) (.c (.int .i64 1)), (some 18), none⟩, ⟨.mv (.t 18), (some 8), none⟩]))) <|
  .seq (.region [⟨.mv (.c (.int .i64 (-1))), (some 4), none⟩]) <|
  .ret
def a_slices_IndexFunc_LValue : AFunc := ⟨19, [.tmp 4], b_slices_IndexFunc_LValue⟩
theorem a_slices_IndexFunc_LValue_ok : compileF Tryz.prog h_slices_IndexFunc_LValue Tryz.f317 = some a_slices_IndexFunc_LValue := by kernel_rfl
theorem of_slices_IndexFunc_LValue {args : List AV} {σ : Store} {R : Out → Store → Prop} (hl : args.length ≤ 19) (h : WpR Tryz.prog b_slices_IndexFunc_LValue [.tmp 4] args σ R) : CallA Tryz.prog n_slices_IndexFunc_LValue args σ R := CallA.of_wp Tryz.func317 (by kernel_rfl) a_slices_IndexFunc_LValue_ok hl h.go
def h_value_plain : Hints := ⟨[], [], [], [], [], []⟩
def b_value_plain : ACode := .seq (.region [⟨.mv (.c (.bool false)), (some 2), none⟩]) <|
  .seq (.seq (.region [⟨.mv (.t 0), (some 5), none⟩, ⟨.len true (.t 5), (some 6), none⟩, ⟨.bin .gtr (.t 6) (.c (.int .i64 40)), (some 7), none⟩]) <|
  .cond (.t 7) (.seq (.region [⟨.mv (.c (.bool false)), (some 2), none⟩]) <|
  .ret) (.skip)) <|
  .seq (.seq (.region [⟨.mv (.t 0), (some 8), none⟩, ⟨.rngS (.t 8), (some 9), none⟩]) <|
  .block 0 (.loop (.seq (.region [⟨.nxtS (.t 9), (some 10), none⟩, ⟨.ext (.t 10) 0, (some 11), none⟩]) <|
  .seq (.cond (.t 11) (.skip) (.exit 0)) <|
  .block 1 (.seq (.region [⟨.ext (.t 10) 2, (some 12), none⟩, ⟨.mv (.t 12), (some 4), none⟩]) <|
  .seq (.region [⟨.mv (.t 4), (some 13), none⟩, ⟨.bin .lss (.t 13) (.c (.int .i32 32)), (some 14), none⟩, ⟨.mv (.t 14), (some 15), none⟩, ⟨.mv (.t 4), (some 16), some (15, false)⟩, ⟨.bin .gtr (.t 16) (.c (.int .i32 126)), (some 17), some (15, false)⟩, ⟨.pick (.t 15) (.c (.bool true)) (.t 17), (some 18), none⟩]) <|
  .cond (.t 18) (.seq (.region [⟨.mv (.c (.bool false)), (some 2), none⟩]) <|
  .ret) (.skip))))) <|
  .seq (.region [⟨.mv (.c (.bool true)), (some 2), none⟩]) <|
  .ret
def a_value_plain : AFunc := ⟨19, [.tmp 2], b_value_plain⟩
theorem a_value_plain_ok : compileF Tryz.prog h_value_plain Tryz.f354 = some a_value_plain := by kernel_rfl
theorem of_value_plain {args : List AV} {σ : Store} {R : Out → Store → Prop} (hl : args.length ≤ 19) (h : WpR Tryz.prog b_value_plain [.tmp 2] args σ R) : CallA Tryz.prog n_value_plain args σ R := CallA.of_wp Tryz.func354 (by kernel_rfl) a_value_plain_ok hl h.go
def h_slices_IndexFunc_Value : Hints := ⟨[], [], [], [], [], []⟩
def b_slices_IndexFunc_Value : ACode := .seq (.region [⟨.mv (.c (.int .i64 0)), (some 4), none⟩]) <|
  .seq (.seq (.region [⟨.mv (.t 0), (some 6), none⟩, ⟨.len false (.t 6), (some 7), none⟩, ⟨.mv (.c (.int .i64 0)), (some 8), none⟩]) <|
  .block 0 (.loop (.seq (.region [⟨.bin .lss (.t 8) (.t 7), (some 9), none⟩]) <|
  .seq (.cond (.t 9) (.skip) (.exit 0)) <|
  .seq (.block 1 (.seq (.region [⟨.mv (.t 8), (some 10), none⟩, ⟨.mv (.t 10), (some 5), none⟩]) <|
  .seq (.region [⟨.mv (.t 1), (some 11), none⟩, ⟨.mv (.t 0), (some 12), none⟩, ⟨.mv (.t 5), (some 13), none⟩, ⟨.iaddr ⟨true, 3⟩ none (.t 12) (.t 13), (some 14), none⟩, ⟨.load true 3 (.t 14), (some 15), none⟩, ⟨.call false (.t 11) [(.t 15)], (some 16), none⟩]) <|
  .cond (.t 16) (.seq (.region [⟨.mv (.t 5), (some 17), none⟩, ⟨.mv (.t 17), (some 4), none⟩]) <|
  .ret) (.skip))) <|
  .region [⟨.bin .add (.t 8) (.c (.int .i64 1)), (some 18), none⟩, ⟨.mv (.t 18), (some 8), none⟩]))) <|
  .seq (.region [⟨.mv (.c (.int .i64 (-1))), (some 4), none⟩]) <|
  .ret
def a_slices_IndexFunc_Value : AFunc := ⟨19, [.tmp 4], b_slices_IndexFunc_Value⟩
theorem a_slices_IndexFunc_Value_ok : compileF Tryz.prog h_slices_IndexFunc_Value Tryz.f379 = some a_slices_IndexFunc_Value := by kernel_rfl
theorem of_slices_IndexFunc_Value {args : List AV} {σ : Store} {R : Out → Store → Prop} (hl : args.length ≤ 19) (h : WpR Tryz.prog b_slices_IndexFunc_Value [.tmp 4] args σ R) : CallA Tryz.prog n_slices_IndexFunc_Value args σ R := CallA.of_wp Tryz.func379 (by kernel_rfl) a_slices_IndexFunc_Value_ok hl h.go
def h_crc_on : Hints := ⟨[], [], [], [], [], []⟩
def b_crc_on : ACode := .seq (.region [⟨.mv (.c (.int .u32 0)), (some 6), none⟩]) <|
  .seq (.seq (.region [⟨.mv (.t 2), (some 8), none⟩, ⟨.len true (.t 8), (some 9), none⟩, ⟨.mv (.c (.int .i64 0)), (some 10), none⟩]) <|
  .block 0 (.loop (.seq (.region [⟨.bin .lss (.t 10) (.t 9), (some 11), none⟩]) <|
  .seq (.cond (.t 11) (.skip) (.exit 0)) <|
  .seq (.block 1 (.seq (.region [⟨.mv (.t 10), (some 12), none⟩, ⟨.mv (.t 12), (some 7), none⟩]) <|
  .seq (.region [⟨.mv (.t 1), (some 13), none⟩, ⟨.mv (.t 2), (some 14), none⟩, ⟨.mv (.t 7), (some 15), none⟩, ⟨.idxS (.t 14) (.t 15), (some 16), none⟩, ⟨.cint .u32 (.t 16), (some 17), none⟩, ⟨.bin .xor (.t 13) (.t 17), (some 18), none⟩, ⟨.mv (.t 18), (some 1), none⟩]) <|
  .seq (.region [⟨.mv (.t 1), (some 19), none⟩, ⟨.bin .shr (.t 19) (.c (.int .u64 4)), (some 20), none⟩, ⟨.mv (.t 0), (some 21), none⟩, ⟨.mv (.t 1), (some 22), none⟩, ⟨.bin .and (.t 22) (.c (.int .u32 15)), (some 23), none⟩, ⟨.nilck (.t 21), (some 24), none⟩, ⟨.iaddr ⟨false, 1⟩ (some 16) (.t 24) (.t 23), (some 25), none⟩, ⟨.load false 1 (.t 25), (some 26), none⟩, ⟨.bin .xor (.t 20) (.t 26), (some 27), none⟩, ⟨.mv (.t 27), (some 1), none⟩]) <|
  .region [⟨.mv (.t 1), (some 28), none⟩, ⟨.bin .shr (.t 28) (.c (.int .u64 4)), (some 29), none⟩, ⟨.mv (.t 0), (some 30), none⟩, ⟨.mv (.t 1), (some 31), none⟩, ⟨.bin .and (.t 31) (.c (.int .u32 15)), (some 32), none⟩, ⟨.nilck (.t 30), (some 33), none⟩, ⟨.iaddr ⟨false, 1⟩ (some 16) (.t 33) (.t 32), (some 34), none⟩, ⟨.load false 1 (.t 34), (some 35), none⟩, ⟨.bin .xor (.t 29) (.t 35), (some 36), none⟩, ⟨.mv (.t 36), (some 1), none⟩])) <|
  .region [⟨.bin .add (.t 10) (.c (.int .i64 1)), (some 37), none⟩, ⟨.mv (.t 37), (some 10), none⟩]))) <|
  .seq (.region [⟨.mv (.t 1), (some 38), none⟩, ⟨.mv (.t 38), (some 6), none⟩]) <|
  .ret
def a_crc_on : AFunc := ⟨39, [.tmp 6], b_crc_on⟩
theorem a_crc_on_ok : compileF Tryz.prog h_crc_on Tryz.f455 = some a_crc_on := by kernel_rfl
theorem of_crc_on {args : List AV} {σ : Store} {R : Out → Store → Prop} (hl : args.length ≤ 39) (h : WpR Tryz.prog b_crc_on [.tmp 6] args σ R) : CallA Tryz.prog n_crc_on args σ R := CallA.of_wp Tryz.func455 (by kernel_rfl) a_crc_on_ok hl h.go
def h_seal_blank : Hints := ⟨[], [], [], [], [], []⟩
def b_seal_blank : ACode := .seq (.region [⟨.mv (.c (.bool false)), (some 2), none⟩]) <|
  .seq (.seq (.region [⟨.mv (.t 0), (some 4), none⟩, ⟨.len true (.t 4), (some 5), none⟩, ⟨.mv (.c (.int .i64 0)), (some 6), none⟩]) <|
  .block 0 (.loop (.seq (.region [⟨.bin .lss (.t 6) (.t 5), (some 7), none⟩]) <|
  .seq (.cond (.t 7) (.skip) (.exit 0)) <|
  .seq (.block 1 (.seq (.region [⟨.mv (.t 6), (some 8), none⟩, ⟨.mv (.t 8), (some 3), none⟩]) <|
  .seq (.region [⟨.mv (.t 0), (some 9), none⟩, ⟨.mv (.t 3), (some 10), none⟩, ⟨.idxS (.t 9) (.t 10), (some 11), none⟩, ⟨.bin .neq (.t 11) (.c (.int .u8 0)), (some 12), none⟩]) <|
  .cond (.t 12) (.seq (.region [⟨.mv (.c (.bool false)), (some 2), none⟩]) <|
  .ret) (.skip))) <|
  .region [⟨.bin .add (.t 6) (.c (.int .i64 1)), (some 13), none⟩, ⟨.mv (.t 13), (some 6), none⟩]))) <|
  .seq (.region [⟨.mv (.c (.bool true)), (some 2), none⟩]) <|
  .ret
def a_seal_blank : AFunc := ⟨14, [.tmp 2], b_seal_blank⟩
theorem a_seal_blank_ok : compileF Tryz.prog h_seal_blank Tryz.f410 = some a_seal_blank := by kernel_rfl
theorem of_seal_blank {args : List AV} {σ : Store} {R : Out → Store → Prop} (hl : args.length ≤ 14) (h : WpR Tryz.prog b_seal_blank [.tmp 2] args σ R) : CallA Tryz.prog n_seal_blank args σ R := CallA.of_wp Tryz.func410 (by kernel_rfl) a_seal_blank_ok hl h.go
def h_math_bits_RotateLeft32 : Hints := ⟨[], [], [], [], [], []⟩
def b_math_bits_RotateLeft32 : ACode := .seq (.region [⟨.mv (.c (.int .u32 0)), (some 4), none⟩]) <|
  .seq (.region [⟨.mv (.t 1), (some 6), none⟩, ⟨.cint .u64 (.t 6), (some 7), none⟩, ⟨.bin .and (.t 7) (.c (.int .u64 31)), (some 8), none⟩, ⟨.mv (.t 8), (some 5), none⟩]) <|
  .seq (.region [⟨.mv (.t 0), (some 9), none⟩, ⟨.mv (.t 5), (some 10), none⟩, ⟨.bin .shl (.t 9) (.t 10), (some 11), none⟩, ⟨.mv (.t 0), (some 12), none⟩, ⟨.mv (.t 5), (some 13), none⟩, ⟨.bin .sub (.c (.int .u64 32)) (.t 13), (some 14), none⟩, ⟨.bin .shr (.t 12) (.t 14), (some 15), none⟩, ⟨.bin .or (.t 11) (.t 15), (some 16), none⟩, ⟨.mv (.t 16), (some 4), none⟩]) <|
  .ret
def a_math_bits_RotateLeft32 : AFunc := ⟨17, [.tmp 4], b_math_bits_RotateLeft32⟩
theorem a_math_bits_RotateLeft32_ok : compileF Tryz.prog h_math_bits_RotateLeft32 Tryz.f420 = some a_math_bits_RotateLeft32 := by kernel_rfl
theorem of_math_bits_RotateLeft32 {args : List AV} {σ : Store} {R : Out → Store → Prop} (hl : args.length ≤ 17) (h : WpR Tryz.prog b_math_bits_RotateLeft32 [.tmp 4] args σ R) : CallA Tryz.prog n_math_bits_RotateLeft32 args σ R := CallA.of_wp Tryz.func420 (by kernel_rfl) a_math_bits_RotateLeft32_ok hl h.go
def h_sha_rotr : Hints := ⟨[], [], [], [], [], []⟩
def b_sha_rotr : ACode := .seq (.region [⟨.mv (.c (.int .u32 0)), (some 4), none⟩]) <|
  .seq (.region [⟨.mv (.t 0), (some 5), none⟩, ⟨.mv (.t 1), (some 6), none⟩, ⟨.un .neg (.t 6), (some 7), none⟩, ⟨.call false (.c (.fn (.func n_math_bits_RotateLeft32) [] [])) [(.t 5), (.t 7)], (some 8), none⟩, ⟨.mv (.t 8), (some 4), none⟩]) <|
  .ret
def a_sha_rotr : AFunc := ⟨9, [.tmp 4], b_sha_rotr⟩
theorem a_sha_rotr_ok : compileF Tryz.prog h_sha_rotr Tryz.f381 = some a_sha_rotr := by kernel_rfl
theorem of_sha_rotr {args : List AV} {σ : Store} {R : Out → Store → Prop} (hl : args.length ≤ 9) (h : WpR Tryz.prog b_sha_rotr [.tmp 4] args σ R) : CallA Tryz.prog n_sha_rotr args σ R := CallA.of_wp Tryz.func381 (by kernel_rfl) a_sha_rotr_ok hl h.go
end Go.Proofs.YtdohdkdejmhgnaaGreatDoor
