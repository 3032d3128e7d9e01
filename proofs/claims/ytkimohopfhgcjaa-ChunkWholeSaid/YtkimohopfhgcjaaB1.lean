/- Abstract code of functions of the program, by a program. -/
import Derived.Test.YtkimohopfhgcjaaB0
import Derived.KernelRfl
namespace Go.Proofs.Ytkimohopfhgcjaa
open Go.AM
set_option maxRecDepth 10000
/- 3 decretal/decretallaw11.ChunkEdits 0 prefix, 1 s, 2 n, 3 prefix, 4 s, 5 n, 7 a, 8 e, 9 b, 10 f, 11 c, 12 g, 13 d, 14 h -/
def h_law11_ChunkEdits : Hints := ⟨[], [], [], []⟩
def b_law11_ChunkEdits : ACode := .seq (.region [⟨.mv (.c (.bool false)), (some 6), none⟩]) <|
  .seq (.seq (.region [⟨.mv (.t 0), (some 15), none⟩, ⟨.len true (.t 15), (some 16), none⟩, ⟨.bin .gtr (.t 16) (.c (.int .i64 300)), (some 17), none⟩, ⟨.mv (.t 17), (some 18), none⟩, ⟨.mv (.t 1), (some 19), some (18, false)⟩, ⟨.len true (.t 19), (some 20), some (18, false)⟩, ⟨.bin .gtr (.t 20) (.c (.int .i64 3000)), (some 21), some (18, false)⟩, ⟨.pick (.t 18) (.c (.bool true)) (.t 21), (some 22), none⟩, ⟨.mv (.t 22), (some 23), none⟩, ⟨.mv (.t 2), (some 24), some (23, false)⟩, ⟨.bin .gtr (.t 24) (.c (.int .i64 1099511627776)), (some 25), some (23, false)⟩, ⟨.pick (.t 23) (.c (.bool true)) (.t 25), (some 26), none⟩]) <|
  .cond (.t 26) (.seq (.region [⟨.call false (.c (.fn (.func n_law11_lives) [] [])) [], (some 27), none⟩, ⟨.mv (.t 27), (some 6), none⟩]) <|
  .ret) (.skip)) <|
  .seq (.region [⟨.mv (.t 0), (some 29), none⟩, ⟨.mv (.t 1), (some 30), none⟩, ⟨.call false (.c (.fn (.func n_chunk_Edits) [] [])) [(.t 29), (.t 30)], (some 31), none⟩, ⟨.mv (.t 31), (some 28), none⟩, ⟨.ext (.t 28) 0, (some 32), none⟩, ⟨.ext (.t 28) 1, (some 33), none⟩, ⟨.mv (.t 32), (some 7), none⟩, ⟨.mv (.t 33), (some 8), none⟩]) <|
  .seq (.region [⟨.mv (.t 0), (some 35), none⟩, ⟨.mv (.t 1), (some 36), none⟩, ⟨.call false (.c (.fn (.func n_ref11_Edits) [] [])) [(.t 35), (.t 36)], (some 37), none⟩, ⟨.mv (.t 37), (some 34), none⟩, ⟨.ext (.t 34) 0, (some 38), none⟩, ⟨.ext (.t 34) 1, (some 39), none⟩, ⟨.mv (.t 38), (some 9), none⟩, ⟨.mv (.t 39), (some 10), none⟩]) <|
  .seq (.region [⟨.mv (.t 0), (some 41), none⟩, ⟨.call false (.c (.fn (.func n_chunk_Clear) [] [])) [(.t 41)], (some 42), none⟩, ⟨.mv (.t 42), (some 40), none⟩, ⟨.ext (.t 40) 0, (some 43), none⟩, ⟨.ext (.t 40) 1, (some 44), none⟩, ⟨.alloc none [(.str []), (.str []), (.bool false), (.str [])], (some 11), none⟩, ⟨.store 4 (.t 11) (.t 43), none, none⟩, ⟨.mv (.t 44), (some 12), none⟩]) <|
  .seq (.region [⟨.mv (.t 0), (some 46), none⟩, ⟨.call false (.c (.fn (.func n_ref11_Clear) [] [])) [(.t 46)], (some 47), none⟩, ⟨.mv (.t 47), (some 45), none⟩, ⟨.ext (.t 45) 0, (some 48), none⟩, ⟨.ext (.t 45) 1, (some 49), none⟩, ⟨.alloc none [(.str []), (.str []), (.bool false), (.str [])], (some 13), none⟩, ⟨.store 4 (.t 13) (.t 48), none, none⟩, ⟨.mv (.t 49), (some 14), none⟩]) <|
  .seq (.region [⟨.mv (.t 7), (some 50), none⟩, ⟨.mv (.t 9), (some 51), none⟩, ⟨.call false (.c (.fn (.func n_ref11_SameEdits) [] [])) [(.t 50), (.t 51)], (some 52), none⟩, ⟨.mv (.t 52), (some 53), none⟩, ⟨.mv (.t 8), (some 54), some (53, true)⟩, ⟨.mv (.t 10), (some 55), some (53, true)⟩, ⟨.bin .eql (.t 54) (.t 55), (some 56), some (53, true)⟩, ⟨.pick (.t 53) (.t 56) (.c (.bool false)), (some 57), none⟩, ⟨.mv (.t 57), (some 58), none⟩, ⟨.load true 4 (.t 11), (some 59), some (58, true)⟩, ⟨.load true 4 (.t 13), (some 60), some (58, true)⟩, ⟨.eqf false true [.s, .s, .b, .s] (.t 59) (.t 60), (some 61), some (58, true)⟩, ⟨.pick (.t 58) (.t 61) (.c (.bool false)), (some 62), none⟩, ⟨.mv (.t 62), (some 63), none⟩, ⟨.mv (.t 12), (some 64), some (63, true)⟩, ⟨.mv (.t 14), (some 65), some (63, true)⟩, ⟨.bin .eql (.t 64) (.t 65), (some 66), some (63, true)⟩, ⟨.pick (.t 63) (.t 66) (.c (.bool false)), (some 67), none⟩, ⟨.mv (.t 67), (some 68), none⟩, ⟨.mv (.t 2), (some 69), some (68, true)⟩, ⟨.call false (.c (.fn (.func n_chunk_Count) [] [])) [(.t 69)], (some 70), some (68, true)⟩, ⟨.mv (.t 2), (some 71), some (68, true)⟩, ⟨.call false (.c (.fn (.func n_ref11_Count) [] [])) [(.t 71)], (some 72), some (68, true)⟩, ⟨.bin .eql (.t 70) (.t 72), (some 73), some (68, true)⟩, ⟨.pick (.t 68) (.t 73) (.c (.bool false)), (some 74), none⟩, ⟨.mv (.t 74), (some 75), none⟩, ⟨.call false (.c (.fn (.func n_law11_lives) [] [])) [], (some 76), some (75, true)⟩, ⟨.pick (.t 75) (.t 76) (.c (.bool false)), (some 77), none⟩, ⟨.mv (.t 77), (some 6), none⟩]) <|
  .ret
def a_law11_ChunkEdits : AFunc := ⟨78, [.tmp 6], b_law11_ChunkEdits⟩
theorem a_law11_ChunkEdits_ok : compileF Try.prog h_law11_ChunkEdits Try.f3 = some a_law11_ChunkEdits := by kernel_rfl
theorem of_law11_ChunkEdits {args : List AV} {σ : Store} {R : Out → Store → Prop} (hl : args.length ≤ 78) (h : WpR Try.prog b_law11_ChunkEdits [.tmp 6] args σ R) : CallA Try.prog n_law11_ChunkEdits args σ R := CallA.of_wp Try.func3 (by kernel_rfl) a_law11_ChunkEdits_ok hl h.go

/- 4 decretal/decretallaw11.ChunkJoins 0 prefix, 1 l, 2 prefix, 3 l, 5 s, 6 e, 7 t, 8 f -/
def h_law11_ChunkJoins : Hints := ⟨[], [], [], []⟩
def b_law11_ChunkJoins : ACode := .seq (.region [⟨.mv (.c (.bool false)), (some 4), none⟩]) <|
  .seq (.seq (.region [⟨.mv (.t 0), (some 9), none⟩, ⟨.len true (.t 9), (some 10), none⟩, ⟨.bin .gtr (.t 10) (.c (.int .i64 300)), (some 11), none⟩, ⟨.mv (.t 11), (some 12), none⟩, ⟨.mv (.t 1), (some 13), some (12, false)⟩, ⟨.call false (.c (.fn (.func n_law11_short) [] [])) [(.t 13)], (some 14), some (12, false)⟩, ⟨.un .not (.t 14), (some 15), some (12, false)⟩, ⟨.pick (.t 12) (.c (.bool true)) (.t 15), (some 16), none⟩]) <|
  .cond (.t 16) (.seq (.region [⟨.call false (.c (.fn (.func n_law11_lives) [] [])) [], (some 17), none⟩, ⟨.mv (.t 17), (some 4), none⟩]) <|
  .ret) (.skip)) <|
  .seq (.region [⟨.mv (.t 0), (some 19), none⟩, ⟨.mv (.t 1), (some 20), none⟩, ⟨.call false (.c (.fn (.func n_chunk_Join) [] [])) [(.t 19), (.t 20)], (some 21), none⟩, ⟨.mv (.t 21), (some 18), none⟩, ⟨.ext (.t 18) 0, (some 22), none⟩, ⟨.ext (.t 18) 1, (some 23), none⟩, ⟨.mv (.t 22), (some 5), none⟩, ⟨.mv (.t 23), (some 6), none⟩]) <|
  .seq (.region [⟨.mv (.t 0), (some 25), none⟩, ⟨.mv (.t 1), (some 26), none⟩, ⟨.call false (.c (.fn (.func n_ref11_Join) [] [])) [(.t 25), (.t 26)], (some 27), none⟩, ⟨.mv (.t 27), (some 24), none⟩, ⟨.ext (.t 24) 0, (some 28), none⟩, ⟨.ext (.t 24) 1, (some 29), none⟩, ⟨.mv (.t 28), (some 7), none⟩, ⟨.mv (.t 29), (some 8), none⟩]) <|
  .seq (.region [⟨.mv (.t 5), (some 30), none⟩, ⟨.mv (.t 7), (some 31), none⟩, ⟨.bin .eql (.t 30) (.t 31), (some 32), none⟩, ⟨.mv (.t 32), (some 33), none⟩, ⟨.mv (.t 6), (some 34), some (33, true)⟩, ⟨.mv (.t 8), (some 35), some (33, true)⟩, ⟨.bin .eql (.t 34) (.t 35), (some 36), some (33, true)⟩, ⟨.pick (.t 33) (.t 36) (.c (.bool false)), (some 37), none⟩, ⟨.mv (.t 37), (some 38), none⟩, ⟨.call false (.c (.fn (.func n_law11_lives) [] [])) [], (some 39), some (38, true)⟩, ⟨.pick (.t 38) (.t 39) (.c (.bool false)), (some 40), none⟩, ⟨.mv (.t 40), (some 4), none⟩]) <|
  .ret
def a_law11_ChunkJoins : AFunc := ⟨41, [.tmp 4], b_law11_ChunkJoins⟩
theorem a_law11_ChunkJoins_ok : compileF Try.prog h_law11_ChunkJoins Try.f4 = some a_law11_ChunkJoins := by kernel_rfl
theorem of_law11_ChunkJoins {args : List AV} {σ : Store} {R : Out → Store → Prop} (hl : args.length ≤ 41) (h : WpR Try.prog b_law11_ChunkJoins [.tmp 4] args σ R) : CallA Try.prog n_law11_ChunkJoins args σ R := CallA.of_wp Try.func4 (by kernel_rfl) a_law11_ChunkJoins_ok hl h.go

/- 5 decretal/decretallaw11.ChunkWhole 0 prefix, 1 s, 2 at, 3 turned, 4 prefix, 5 s, 6 at, 7 turned, 9 l, 10 e, 11 pairs, 12 i, 13 t, 14 f, 15 k, 16 was, 17 u, 18 g -/
def h_law11_ChunkWhole : Hints := ⟨[], [], [(11, ⟨true, 2⟩)], []⟩
def b_law11_ChunkWhole : ACode := .seq (.region [⟨.mv (.c (.bool false)), (some 8), none⟩]) <|
  .seq (.seq (.region [⟨.mv (.t 0), (some 19), none⟩, ⟨.len true (.t 19), (some 20), none⟩, ⟨.bin .gtr (.t 20) (.c (.int .i64 40)), (some 21), none⟩, ⟨.mv (.t 21), (some 22), none⟩, ⟨.mv (.t 0), (some 23), some (22, false)⟩, ⟨.len true (.t 23), (some 24), some (22, false)⟩, ⟨.bin .lss (.t 24) (.c (.int .i64 1)), (some 25), some (22, false)⟩, ⟨.pick (.t 22) (.c (.bool true)) (.t 25), (some 26), none⟩, ⟨.mv (.t 26), (some 27), none⟩, ⟨.mv (.t 1), (some 28), some (27, false)⟩, ⟨.len true (.t 28), (some 29), some (27, false)⟩, ⟨.bin .gtr (.t 29) (.c (.int .i64 1400)), (some 30), some (27, false)⟩, ⟨.pick (.t 27) (.c (.bool true)) (.t 30), (some 31), none⟩, ⟨.mv (.t 31), (some 32), none⟩, ⟨.mv (.t 3), (some 33), some (32, false)⟩, ⟨.len true (.t 33), (some 34), some (32, false)⟩, ⟨.bin .gtr (.t 34) (.c (.int .i64 200)), (some 35), some (32, false)⟩, ⟨.pick (.t 32) (.c (.bool true)) (.t 35), (some 36), none⟩]) <|
  .cond (.t 36) (.seq (.region [⟨.call false (.c (.fn (.func n_law11_lives) [] [])) [], (some 37), none⟩, ⟨.mv (.t 37), (some 8), none⟩]) <|
  .ret) (.skip)) <|
  .seq (.region [⟨.mv (.t 0), (some 39), none⟩, ⟨.mv (.t 1), (some 40), none⟩, ⟨.call false (.c (.fn (.func n_chunk_Edits) [] [])) [(.t 39), (.t 40)], (some 41), none⟩, ⟨.mv (.t 41), (some 38), none⟩, ⟨.ext (.t 38) 0, (some 42), none⟩, ⟨.ext (.t 38) 1, (some 43), none⟩, ⟨.mv (.t 42), (some 9), none⟩, ⟨.mv (.t 43), (some 10), none⟩]) <|
  .seq (.seq (.region [⟨.mv (.t 10), (some 44), none⟩, ⟨.bin .neq (.t 44) (.c (.int .i64 0)), (some 45), none⟩, ⟨.mv (.t 45), (some 46), none⟩, ⟨.mv (.t 9), (some 47), some (46, false)⟩, ⟨.len false (.t 47), (some 48), some (46, false)⟩, ⟨.mv (.t 1), (some 49), some (46, false)⟩, ⟨.len true (.t 49), (some 50), some (46, false)⟩, ⟨.call false (.c (.fn (.func n_chunk_Count) [] [])) [(.t 50)], (some 51), some (46, false)⟩, ⟨.bin .add (.t 51) (.c (.int .i64 1)), (some 52), some (46, false)⟩, ⟨.bin .neq (.t 48) (.t 52), (some 53), some (46, false)⟩, ⟨.pick (.t 46) (.c (.bool true)) (.t 53), (some 54), none⟩]) <|
  .cond (.t 54) (.seq (.region [⟨.mv (.c (.bool false)), (some 8), none⟩]) <|
  .ret) (.skip)) <|
  .seq (.region [⟨.mkvec ⟨true, 2⟩, (some 11), none⟩]) <|
  .seq (.seq (.region [⟨.mv (.c (.int .i64 1)), (some 12), none⟩]) <|
  .block 0 (.loop (.seq (.seq (.region [⟨.mv (.t 12), (some 55), none⟩, ⟨.mv (.t 9), (some 56), none⟩, ⟨.len false (.t 56), (some 57), none⟩, ⟨.bin .lss (.t 55) (.t 57), (some 58), none⟩]) <|
  .cond (.t 58) (.skip) (.exit 0)) <|
  .seq (.block 1 (.draw [⟨.mv (.t 11), (some 61), none⟩, ⟨.mv (.t 9), (some 62), none⟩, ⟨.mv (.t 12), (some 63), none⟩, ⟨.iaddr ⟨true, 4⟩ none (.t 62) (.t 63), (some 64), none⟩, ⟨.faddr 0 (.t 64), (some 65), none⟩, ⟨.load false 1 (.t 65), (some 66), none⟩, ⟨.mv (.t 9), (some 67), none⟩, ⟨.mv (.t 12), (some 68), none⟩, ⟨.iaddr ⟨true, 4⟩ none (.t 67) (.t 68), (some 69), none⟩, ⟨.faddr 1 (.t 69), (some 70), none⟩, ⟨.load false 1 (.t 70), (some 71), none⟩, ⟨.build [(.str []), (.str [])] [(0, 1, (.t 66)), (1, 1, (.t 71))], (some 72), none⟩, ⟨.bslice false ⟨true, 2⟩ (.agg [(.str []), (.str [])]) 1 [(0, (.t 72))], (some 73), none⟩, ⟨.app none ⟨true, 2⟩ (.t 61) (.t 73), (some 74), none⟩, ⟨.mv (.t 74), (some 11), none⟩] [])) <|
  .region [⟨.mv (.t 12), (some 59), none⟩, ⟨.bin .add (.t 59) (.c (.int .i64 1)), (some 60), none⟩, ⟨.mv (.t 60), (some 12), none⟩]))) <|
  .seq (.region [⟨.mv (.t 0), (some 76), none⟩, ⟨.mv (.t 11), (some 77), none⟩, ⟨.call false (.c (.fn (.func n_chunk_Join) [] [])) [(.t 76), (.t 77)], (some 78), none⟩, ⟨.mv (.t 78), (some 75), none⟩, ⟨.ext (.t 75) 0, (some 79), none⟩, ⟨.ext (.t 75) 1, (some 80), none⟩, ⟨.mv (.t 79), (some 13), none⟩, ⟨.mv (.t 80), (some 14), none⟩]) <|
  .seq (.seq (.region [⟨.mv (.t 13), (some 81), none⟩, ⟨.mv (.t 1), (some 82), none⟩, ⟨.bin .neq (.t 81) (.t 82), (some 83), none⟩, ⟨.mv (.t 83), (some 84), none⟩, ⟨.mv (.t 14), (some 85), some (84, false)⟩, ⟨.bin .neq (.t 85) (.c (.int .i64 0)), (some 86), some (84, false)⟩, ⟨.pick (.t 84) (.c (.bool true)) (.t 86), (some 87), none⟩]) <|
  .cond (.t 87) (.seq (.region [⟨.mv (.c (.bool false)), (some 8), none⟩]) <|
  .ret) (.skip)) <|
  .seq (.region [⟨.mv (.t 2), (some 88), none⟩, ⟨.cint .u64 (.t 88), (some 89), none⟩, ⟨.mv (.t 11), (some 90), none⟩, ⟨.len false (.t 90), (some 91), none⟩, ⟨.cint .u64 (.t 91), (some 92), none⟩, ⟨.bin .rem (.t 89) (.t 92), (some 93), none⟩, ⟨.cint .i64 (.t 93), (some 94), none⟩, ⟨.mv (.t 94), (some 15), none⟩]) <|
  .seq (.region [⟨.mv (.t 11), (some 95), none⟩, ⟨.mv (.t 15), (some 96), none⟩, ⟨.iaddr ⟨true, 2⟩ none (.t 95) (.t 96), (some 97), none⟩, ⟨.faddr 1 (.t 97), (some 98), none⟩, ⟨.load false 1 (.t 98), (some 99), none⟩, ⟨.mv (.t 99), (some 16), none⟩]) <|
  .seq (.region [⟨.mv (.t 11), (some 100), none⟩, ⟨.mv (.t 15), (some 101), none⟩, ⟨.mv (.t 3), (some 102), none⟩, ⟨.iaddr ⟨true, 2⟩ none (.t 100) (.t 101), (some 103), none⟩, ⟨.faddr 1 (.t 103), (some 104), none⟩, ⟨.store 1 (.t 104) (.t 102), none, none⟩]) <|
  .seq (.region [⟨.mv (.t 0), (some 106), none⟩, ⟨.mv (.t 11), (some 107), none⟩, ⟨.call false (.c (.fn (.func n_chunk_Join) [] [])) [(.t 106), (.t 107)], (some 108), none⟩, ⟨.mv (.t 108), (some 105), none⟩, ⟨.ext (.t 105) 0, (some 109), none⟩, ⟨.ext (.t 105) 1, (some 110), none⟩, ⟨.mv (.t 109), (some 17), none⟩, ⟨.mv (.t 110), (some 18), none⟩]) <|
  .seq (.region [⟨.mv (.t 3), (some 111), none⟩, ⟨.mv (.t 16), (some 112), none⟩, ⟨.bin .eql (.t 111) (.t 112), (some 113), none⟩, ⟨.mv (.t 17), (some 114), none⟩, ⟨.mv (.t 1), (some 115), none⟩, ⟨.bin .eql (.t 114) (.t 115), (some 116), none⟩, ⟨.mv (.t 116), (some 117), none⟩, ⟨.mv (.t 18), (some 118), some (117, true)⟩, ⟨.bin .eql (.t 118) (.c (.int .i64 0)), (some 119), some (117, true)⟩, ⟨.pick (.t 117) (.t 119) (.c (.bool false)), (some 120), none⟩, ⟨.eqf false false [.b] (.t 113) (.t 120), (some 121), none⟩, ⟨.mv (.t 121), (some 122), none⟩, ⟨.call false (.c (.fn (.func n_law11_lives) [] [])) [], (some 123), some (122, true)⟩, ⟨.pick (.t 122) (.t 123) (.c (.bool false)), (some 124), none⟩, ⟨.mv (.t 124), (some 8), none⟩]) <|
  .ret
def a_law11_ChunkWhole : AFunc := ⟨125, [.tmp 8], b_law11_ChunkWhole⟩
theorem a_law11_ChunkWhole_ok : compileF Try.prog h_law11_ChunkWhole Try.f5 = some a_law11_ChunkWhole := by kernel_rfl
theorem of_law11_ChunkWhole {args : List AV} {σ : Store} {R : Out → Store → Prop} (hl : args.length ≤ 125) (h : WpR Try.prog b_law11_ChunkWhole [.tmp 8] args σ R) : CallA Try.prog n_law11_ChunkWhole args σ R := CallA.of_wp Try.func5 (by kernel_rfl) a_law11_ChunkWhole_ok hl h.go

/- 6 decretal/decretallaw11.lives 1 l, 2 e, 3 s, 4 f -/
def h_law11_lives : Hints := ⟨[], [], [], []⟩
def b_law11_lives : ACode := .seq (.region [⟨.mv (.c (.bool false)), (some 0), none⟩]) <|
  .seq (.region [⟨.call false (.c (.fn (.func n_chunk_Edits) [] [])) [(.c (.str [112])), (.c (.str [120]))], (some 6), none⟩, ⟨.mv (.t 6), (some 5), none⟩, ⟨.ext (.t 5) 0, (some 7), none⟩, ⟨.ext (.t 5) 1, (some 8), none⟩, ⟨.mv (.t 7), (some 1), none⟩, ⟨.mv (.t 8), (some 2), none⟩]) <|
  .seq (.region [⟨.build [(.str []), (.str [])] [(0, 1, (.c (.str [112, 0, 0]))), (1, 1, (.c (.str [120])))], (some 10), none⟩, ⟨.bslice false ⟨true, 2⟩ (.agg [(.str []), (.str [])]) 1 [(0, (.t 10))], (some 11), none⟩, ⟨.call false (.c (.fn (.func n_chunk_Join) [] [])) [(.c (.str [112])), (.t 11)], (some 12), none⟩, ⟨.mv (.t 12), (some 9), none⟩, ⟨.ext (.t 9) 0, (some 13), none⟩, ⟨.ext (.t 9) 1, (some 14), none⟩, ⟨.mv (.t 13), (some 3), none⟩, ⟨.mv (.t 14), (some 4), none⟩]) <|
  .seq (.region [⟨.mv (.t 1), (some 15), none⟩, ⟨.build [(.str []), (.str []), (.bool false), (.str [])] [(0, 1, (.c (.str [112, 0, 0]))), (2, 1, (.c (.bool true))), (3, 1, (.c (.str [112, 255, 255])))], (some 16), none⟩, ⟨.build [(.str []), (.str []), (.bool false), (.str [])] [(0, 1, (.c (.str [112, 0, 0]))), (1, 1, (.c (.str [120])))], (some 17), none⟩, ⟨.bslice false ⟨true, 4⟩ (.agg [(.str []), (.str []), (.bool false), (.str [])]) 2 [(0, (.t 16)), (1, (.t 17))], (some 18), none⟩, ⟨.call false (.c (.fn (.func n_ref11_SameEdits) [] [])) [(.t 15), (.t 18)], (some 19), none⟩, ⟨.mv (.t 19), (some 20), none⟩, ⟨.mv (.t 2), (some 21), some (20, true)⟩, ⟨.bin .eql (.t 21) (.c (.int .i64 0)), (some 22), some (20, true)⟩, ⟨.pick (.t 20) (.t 22) (.c (.bool false)), (some 23), none⟩, ⟨.mv (.t 23), (some 24), none⟩, ⟨.mv (.t 3), (some 25), some (24, true)⟩, ⟨.bin .eql (.t 25) (.c (.str [120])), (some 26), some (24, true)⟩, ⟨.pick (.t 24) (.t 26) (.c (.bool false)), (some 27), none⟩, ⟨.mv (.t 27), (some 28), none⟩, ⟨.mv (.t 4), (some 29), some (28, true)⟩, ⟨.bin .eql (.t 29) (.c (.int .i64 0)), (some 30), some (28, true)⟩, ⟨.pick (.t 28) (.t 30) (.c (.bool false)), (some 31), none⟩, ⟨.mv (.t 31), (some 32), none⟩, ⟨.call false (.c (.fn (.func n_chunk_Count) [] [])) [(.c (.int .i64 151))], (some 33), some (32, true)⟩, ⟨.bin .eql (.t 33) (.c (.int .i64 2)), (some 34), some (32, true)⟩, ⟨.pick (.t 32) (.t 34) (.c (.bool false)), (some 35), none⟩, ⟨.mv (.t 35), (some 0), none⟩]) <|
  .ret
def a_law11_lives : AFunc := ⟨36, [.tmp 0], b_law11_lives⟩
theorem a_law11_lives_ok : compileF Try.prog h_law11_lives Try.f6 = some a_law11_lives := by kernel_rfl
theorem of_law11_lives {args : List AV} {σ : Store} {R : Out → Store → Prop} (hl : args.length ≤ 36) (h : WpR Try.prog b_law11_lives [.tmp 0] args σ R) : CallA Try.prog n_law11_lives args σ R := CallA.of_wp Try.func6 (by kernel_rfl) a_law11_lives_ok hl h.go

/- 7 decretal/chunk.Edits 0 prefix, 1 s, 2 prefix, 3 s, 6 x, 7 e, 8 out, 9 key, 10 part -/
def h_chunk_Edits : Hints := ⟨[25], [], [], []⟩
def b_chunk_Edits : ACode := .seq (.region [⟨.mv (.c .nils), (some 4), none⟩, ⟨.mv (.c (.int .i64 0)), (some 5), none⟩]) <|
  .seq (.region [⟨.mv (.t 0), (some 12), none⟩, ⟨.call false (.c (.fn (.func n_chunk_Clear) [] [])) [(.t 12)], (some 13), none⟩, ⟨.mv (.t 13), (some 11), none⟩, ⟨.ext (.t 11) 0, (some 14), none⟩, ⟨.ext (.t 11) 1, (some 15), none⟩, ⟨.alloc none [(.str []), (.str []), (.bool false), (.str [])], (some 6), none⟩, ⟨.store 4 (.t 6) (.t 14), none, none⟩, ⟨.mv (.t 15), (some 7), none⟩]) <|
  .seq (.block 0 (.seq (.region [⟨.mv (.t 7), (some 17), none⟩, ⟨.bin .neq (.t 17) (.c (.int .i64 0)), (some 18), none⟩, ⟨.mv (.t 18), (some 16), none⟩]) <|
  .cond (.t 16) (.seq (.region [⟨.mv (.t 7), (some 19), none⟩, ⟨.mv (.c .nils), (some 4), none⟩, ⟨.mv (.t 19), (some 5), none⟩]) <|
  .ret) (.seq (.region [⟨.mv (.t 1), (some 21), none⟩, ⟨.len true (.t 21), (some 22), none⟩, ⟨.bin .gtr (.t 22) (.c (.int .i64 1400)), (some 23), none⟩, ⟨.mv (.t 23), (some 20), none⟩]) <|
  .cond (.t 20) (.seq (.region [⟨.mv (.c .nils), (some 4), none⟩, ⟨.mv (.c (.int .i64 5)), (some 5), none⟩]) <|
  .ret) (.skip)))) <|
  .seq (.region [⟨.load true 4 (.t 6), (some 24), none⟩, ⟨.bslice true ⟨true, 4⟩ (.agg [(.str []), (.str []), (.bool false), (.str [])]) 1 [(0, (.t 24))], (some 25), none⟩, ⟨.alloc none [.nils], (some 8), none⟩, ⟨.store 1 (.t 8) (.t 25), none, none⟩]) <|
  .seq (.seq (.region [⟨.mv (.t 0), (some 26), none⟩, ⟨.mv (.t 1), (some 27), none⟩, ⟨.call false (.c (.fn (.func n_chunk_chunks) [] [])) [(.t 26), (.t 27)], (some 28), none⟩]) <|
  .block 1 (.rng (.t 28) 38 [29, 30] (.seq (.region [⟨.mv (.t 29), (some 9), none⟩]) <|
  .region [⟨.mv (.t 30), (some 10), none⟩]) (.block 2 (.region [⟨.load false 1 (.t 8), (some 31), none⟩, ⟨.mv (.t 9), (some 32), none⟩, ⟨.mv (.t 10), (some 33), none⟩, ⟨.build [(.str []), (.str []), (.bool false), (.str [])] [(0, 1, (.t 32)), (1, 1, (.t 33))], (some 34), none⟩, ⟨.bslice false ⟨true, 4⟩ (.agg [(.str []), (.str []), (.bool false), (.str [])]) 1 [(0, (.t 34))], (some 35), none⟩, ⟨.app none ⟨true, 4⟩ (.t 31) (.t 35), (some 36), none⟩, ⟨.store 1 (.t 8) (.t 36), none, none⟩])))) <|
  .seq (.region [⟨.load false 1 (.t 8), (some 37), none⟩, ⟨.mv (.t 37), (some 4), none⟩, ⟨.mv (.c (.int .i64 0)), (some 5), none⟩]) <|
  .ret
def a_chunk_Edits : AFunc := ⟨38, [.tmp 4, .tmp 5], b_chunk_Edits⟩
theorem a_chunk_Edits_ok : compileF Try.prog h_chunk_Edits Try.f7 = some a_chunk_Edits := by kernel_rfl
theorem of_chunk_Edits {args : List AV} {σ : Store} {R : Out → Store → Prop} (hl : args.length ≤ 38) (h : WpR Try.prog b_chunk_Edits [.tmp 4, .tmp 5] args σ R) : CallA Try.prog n_chunk_Edits args σ R := CallA.of_wp Try.func7 (by kernel_rfl) a_chunk_Edits_ok hl h.go

/- 8 decretal/decretalref11.Edits 0 prefix, 1 s, 2 prefix, 3 s, 6 x, 7 e, 8 out, 9 l, 10 i -/
def h_ref11_Edits : Hints := ⟨[25], [], [], []⟩
def b_ref11_Edits : ACode := .seq (.region [⟨.mv (.c .nils), (some 4), none⟩, ⟨.mv (.c (.int .i64 0)), (some 5), none⟩]) <|
  .seq (.region [⟨.mv (.t 0), (some 12), none⟩, ⟨.call false (.c (.fn (.func n_ref11_Clear) [] [])) [(.t 12)], (some 13), none⟩, ⟨.mv (.t 13), (some 11), none⟩, ⟨.ext (.t 11) 0, (some 14), none⟩, ⟨.ext (.t 11) 1, (some 15), none⟩, ⟨.alloc none [(.str []), (.str []), (.bool false), (.str [])], (some 6), none⟩, ⟨.store 4 (.t 6) (.t 14), none, none⟩, ⟨.mv (.t 15), (some 7), none⟩]) <|
  .seq (.block 0 (.seq (.region [⟨.mv (.t 7), (some 17), none⟩, ⟨.bin .neq (.t 17) (.c (.int .i64 0)), (some 18), none⟩, ⟨.mv (.t 18), (some 16), none⟩]) <|
  .cond (.t 16) (.seq (.region [⟨.mv (.t 7), (some 19), none⟩, ⟨.mv (.c .nils), (some 4), none⟩, ⟨.mv (.t 19), (some 5), none⟩]) <|
  .ret) (.seq (.region [⟨.mv (.t 1), (some 21), none⟩, ⟨.len true (.t 21), (some 22), none⟩, ⟨.bin .gtr (.t 22) (.c (.int .i64 1400)), (some 23), none⟩, ⟨.mv (.t 23), (some 20), none⟩]) <|
  .cond (.t 20) (.seq (.region [⟨.mv (.c .nils), (some 4), none⟩, ⟨.mv (.c (.int .i64 5)), (some 5), none⟩]) <|
  .ret) (.skip)))) <|
  .seq (.region [⟨.load true 4 (.t 6), (some 24), none⟩, ⟨.bslice true ⟨true, 4⟩ (.agg [(.str []), (.str []), (.bool false), (.str [])]) 1 [(0, (.t 24))], (some 25), none⟩, ⟨.mv (.t 25), (some 8), none⟩]) <|
  .seq (.region [⟨.mv (.t 0), (some 26), none⟩, ⟨.mv (.t 1), (some 27), none⟩, ⟨.call false (.c (.fn (.func n_ref11_pairs) [] [])) [(.t 26), (.t 27)], (some 28), none⟩, ⟨.mv (.t 28), (some 9), none⟩]) <|
  .seq (.seq (.region [⟨.mv (.c (.int .i64 0)), (some 10), none⟩]) <|
  .block 1 (.loop (.seq (.seq (.region [⟨.mv (.t 10), (some 29), none⟩, ⟨.mv (.t 9), (some 30), none⟩, ⟨.len false (.t 30), (some 31), none⟩, ⟨.bin .lss (.t 29) (.t 31), (some 32), none⟩]) <|
  .cond (.t 32) (.skip) (.exit 1)) <|
  .seq (.block 2 (.draw [⟨.mv (.t 8), (some 35), none⟩, ⟨.mv (.t 9), (some 36), none⟩, ⟨.mv (.t 10), (some 37), none⟩, ⟨.iaddr ⟨true, 2⟩ none (.t 36) (.t 37), (some 38), none⟩, ⟨.faddr 0 (.t 38), (some 39), none⟩, ⟨.load false 1 (.t 39), (some 40), none⟩, ⟨.mv (.t 9), (some 41), none⟩, ⟨.mv (.t 10), (some 42), none⟩, ⟨.iaddr ⟨true, 2⟩ none (.t 41) (.t 42), (some 43), none⟩, ⟨.faddr 1 (.t 43), (some 44), none⟩, ⟨.load false 1 (.t 44), (some 45), none⟩, ⟨.build [(.str []), (.str []), (.bool false), (.str [])] [(0, 1, (.t 40)), (1, 1, (.t 45))], (some 46), none⟩, ⟨.bslice false ⟨true, 4⟩ (.agg [(.str []), (.str []), (.bool false), (.str [])]) 1 [(0, (.t 46))], (some 47), none⟩, ⟨.app none ⟨true, 4⟩ (.t 35) (.t 47), (some 48), none⟩, ⟨.mv (.t 48), (some 8), none⟩] [])) <|
  .region [⟨.mv (.t 10), (some 33), none⟩, ⟨.bin .add (.t 33) (.c (.int .i64 1)), (some 34), none⟩, ⟨.mv (.t 34), (some 10), none⟩]))) <|
  .seq (.region [⟨.mv (.t 8), (some 49), none⟩, ⟨.mv (.t 49), (some 4), none⟩, ⟨.mv (.c (.int .i64 0)), (some 5), none⟩]) <|
  .ret
def a_ref11_Edits : AFunc := ⟨50, [.tmp 4, .tmp 5], b_ref11_Edits⟩
theorem a_ref11_Edits_ok : compileF Try.prog h_ref11_Edits Try.f8 = some a_ref11_Edits := by kernel_rfl
theorem of_ref11_Edits {args : List AV} {σ : Store} {R : Out → Store → Prop} (hl : args.length ≤ 50) (h : WpR Try.prog b_ref11_Edits [.tmp 4, .tmp 5] args σ R) : CallA Try.prog n_ref11_Edits args σ R := CallA.of_wp Try.func8 (by kernel_rfl) a_ref11_Edits_ok hl h.go

/- 9 decretal/chunk.Clear 0 prefix, 1 prefix -/
def h_chunk_Clear : Hints := ⟨[], [], [], []⟩
def b_chunk_Clear : ACode := .seq (.region [⟨.alloc none [(.str []), (.str []), (.bool false), (.str [])], (some 2), none⟩, ⟨.mv (.c (.int .i64 0)), (some 3), none⟩]) <|
  .seq (.seq (.region [⟨.mv (.t 0), (some 4), none⟩, ⟨.call false (.c (.fn (.func n_chunk_right) [] [])) [(.t 4)], (some 5), none⟩, ⟨.un .not (.t 5), (some 6), none⟩]) <|
  .cond (.t 6) (.seq (.region [⟨.build [(.str []), (.str []), (.bool false), (.str [])] [], (some 7), none⟩, ⟨.store 4 (.t 2) (.t 7), none, none⟩, ⟨.mv (.c (.int .i64 2)), (some 3), none⟩]) <|
  .ret) (.skip)) <|
  .seq (.region [⟨.mv (.t 0), (some 8), none⟩, ⟨.bin .add (.t 8) (.c (.str [0, 0])), (some 9), none⟩, ⟨.mv (.t 0), (some 10), none⟩, ⟨.bin .add (.t 10) (.c (.str [255, 255])), (some 11), none⟩, ⟨.build [(.str []), (.str []), (.bool false), (.str [])] [(0, 1, (.t 9)), (2, 1, (.c (.bool true))), (3, 1, (.t 11))], (some 12), none⟩, ⟨.store 4 (.t 2) (.t 12), none, none⟩, ⟨.mv (.c (.int .i64 0)), (some 3), none⟩]) <|
  .ret
def a_chunk_Clear : AFunc := ⟨13, [.cell 2 true 4, .tmp 3], b_chunk_Clear⟩
theorem a_chunk_Clear_ok : compileF Try.prog h_chunk_Clear Try.f9 = some a_chunk_Clear := by kernel_rfl
theorem of_chunk_Clear {args : List AV} {σ : Store} {R : Out → Store → Prop} (hl : args.length ≤ 13) (h : WpR Try.prog b_chunk_Clear [.cell 2 true 4, .tmp 3] args σ R) : CallA Try.prog n_chunk_Clear args σ R := CallA.of_wp Try.func9 (by kernel_rfl) a_chunk_Clear_ok hl h.go

/- 10 decretal/decretalref11.Clear 0 prefix, 1 prefix -/
def h_ref11_Clear : Hints := ⟨[], [], [], []⟩
def b_ref11_Clear : ACode := .seq (.region [⟨.alloc none [(.str []), (.str []), (.bool false), (.str [])], (some 2), none⟩, ⟨.mv (.c (.int .i64 0)), (some 3), none⟩]) <|
  .seq (.seq (.region [⟨.mv (.t 0), (some 4), none⟩, ⟨.call false (.c (.fn (.func n_ref11_right) [] [])) [(.t 4)], (some 5), none⟩, ⟨.un .not (.t 5), (some 6), none⟩]) <|
  .cond (.t 6) (.seq (.region [⟨.build [(.str []), (.str []), (.bool false), (.str [])] [], (some 7), none⟩, ⟨.store 4 (.t 2) (.t 7), none, none⟩, ⟨.mv (.c (.int .i64 2)), (some 3), none⟩]) <|
  .ret) (.skip)) <|
  .seq (.region [⟨.mv (.t 0), (some 8), none⟩, ⟨.bin .add (.t 8) (.c (.str [0, 0])), (some 9), none⟩, ⟨.mv (.t 0), (some 10), none⟩, ⟨.bin .add (.t 10) (.c (.str [255, 255])), (some 11), none⟩, ⟨.build [(.str []), (.str []), (.bool false), (.str [])] [(0, 1, (.t 9)), (2, 1, (.c (.bool true))), (3, 1, (.t 11))], (some 12), none⟩, ⟨.store 4 (.t 2) (.t 12), none, none⟩, ⟨.mv (.c (.int .i64 0)), (some 3), none⟩]) <|
  .ret
def a_ref11_Clear : AFunc := ⟨13, [.cell 2 true 4, .tmp 3], b_ref11_Clear⟩
theorem a_ref11_Clear_ok : compileF Try.prog h_ref11_Clear Try.f10 = some a_ref11_Clear := by kernel_rfl
theorem of_ref11_Clear {args : List AV} {σ : Store} {R : Out → Store → Prop} (hl : args.length ≤ 13) (h : WpR Try.prog b_ref11_Clear [.cell 2 true 4, .tmp 3] args σ R) : CallA Try.prog n_ref11_Clear args σ R := CallA.of_wp Try.func10 (by kernel_rfl) a_ref11_Clear_ok hl h.go

/- 11 decretal/decretalref11.SameEdits 0 a, 1 b, 2 a, 3 b, 5 i -/
def h_ref11_SameEdits : Hints := ⟨[], [], [], []⟩
def b_ref11_SameEdits : ACode := .seq (.region [⟨.mv (.c (.bool false)), (some 4), none⟩]) <|
  .seq (.seq (.region [⟨.mv (.t 0), (some 6), none⟩, ⟨.len false (.t 6), (some 7), none⟩, ⟨.mv (.t 1), (some 8), none⟩, ⟨.len false (.t 8), (some 9), none⟩, ⟨.bin .neq (.t 7) (.t 9), (some 10), none⟩]) <|
  .cond (.t 10) (.seq (.region [⟨.mv (.c (.bool false)), (some 4), none⟩]) <|
  .ret) (.skip)) <|
  .seq (.seq (.region [⟨.mv (.c (.int .i64 0)), (some 5), none⟩]) <|
  .block 0 (.loop (.seq (.seq (.region [⟨.mv (.t 5), (some 11), none⟩, ⟨.mv (.t 0), (some 12), none⟩, ⟨.len false (.t 12), (some 13), none⟩, ⟨.bin .lss (.t 11) (.t 13), (some 14), none⟩]) <|
  .cond (.t 14) (.skip) (.exit 0)) <|
  .seq (.block 1 (.seq (.draw [⟨.mv (.t 0), (some 17), none⟩, ⟨.mv (.t 5), (some 18), none⟩, ⟨.iaddr ⟨true, 4⟩ none (.t 17) (.t 18), (some 19), none⟩, ⟨.load true 4 (.t 19), (some 20), none⟩, ⟨.mv (.t 1), (some 21), none⟩, ⟨.mv (.t 5), (some 22), none⟩, ⟨.iaddr ⟨true, 4⟩ none (.t 21) (.t 22), (some 23), none⟩, ⟨.load true 4 (.t 23), (some 24), none⟩, ⟨.eqf true true [.s, .s, .b, .s] (.t 20) (.t 24), (some 25), none⟩] []) <|
  .cond (.t 25) (.seq (.region [⟨.mv (.c (.bool false)), (some 4), none⟩]) <|
  .ret) (.skip))) <|
  .region [⟨.mv (.t 5), (some 15), none⟩, ⟨.bin .add (.t 15) (.c (.int .i64 1)), (some 16), none⟩, ⟨.mv (.t 16), (some 5), none⟩]))) <|
  .seq (.region [⟨.mv (.c (.bool true)), (some 4), none⟩]) <|
  .ret
def a_ref11_SameEdits : AFunc := ⟨26, [.tmp 4], b_ref11_SameEdits⟩
theorem a_ref11_SameEdits_ok : compileF Try.prog h_ref11_SameEdits Try.f11 = some a_ref11_SameEdits := by kernel_rfl
theorem of_ref11_SameEdits {args : List AV} {σ : Store} {R : Out → Store → Prop} (hl : args.length ≤ 26) (h : WpR Try.prog b_ref11_SameEdits [.tmp 4] args σ R) : CallA Try.prog n_ref11_SameEdits args σ R := CallA.of_wp Try.func11 (by kernel_rfl) a_ref11_SameEdits_ok hl h.go

/- 12 decretal/chunk.Count 0 n, 1 n -/
def h_chunk_Count : Hints := ⟨[], [], [], []⟩
def b_chunk_Count : ACode := .seq (.region [⟨.mv (.c (.int .i64 0)), (some 2), none⟩]) <|
  .seq (.region [⟨.mv (.t 0), (some 3), none⟩, ⟨.max (.t 3) [(.c (.int .i64 0))], (some 4), none⟩, ⟨.bin .add (.t 4) (.c (.int .i64 150)), (some 5), none⟩, ⟨.bin .sub (.t 5) (.c (.int .i64 1)), (some 6), none⟩, ⟨.bin .quo (.t 6) (.c (.int .i64 150)), (some 7), none⟩, ⟨.max (.c (.int .i64 1)) [(.t 7)], (some 8), none⟩, ⟨.mv (.t 8), (some 2), none⟩]) <|
  .ret
def a_chunk_Count : AFunc := ⟨9, [.tmp 2], b_chunk_Count⟩
theorem a_chunk_Count_ok : compileF Try.prog h_chunk_Count Try.f12 = some a_chunk_Count := by kernel_rfl
theorem of_chunk_Count {args : List AV} {σ : Store} {R : Out → Store → Prop} (hl : args.length ≤ 9) (h : WpR Try.prog b_chunk_Count [.tmp 2] args σ R) : CallA Try.prog n_chunk_Count args σ R := CallA.of_wp Try.func12 (by kernel_rfl) a_chunk_Count_ok hl h.go

/- 13 decretal/decretalref11.Count 0 n, 1 n, 3 k -/
def h_ref11_Count : Hints := ⟨[], [], [], []⟩
def b_ref11_Count : ACode := .seq (.region [⟨.mv (.c (.int .i64 0)), (some 2), none⟩]) <|
  .seq (.seq (.region [⟨.mv (.t 0), (some 4), none⟩, ⟨.bin .lss (.t 4) (.c (.int .i64 1)), (some 5), none⟩]) <|
  .cond (.t 5) (.seq (.region [⟨.mv (.c (.int .i64 1)), (some 2), none⟩]) <|
  .ret) (.skip)) <|
  .seq (.region [⟨.mv (.t 0), (some 6), none⟩, ⟨.bin .quo (.t 6) (.c (.int .i64 150)), (some 7), none⟩, ⟨.mv (.t 7), (some 3), none⟩]) <|
  .seq (.seq (.region [⟨.mv (.t 0), (some 8), none⟩, ⟨.bin .rem (.t 8) (.c (.int .i64 150)), (some 9), none⟩, ⟨.bin .gtr (.t 9) (.c (.int .i64 0)), (some 10), none⟩]) <|
  .cond (.t 10) (.region [⟨.mv (.t 3), (some 11), none⟩, ⟨.bin .add (.t 11) (.c (.int .i64 1)), (some 12), none⟩, ⟨.mv (.t 12), (some 3), none⟩]) (.skip)) <|
  .seq (.region [⟨.mv (.t 3), (some 13), none⟩, ⟨.mv (.t 13), (some 2), none⟩]) <|
  .ret
def a_ref11_Count : AFunc := ⟨14, [.tmp 2], b_ref11_Count⟩
theorem a_ref11_Count_ok : compileF Try.prog h_ref11_Count Try.f13 = some a_ref11_Count := by kernel_rfl
theorem of_ref11_Count {args : List AV} {σ : Store} {R : Out → Store → Prop} (hl : args.length ≤ 14) (h : WpR Try.prog b_ref11_Count [.tmp 2] args σ R) : CallA Try.prog n_ref11_Count args σ R := CallA.of_wp Try.func13 (by kernel_rfl) a_ref11_Count_ok hl h.go

/- 14 decretal/decretallaw11.short 0 l, 1 l, 3 i -/
def h_law11_short : Hints := ⟨[], [], [], []⟩
def b_law11_short : ACode := .seq (.region [⟨.mv (.c (.bool false)), (some 2), none⟩]) <|
  .seq (.seq (.region [⟨.mv (.t 0), (some 4), none⟩, ⟨.len false (.t 4), (some 5), none⟩, ⟨.bin .gtr (.t 5) (.c (.int .i64 30)), (some 6), none⟩]) <|
  .cond (.t 6) (.seq (.region [⟨.mv (.c (.bool false)), (some 2), none⟩]) <|
  .ret) (.skip)) <|
  .seq (.seq (.region [⟨.mv (.c (.int .i64 0)), (some 3), none⟩]) <|
  .block 0 (.loop (.seq (.seq (.region [⟨.mv (.t 3), (some 7), none⟩, ⟨.mv (.t 0), (some 8), none⟩, ⟨.len false (.t 8), (some 9), none⟩, ⟨.bin .lss (.t 7) (.t 9), (some 10), none⟩]) <|
  .cond (.t 10) (.skip) (.exit 0)) <|
  .seq (.block 1 (.seq (.region [⟨.mv (.t 0), (some 13), none⟩, ⟨.mv (.t 3), (some 14), none⟩, ⟨.iaddr ⟨true, 2⟩ none (.t 13) (.t 14), (some 15), none⟩, ⟨.faddr 0 (.t 15), (some 16), none⟩, ⟨.load false 1 (.t 16), (some 17), none⟩, ⟨.len true (.t 17), (some 18), none⟩, ⟨.bin .gtr (.t 18) (.c (.int .i64 300)), (some 19), none⟩, ⟨.mv (.t 19), (some 20), none⟩, ⟨.mv (.t 0), (some 21), some (20, false)⟩, ⟨.mv (.t 3), (some 22), some (20, false)⟩, ⟨.iaddr ⟨true, 2⟩ none (.t 21) (.t 22), (some 23), some (20, false)⟩, ⟨.faddr 1 (.t 23), (some 24), some (20, false)⟩, ⟨.load false 1 (.t 24), (some 25), some (20, false)⟩, ⟨.len true (.t 25), (some 26), some (20, false)⟩, ⟨.bin .gtr (.t 26) (.c (.int .i64 1000)), (some 27), some (20, false)⟩, ⟨.pick (.t 20) (.c (.bool true)) (.t 27), (some 28), none⟩]) <|
  .cond (.t 28) (.seq (.region [⟨.mv (.c (.bool false)), (some 2), none⟩]) <|
  .ret) (.skip))) <|
  .region [⟨.mv (.t 3), (some 11), none⟩, ⟨.bin .add (.t 11) (.c (.int .i64 1)), (some 12), none⟩, ⟨.mv (.t 12), (some 3), none⟩]))) <|
  .seq (.region [⟨.mv (.c (.bool true)), (some 2), none⟩]) <|
  .ret
def a_law11_short : AFunc := ⟨29, [.tmp 2], b_law11_short⟩
theorem a_law11_short_ok : compileF Try.prog h_law11_short Try.f14 = some a_law11_short := by kernel_rfl
theorem of_law11_short {args : List AV} {σ : Store} {R : Out → Store → Prop} (hl : args.length ≤ 29) (h : WpR Try.prog b_law11_short [.tmp 2] args σ R) : CallA Try.prog n_law11_short args σ R := CallA.of_wp Try.func14 (by kernel_rfl) a_law11_short_ok hl h.go

/- 15 decretal/chunk.Join 0 prefix, 1 l, 2 prefix, 3 l, 6 b, 7 _, 8 x, 9 s, 10 i, 11 key, 12 part -/
def h_chunk_Join : Hints := ⟨[], [], [], [6]⟩
def b_chunk_Join : ACode := .seq (.region [⟨.box (.t 1), (some 3), none⟩, ⟨.alloc none [(.str [])], (some 4), none⟩, ⟨.alloc none [(.int .i64 0)], (some 5), none⟩]) <|
  .seq (.block 0 (.seq (.region [⟨.mv (.t 0), (some 14), none⟩, ⟨.call false (.c (.fn (.func n_chunk_right) [] [])) [(.t 14)], (some 15), none⟩, ⟨.un .not (.t 15), (some 16), none⟩, ⟨.mv (.t 16), (some 13), none⟩]) <|
  .cond (.t 13) (.seq (.region [⟨.store 1 (.t 4) (.c (.str [])), none, none⟩, ⟨.store 1 (.t 5) (.c (.int .i64 2)), none, none⟩]) <|
  .ret) (.seq (.region [⟨.load false 1 (.t 3), (some 18), none⟩, ⟨.len false (.t 18), (some 19), none⟩, ⟨.bin .eql (.t 19) (.c (.int .i64 0)), (some 20), none⟩, ⟨.mv (.t 20), (some 17), none⟩]) <|
  .cond (.t 17) (.seq (.region [⟨.store 1 (.t 4) (.c (.str [])), none, none⟩, ⟨.store 1 (.t 5) (.c (.int .i64 6)), none, none⟩]) <|
  .ret) (.skip)))) <|
  .seq (.region [⟨.alloc (some 56) [.nilp, .nils], (some 6), none⟩]) <|
  .seq (.seq (.region [⟨.load false 1 (.t 3), (some 21), none⟩, ⟨.len false (.t 21), (some 22), none⟩, ⟨.mv (.c (.int .i64 0)), (some 23), none⟩]) <|
  .block 1 (.loop (.seq (.region [⟨.bin .lss (.t 23) (.t 22), (some 24), none⟩]) <|
  .seq (.cond (.t 24) (.skip) (.exit 1)) <|
  .seq (.block 2 (.seq (.region [⟨.iaddr ⟨true, 2⟩ none (.t 21) (.t 23), (some 25), none⟩, ⟨.load true 2 (.t 25), (some 26), none⟩, ⟨.alloc none [(.str []), (.str [])], (some 8), none⟩, ⟨.store 2 (.t 8) (.t 26), none, none⟩]) <|
  .seq (.seq (.region [⟨.call false (.c (.fn (.func n_strings_Builder_Len) [] [])) [(.t 6)], (some 27), none⟩, ⟨.bin .gtr (.t 27) (.c (.int .i64 1400)), (some 28), none⟩, ⟨.mv (.t 28), (some 29), none⟩, ⟨.faddr 1 (.t 8), (some 30), some (29, false)⟩, ⟨.load false 1 (.t 30), (some 31), some (29, false)⟩, ⟨.len true (.t 31), (some 32), some (29, false)⟩, ⟨.bin .gtr (.t 32) (.c (.int .i64 150)), (some 33), some (29, false)⟩, ⟨.pick (.t 29) (.c (.bool true)) (.t 33), (some 34), none⟩]) <|
  .cond (.t 34) (.seq (.region [⟨.store 1 (.t 4) (.c (.str [])), none, none⟩, ⟨.store 1 (.t 5) (.c (.int .i64 4)), none, none⟩]) <|
  .ret) (.skip)) <|
  .region [⟨.faddr 1 (.t 8), (some 35), none⟩, ⟨.load false 1 (.t 35), (some 36), none⟩, ⟨.call false (.c (.fn (.func n_strings_Builder_WriteString) [] [])) [(.t 6), (.t 36)], (some 37), none⟩])) <|
  .region [⟨.bin .add (.t 23) (.c (.int .i64 1)), (some 38), none⟩, ⟨.mv (.t 38), (some 23), none⟩]))) <|
  .seq (.region [⟨.call false (.c (.fn (.func n_strings_Builder_String) [] [])) [(.t 6)], (some 39), none⟩, ⟨.mv (.t 39), (some 9), none⟩]) <|
  .seq (.seq (.draw [⟨.mv (.t 9), (some 40), none⟩, ⟨.len true (.t 40), (some 41), none⟩, ⟨.bin .gtr (.t 41) (.c (.int .i64 1400)), (some 42), none⟩, ⟨.mv (.t 42), (some 43), none⟩, ⟨.mv (.t 9), (some 44), some (43, false)⟩, ⟨.len true (.t 44), (some 45), some (43, false)⟩, ⟨.call true (.c (.fn (.func n_chunk_Count) [] [])) [(.t 45)], (some 46), some (43, false)⟩, ⟨.load false 1 (.t 3), (some 47), some (43, false)⟩, ⟨.len false (.t 47), (some 48), some (43, false)⟩, ⟨.bin .neq (.t 46) (.t 48), (some 49), some (43, false)⟩, ⟨.pick (.t 43) (.c (.bool true)) (.t 49), (some 50), none⟩] []) <|
  .cond (.t 50) (.seq (.region [⟨.store 1 (.t 4) (.c (.str [])), none, none⟩, ⟨.store 1 (.t 5) (.c (.int .i64 4)), none, none⟩]) <|
  .ret) (.skip)) <|
  .seq (.region [⟨.alloc none [(.int .i64 0)], (some 10), none⟩, ⟨.store 1 (.t 10) (.c (.int .i64 0)), none, none⟩]) <|
  .seq (.seq (.region [⟨.mv (.t 0), (some 51), none⟩, ⟨.mv (.t 9), (some 52), none⟩, ⟨.call false (.c (.fn (.func n_chunk_chunks) [] [])) [(.t 51), (.t 52)], (some 53), none⟩]) <|
  .block 3 (.rng (.t 53) 75 [54, 55] (.seq (.region [⟨.mv (.t 54), (some 11), none⟩]) <|
  .region [⟨.mv (.t 55), (some 12), none⟩]) (.block 4 (.seq (.seq (.region [⟨.load false 1 (.t 3), (some 56), none⟩, ⟨.load false 1 (.t 10), (some 57), none⟩, ⟨.iaddr ⟨true, 2⟩ none (.t 56) (.t 57), (some 58), none⟩, ⟨.faddr 0 (.t 58), (some 59), none⟩, ⟨.load false 1 (.t 59), (some 60), none⟩, ⟨.mv (.t 11), (some 61), none⟩, ⟨.bin .neq (.t 60) (.t 61), (some 62), none⟩, ⟨.mv (.t 62), (some 63), none⟩, ⟨.load false 1 (.t 3), (some 64), some (63, false)⟩, ⟨.load false 1 (.t 10), (some 65), some (63, false)⟩, ⟨.iaddr ⟨true, 2⟩ none (.t 64) (.t 65), (some 66), some (63, false)⟩, ⟨.faddr 1 (.t 66), (some 67), some (63, false)⟩, ⟨.load false 1 (.t 67), (some 68), some (63, false)⟩, ⟨.mv (.t 12), (some 69), some (63, false)⟩, ⟨.bin .neq (.t 68) (.t 69), (some 70), some (63, false)⟩, ⟨.pick (.t 63) (.c (.bool true)) (.t 70), (some 71), none⟩]) <|
  .cond (.t 71) (.seq (.region [⟨.store 1 (.t 4) (.c (.str [])), none, none⟩, ⟨.store 1 (.t 5) (.c (.int .i64 4)), none, none⟩]) <|
  .ret) (.skip)) <|
  .region [⟨.load false 1 (.t 10), (some 72), none⟩, ⟨.bin .add (.t 72) (.c (.int .i64 1)), (some 73), none⟩, ⟨.store 1 (.t 10) (.t 73), none, none⟩])))) <|
  .seq (.region [⟨.mv (.t 9), (some 74), none⟩, ⟨.store 1 (.t 4) (.t 74), none, none⟩, ⟨.store 1 (.t 5) (.c (.int .i64 0)), none, none⟩]) <|
  .ret
def a_chunk_Join : AFunc := ⟨75, [.cell 4 false 1, .cell 5 false 1], b_chunk_Join⟩
theorem a_chunk_Join_ok : compileF Try.prog h_chunk_Join Try.f15 = some a_chunk_Join := by kernel_rfl
theorem of_chunk_Join {args : List AV} {σ : Store} {R : Out → Store → Prop} (hl : args.length ≤ 75) (h : WpR Try.prog b_chunk_Join [.cell 4 false 1, .cell 5 false 1] args σ R) : CallA Try.prog n_chunk_Join args σ R := CallA.of_wp Try.func15 (by kernel_rfl) a_chunk_Join_ok hl h.go

/- 16 decretal/decretalref11.Join 0 prefix, 1 l, 2 prefix, 3 l, 6 s, 7 i, 8 m, 9 i -/
def h_ref11_Join : Hints := ⟨[], [], [], []⟩
def b_ref11_Join : ACode := .seq (.region [⟨.mv (.c (.str [])), (some 4), none⟩, ⟨.mv (.c (.int .i64 0)), (some 5), none⟩]) <|
  .seq (.block 0 (.seq (.region [⟨.mv (.t 0), (some 11), none⟩, ⟨.call false (.c (.fn (.func n_ref11_right) [] [])) [(.t 11)], (some 12), none⟩, ⟨.un .not (.t 12), (some 13), none⟩, ⟨.mv (.t 13), (some 10), none⟩]) <|
  .cond (.t 10) (.seq (.region [⟨.mv (.c (.str [])), (some 4), none⟩, ⟨.mv (.c (.int .i64 2)), (some 5), none⟩]) <|
  .ret) (.seq (.region [⟨.mv (.t 1), (some 15), none⟩, ⟨.len false (.t 15), (some 16), none⟩, ⟨.bin .eql (.t 16) (.c (.int .i64 0)), (some 17), none⟩, ⟨.mv (.t 17), (some 14), none⟩]) <|
  .cond (.t 14) (.seq (.region [⟨.mv (.c (.str [])), (some 4), none⟩, ⟨.mv (.c (.int .i64 6)), (some 5), none⟩]) <|
  .ret) (.seq (.region [⟨.mv (.t 1), (some 19), none⟩, ⟨.len false (.t 19), (some 20), none⟩, ⟨.bin .gtr (.t 20) (.c (.int .i64 10)), (some 21), none⟩, ⟨.mv (.t 21), (some 18), none⟩]) <|
  .cond (.t 18) (.seq (.region [⟨.mv (.c (.str [])), (some 4), none⟩, ⟨.mv (.c (.int .i64 4)), (some 5), none⟩]) <|
  .ret) (.skip))))) <|
  .seq (.region [⟨.mv (.c (.str [])), (some 6), none⟩]) <|
  .seq (.seq (.region [⟨.mv (.c (.int .i64 0)), (some 7), none⟩]) <|
  .block 1 (.loop (.seq (.seq (.region [⟨.mv (.t 7), (some 22), none⟩, ⟨.mv (.t 1), (some 23), none⟩, ⟨.len false (.t 23), (some 24), none⟩, ⟨.bin .lss (.t 22) (.t 24), (some 25), none⟩]) <|
  .cond (.t 25) (.skip) (.exit 1)) <|
  .seq (.block 2 (.region [⟨.mv (.t 6), (some 28), none⟩, ⟨.mv (.t 1), (some 29), none⟩, ⟨.mv (.t 7), (some 30), none⟩, ⟨.iaddr ⟨true, 2⟩ none (.t 29) (.t 30), (some 31), none⟩, ⟨.faddr 1 (.t 31), (some 32), none⟩, ⟨.load false 1 (.t 32), (some 33), none⟩, ⟨.bin .add (.t 28) (.t 33), (some 34), none⟩, ⟨.mv (.t 34), (some 6), none⟩])) <|
  .region [⟨.mv (.t 7), (some 26), none⟩, ⟨.bin .add (.t 26) (.c (.int .i64 1)), (some 27), none⟩, ⟨.mv (.t 27), (some 7), none⟩]))) <|
  .seq (.seq (.region [⟨.mv (.t 6), (some 35), none⟩, ⟨.len true (.t 35), (some 36), none⟩, ⟨.bin .gtr (.t 36) (.c (.int .i64 1400)), (some 37), none⟩]) <|
  .cond (.t 37) (.seq (.region [⟨.mv (.c (.str [])), (some 4), none⟩, ⟨.mv (.c (.int .i64 4)), (some 5), none⟩]) <|
  .ret) (.skip)) <|
  .seq (.region [⟨.mv (.t 0), (some 38), none⟩, ⟨.mv (.t 6), (some 39), none⟩, ⟨.call false (.c (.fn (.func n_ref11_pairs) [] [])) [(.t 38), (.t 39)], (some 40), none⟩, ⟨.mv (.t 40), (some 8), none⟩]) <|
  .seq (.seq (.region [⟨.mv (.t 8), (some 41), none⟩, ⟨.len false (.t 41), (some 42), none⟩, ⟨.mv (.t 1), (some 43), none⟩, ⟨.len false (.t 43), (some 44), none⟩, ⟨.bin .neq (.t 42) (.t 44), (some 45), none⟩]) <|
  .cond (.t 45) (.seq (.region [⟨.mv (.c (.str [])), (some 4), none⟩, ⟨.mv (.c (.int .i64 4)), (some 5), none⟩]) <|
  .ret) (.skip)) <|
  .seq (.seq (.region [⟨.mv (.c (.int .i64 0)), (some 9), none⟩]) <|
  .block 3 (.loop (.seq (.seq (.region [⟨.mv (.t 9), (some 46), none⟩, ⟨.mv (.t 1), (some 47), none⟩, ⟨.len false (.t 47), (some 48), none⟩, ⟨.bin .lss (.t 46) (.t 48), (some 49), none⟩]) <|
  .cond (.t 49) (.skip) (.exit 3)) <|
  .seq (.block 4 (.seq (.draw [⟨.mv (.t 1), (some 52), none⟩, ⟨.mv (.t 9), (some 53), none⟩, ⟨.iaddr ⟨true, 2⟩ none (.t 52) (.t 53), (some 54), none⟩, ⟨.load true 2 (.t 54), (some 55), none⟩, ⟨.mv (.t 8), (some 56), none⟩, ⟨.mv (.t 9), (some 57), none⟩, ⟨.iaddr ⟨true, 2⟩ none (.t 56) (.t 57), (some 58), none⟩, ⟨.load true 2 (.t 58), (some 59), none⟩, ⟨.eqf true true [.s, .s] (.t 55) (.t 59), (some 60), none⟩] []) <|
  .cond (.t 60) (.seq (.region [⟨.mv (.c (.str [])), (some 4), none⟩, ⟨.mv (.c (.int .i64 4)), (some 5), none⟩]) <|
  .ret) (.skip))) <|
  .region [⟨.mv (.t 9), (some 50), none⟩, ⟨.bin .add (.t 50) (.c (.int .i64 1)), (some 51), none⟩, ⟨.mv (.t 51), (some 9), none⟩]))) <|
  .seq (.region [⟨.mv (.t 6), (some 61), none⟩, ⟨.mv (.t 61), (some 4), none⟩, ⟨.mv (.c (.int .i64 0)), (some 5), none⟩]) <|
  .ret
def a_ref11_Join : AFunc := ⟨62, [.tmp 4, .tmp 5], b_ref11_Join⟩
theorem a_ref11_Join_ok : compileF Try.prog h_ref11_Join Try.f16 = some a_ref11_Join := by kernel_rfl
theorem of_ref11_Join {args : List AV} {σ : Store} {R : Out → Store → Prop} (hl : args.length ≤ 62) (h : WpR Try.prog b_ref11_Join [.tmp 4, .tmp 5] args σ R) : CallA Try.prog n_ref11_Join args σ R := CallA.of_wp Try.func16 (by kernel_rfl) a_ref11_Join_ok hl h.go

/- 17 decretal/chunk.chunks 0 prefix, 1 s, 2 prefix, 3 s -/
def h_chunk_chunks : Hints := ⟨[], [], [], []⟩
def b_chunk_chunks : ACode := .seq (.region [⟨.box (.t 0), (some 2), none⟩, ⟨.box (.t 1), (some 3), none⟩, ⟨.mv (.c .nilf), (some 4), none⟩]) <|
  .seq (.region [⟨.mkfn (.func n_chunk_chunks_1) [] [(.t 3), (.t 2)], (some 5), none⟩, ⟨.mv (.t 5), (some 4), none⟩]) <|
  .ret
def a_chunk_chunks : AFunc := ⟨6, [.tmp 4], b_chunk_chunks⟩
theorem a_chunk_chunks_ok : compileF Try.prog h_chunk_chunks Try.f17 = some a_chunk_chunks := by kernel_rfl
theorem of_chunk_chunks {args : List AV} {σ : Store} {R : Out → Store → Prop} (hl : args.length ≤ 6) (h : WpR Try.prog b_chunk_chunks [.tmp 4] args σ R) : CallA Try.prog n_chunk_chunks args σ R := CallA.of_wp Try.func17 (by kernel_rfl) a_chunk_chunks_ok hl h.go

/- 18 decretal/decretalref11.pairs 0 prefix, 1 s, 2 prefix, 3 s, 5 out, 6 i, 7 end -/
def h_ref11_pairs : Hints := ⟨[], [], [(5, ⟨true, 2⟩)], []⟩
def b_ref11_pairs : ACode := .seq (.region [⟨.mv (.c .nils), (some 4), none⟩]) <|
  .seq (.region [⟨.mkvec ⟨true, 2⟩, (some 5), none⟩]) <|
  .seq (.seq (.region [⟨.mv (.c (.int .i64 0)), (some 6), none⟩]) <|
  .block 0 (.loop (.seq (.seq (.region [⟨.mv (.t 6), (some 8), none⟩, ⟨.mv (.t 1), (some 9), none⟩, ⟨.len true (.t 9), (some 10), none⟩, ⟨.call false (.c (.fn (.func n_ref11_Count) [] [])) [(.t 10)], (some 11), none⟩, ⟨.bin .lss (.t 8) (.t 11), (some 12), none⟩]) <|
  .cond (.t 12) (.skip) (.exit 0)) <|
  .seq (.block 1 (.seq (.region [⟨.mv (.t 6), (some 15), none⟩, ⟨.bin .add (.t 15) (.c (.int .i64 1)), (some 16), none⟩, ⟨.bin .mul (.c (.int .i64 150)) (.t 16), (some 17), none⟩, ⟨.mv (.t 17), (some 7), none⟩]) <|
  .seq (.seq (.region [⟨.mv (.t 7), (some 18), none⟩, ⟨.mv (.t 1), (some 19), none⟩, ⟨.len true (.t 19), (some 20), none⟩, ⟨.bin .gtr (.t 18) (.t 20), (some 21), none⟩]) <|
  .cond (.t 21) (.region [⟨.mv (.t 1), (some 22), none⟩, ⟨.len true (.t 22), (some 23), none⟩, ⟨.mv (.t 23), (some 7), none⟩]) (.skip)) <|
  .draw [⟨.mv (.t 5), (some 24), none⟩, ⟨.mv (.t 0), (some 25), none⟩, ⟨.mv (.t 6), (some 26), none⟩, ⟨.call true (.c (.fn (.func n_ref01_Fixed) [] [])) [(.t 26), (.c (.int .i64 2))], (some 27), none⟩, ⟨.bin .add (.t 25) (.t 27), (some 28), none⟩, ⟨.mv (.t 1), (some 29), none⟩, ⟨.mv (.t 6), (some 30), none⟩, ⟨.bin .mul (.c (.int .i64 150)) (.t 30), (some 31), none⟩, ⟨.mv (.t 7), (some 32), none⟩, ⟨.slS (.t 29) (some (.t 31)) (some (.t 32)), (some 33), none⟩, ⟨.build [(.str []), (.str [])] [(0, 1, (.t 28)), (1, 1, (.t 33))], (some 34), none⟩, ⟨.bslice false ⟨true, 2⟩ (.agg [(.str []), (.str [])]) 1 [(0, (.t 34))], (some 35), none⟩, ⟨.app none ⟨true, 2⟩ (.t 24) (.t 35), (some 36), none⟩, ⟨.mv (.t 36), (some 5), none⟩] [])) <|
  .region [⟨.mv (.t 6), (some 13), none⟩, ⟨.bin .add (.t 13) (.c (.int .i64 1)), (some 14), none⟩, ⟨.mv (.t 14), (some 6), none⟩]))) <|
  .seq (.region [⟨.mv (.t 5), (some 37), none⟩, ⟨.mv (.t 37), (some 4), none⟩]) <|
  .ret
def a_ref11_pairs : AFunc := ⟨38, [.tmp 4], b_ref11_pairs⟩
theorem a_ref11_pairs_ok : compileF Try.prog h_ref11_pairs Try.f18 = some a_ref11_pairs := by kernel_rfl
theorem of_ref11_pairs {args : List AV} {σ : Store} {R : Out → Store → Prop} (hl : args.length ≤ 38) (h : WpR Try.prog b_ref11_pairs [.tmp 4] args σ R) : CallA Try.prog n_ref11_pairs args σ R := CallA.of_wp Try.func18 (by kernel_rfl) a_ref11_pairs_ok hl h.go

/- 19 decretal/chunk.right 0 prefix, 1 prefix -/
def h_chunk_right : Hints := ⟨[], [], [], []⟩
def b_chunk_right : ACode := .seq (.region [⟨.mv (.c (.bool false)), (some 2), none⟩]) <|
  .seq (.region [⟨.mv (.t 0), (some 3), none⟩, ⟨.bin .neq (.t 3) (.c (.str [])), (some 4), none⟩, ⟨.mv (.t 4), (some 5), none⟩, ⟨.mv (.t 0), (some 6), some (5, true)⟩, ⟨.len true (.t 6), (some 7), some (5, true)⟩, ⟨.bin .leq (.t 7) (.c (.int .i64 40)), (some 8), some (5, true)⟩, ⟨.pick (.t 5) (.t 8) (.c (.bool false)), (some 9), none⟩, ⟨.mv (.t 9), (some 2), none⟩]) <|
  .ret
def a_chunk_right : AFunc := ⟨10, [.tmp 2], b_chunk_right⟩
theorem a_chunk_right_ok : compileF Try.prog h_chunk_right Try.f19 = some a_chunk_right := by kernel_rfl
theorem of_chunk_right {args : List AV} {σ : Store} {R : Out → Store → Prop} (hl : args.length ≤ 10) (h : WpR Try.prog b_chunk_right [.tmp 2] args σ R) : CallA Try.prog n_chunk_right args σ R := CallA.of_wp Try.func19 (by kernel_rfl) a_chunk_right_ok hl h.go

/- 20 decretal/decretalref11.right 0 prefix, 1 prefix -/
def h_ref11_right : Hints := ⟨[], [], [], []⟩
def b_ref11_right : ACode := .seq (.region [⟨.mv (.c (.bool false)), (some 2), none⟩]) <|
  .seq (.region [⟨.mv (.t 0), (some 3), none⟩, ⟨.len true (.t 3), (some 4), none⟩, ⟨.bin .geq (.t 4) (.c (.int .i64 1)), (some 5), none⟩, ⟨.mv (.t 5), (some 6), none⟩, ⟨.mv (.t 0), (some 7), some (6, true)⟩, ⟨.len true (.t 7), (some 8), some (6, true)⟩, ⟨.bin .leq (.t 8) (.c (.int .i64 40)), (some 9), some (6, true)⟩, ⟨.pick (.t 6) (.t 9) (.c (.bool false)), (some 10), none⟩, ⟨.mv (.t 10), (some 2), none⟩]) <|
  .ret
def a_ref11_right : AFunc := ⟨11, [.tmp 2], b_ref11_right⟩
theorem a_ref11_right_ok : compileF Try.prog h_ref11_right Try.f20 = some a_ref11_right := by kernel_rfl
theorem of_ref11_right {args : List AV} {σ : Store} {R : Out → Store → Prop} (hl : args.length ≤ 11) (h : WpR Try.prog b_ref11_right [.tmp 2] args σ R) : CallA Try.prog n_ref11_right args σ R := CallA.of_wp Try.func20 (by kernel_rfl) a_ref11_right_ok hl h.go

/- 21 (*strings.Builder).Len 0 b, 1 b -/
def h_strings_Builder_Len : Hints := ⟨[], [], [], []⟩
def b_strings_Builder_Len : ACode := .seq (.region [⟨.mv (.c (.int .i64 0)), (some 2), none⟩]) <|
  .seq (.region [⟨.mv (.t 0), (some 3), none⟩, ⟨.nilck (.t 3), (some 4), none⟩, ⟨.faddr 1 (.t 4), (some 5), none⟩, ⟨.load false 1 (.t 5), (some 6), none⟩, ⟨.len false (.t 6), (some 7), none⟩, ⟨.mv (.t 7), (some 2), none⟩]) <|
  .ret
def a_strings_Builder_Len : AFunc := ⟨8, [.tmp 2], b_strings_Builder_Len⟩
theorem a_strings_Builder_Len_ok : compileF Try.prog h_strings_Builder_Len Try.f21 = some a_strings_Builder_Len := by kernel_rfl
theorem of_strings_Builder_Len {args : List AV} {σ : Store} {R : Out → Store → Prop} (hl : args.length ≤ 8) (h : WpR Try.prog b_strings_Builder_Len [.tmp 2] args σ R) : CallA Try.prog n_strings_Builder_Len args σ R := CallA.of_wp Try.func21 (by kernel_rfl) a_strings_Builder_Len_ok hl h.go

/- 22 (*strings.Builder).WriteString 0 b, 1 s, 2 b, 3 s -/
def h_strings_Builder_WriteString : Hints := ⟨[], [], [], [14]⟩
def b_strings_Builder_WriteString : ACode := .seq (.region [⟨.mv (.c (.int .i64 0)), (some 4), none⟩, ⟨.mv (.c .nili), (some 5), none⟩]) <|
  .seq (.region [⟨.mv (.t 0), (some 6), none⟩, ⟨.call false (.c (.fn (.func n_strings_Builder_copyCheck) [] [])) [(.t 6)], (some 7), none⟩]) <|
  .seq (.region [⟨.mv (.t 0), (some 8), none⟩, ⟨.mv (.t 0), (some 9), none⟩, ⟨.nilck (.t 9), (some 10), none⟩, ⟨.faddr 1 (.t 10), (some 11), none⟩, ⟨.load false 1 (.t 11), (some 12), none⟩, ⟨.mv (.t 1), (some 13), none⟩, ⟨.app (some 5) ⟨false, 1⟩ (.t 12) (.t 13), (some 14), none⟩, ⟨.nilck (.t 8), (some 15), none⟩, ⟨.faddr 1 (.t 15), (some 16), none⟩, ⟨.store 1 (.t 16) (.t 14), none, none⟩]) <|
  .seq (.region [⟨.mv (.t 1), (some 17), none⟩, ⟨.len true (.t 17), (some 18), none⟩, ⟨.mv (.t 18), (some 4), none⟩, ⟨.mv (.c .nili), (some 5), none⟩]) <|
  .ret
def a_strings_Builder_WriteString : AFunc := ⟨19, [.tmp 4, .tmp 5], b_strings_Builder_WriteString⟩
theorem a_strings_Builder_WriteString_ok : compileF Try.prog h_strings_Builder_WriteString Try.f22 = some a_strings_Builder_WriteString := by kernel_rfl
theorem of_strings_Builder_WriteString {args : List AV} {σ : Store} {R : Out → Store → Prop} (hl : args.length ≤ 19) (h : WpR Try.prog b_strings_Builder_WriteString [.tmp 4, .tmp 5] args σ R) : CallA Try.prog n_strings_Builder_WriteString args σ R := CallA.of_wp Try.func22 (by kernel_rfl) a_strings_Builder_WriteString_ok hl h.go

/- 23 (*strings.Builder).String 0 b, 1 b -/
def h_strings_Builder_String : Hints := ⟨[], [], [], []⟩
def b_strings_Builder_String : ACode := .seq (.region [⟨.mv (.c (.str [])), (some 2), none⟩]) <|
  .seq (.draw [⟨.mv (.t 0), (some 3), none⟩, ⟨.nilck (.t 3), (some 4), none⟩, ⟨.faddr 1 (.t 4), (some 5), none⟩, ⟨.load false 1 (.t 5), (some 6), none⟩, ⟨.usd ⟨false, 1⟩ (.t 6), (some 7), none⟩, ⟨.mv (.t 0), (some 8), none⟩, ⟨.nilck (.t 8), (some 9), none⟩, ⟨.faddr 1 (.t 9), (some 10), none⟩, ⟨.load false 1 (.t 10), (some 11), none⟩, ⟨.len false (.t 11), (some 12), none⟩, ⟨.ustr 5 (.t 7) (.t 12), (some 13), none⟩, ⟨.mv (.t 13), (some 2), none⟩] []) <|
  .ret
def a_strings_Builder_String : AFunc := ⟨14, [.tmp 2], b_strings_Builder_String⟩
theorem a_strings_Builder_String_ok : compileF Try.prog h_strings_Builder_String Try.f23 = some a_strings_Builder_String := by kernel_rfl
theorem of_strings_Builder_String {args : List AV} {σ : Store} {R : Out → Store → Prop} (hl : args.length ≤ 14) (h : WpR Try.prog b_strings_Builder_String [.tmp 2] args σ R) : CallA Try.prog n_strings_Builder_String args σ R := CallA.of_wp Try.func23 (by kernel_rfl) a_strings_Builder_String_ok hl h.go

/- 24 decretal/chunk.chunks$1 0 yield, 3 yield, 4 i, 5 part -/
def h_chunk_chunks_1 : Hints := ⟨[], [28], [], []⟩
def b_chunk_chunks_1 : ACode := .seq (.region [⟨.load false 1 (.t 1), (some 6), none⟩, ⟨.len true (.t 6), (some 7), none⟩, ⟨.call false (.c (.fn (.func n_chunk_Count) [] [])) [(.t 7)], (some 8), none⟩, ⟨.mv (.c (.int .i64 0)), (some 9), none⟩]) <|
  .block 0 (.loop (.seq (.region [⟨.bin .lss (.t 9) (.t 8), (some 10), none⟩]) <|
  .seq (.cond (.t 10) (.skip) (.exit 0)) <|
  .seq (.block 1 (.seq (.region [⟨.mv (.t 9), (some 11), none⟩, ⟨.mv (.t 11), (some 4), none⟩]) <|
  .seq (.region [⟨.load false 1 (.t 1), (some 12), none⟩, ⟨.mv (.t 4), (some 13), none⟩, ⟨.bin .mul (.c (.int .i64 150)) (.t 13), (some 14), none⟩, ⟨.mv (.t 4), (some 15), none⟩, ⟨.bin .add (.t 15) (.c (.int .i64 1)), (some 16), none⟩, ⟨.bin .mul (.c (.int .i64 150)) (.t 16), (some 17), none⟩, ⟨.load false 1 (.t 1), (some 18), none⟩, ⟨.len true (.t 18), (some 19), none⟩, ⟨.min (.t 17) [(.t 19)], (some 20), none⟩, ⟨.slS (.t 12) (some (.t 14)) (some (.t 20)), (some 21), none⟩, ⟨.mv (.t 21), (some 5), none⟩]) <|
  .seq (.draw [⟨.mv (.t 0), (some 22), none⟩, ⟨.load false 1 (.t 2), (some 23), none⟩, ⟨.mv (.t 4), (some 24), none⟩, ⟨.call true (.c (.fn (.func n_octet_Fixed) [] [])) [(.t 24), (.c (.int .i64 2))], (some 25), none⟩, ⟨.bin .add (.t 23) (.t 25), (some 26), none⟩, ⟨.mv (.t 5), (some 27), none⟩, ⟨.call false (.t 22) [(.t 26), (.t 27)], (some 28), none⟩, ⟨.un .not (.t 28), (some 29), none⟩] []) <|
  .cond (.t 29) (.ret) (.skip))) <|
  .region [⟨.bin .add (.t 9) (.c (.int .i64 1)), (some 30), none⟩, ⟨.mv (.t 30), (some 9), none⟩]))
def a_chunk_chunks_1 : AFunc := ⟨31, [], b_chunk_chunks_1⟩
theorem a_chunk_chunks_1_ok : compileF Try.prog h_chunk_chunks_1 Try.f24 = some a_chunk_chunks_1 := by kernel_rfl
theorem of_chunk_chunks_1 {args : List AV} {σ : Store} {R : Out → Store → Prop} (hl : args.length ≤ 31) (h : WpR Try.prog b_chunk_chunks_1 [] args σ R) : CallA Try.prog n_chunk_chunks_1 args σ R := CallA.of_wp Try.func24 (by kernel_rfl) a_chunk_chunks_1_ok hl h.go

/- 25 decretal/octet.Fixed 0 n, 1 bytes, 2 n, 3 bytes, 5 b, 6 i -/
def h_octet_Fixed : Hints := ⟨[], [], [], []⟩
def b_octet_Fixed : ACode := .seq (.region [⟨.mv (.c (.str [])), (some 4), none⟩]) <|
  .seq (.region [⟨.mv (.t 1), (some 7), none⟩, ⟨.max (.t 7) [(.c (.int .i64 0))], (some 8), none⟩, ⟨.min (.t 8) [(.c (.int .i64 8))], (some 9), none⟩, ⟨.mkslice ⟨false, 1⟩ (.int .u8 0) (.t 9) (.t 9), (some 10), none⟩, ⟨.mv (.t 10), (some 5), none⟩]) <|
  .seq (.seq (.region [⟨.mv (.t 5), (some 11), none⟩, ⟨.len false (.t 11), (some 12), none⟩, ⟨.mv (.c (.int .i64 0)), (some 13), none⟩]) <|
  .block 0 (.loop (.seq (.region [⟨.bin .lss (.t 13) (.t 12), (some 14), none⟩]) <|
  .seq (.cond (.t 14) (.skip) (.exit 0)) <|
  .seq (.block 1 (.seq (.region [⟨.mv (.t 13), (some 15), none⟩, ⟨.mv (.t 15), (some 6), none⟩]) <|
  .region [⟨.mv (.t 5), (some 16), none⟩, ⟨.mv (.t 5), (some 17), none⟩, ⟨.len false (.t 17), (some 18), none⟩, ⟨.bin .sub (.t 18) (.c (.int .i64 1)), (some 19), none⟩, ⟨.mv (.t 6), (some 20), none⟩, ⟨.bin .sub (.t 19) (.t 20), (some 21), none⟩, ⟨.mv (.t 0), (some 22), none⟩, ⟨.mv (.t 6), (some 23), none⟩, ⟨.bin .mul (.c (.int .i64 8)) (.t 23), (some 24), none⟩, ⟨.bin .shr (.t 22) (.t 24), (some 25), none⟩, ⟨.cint .u8 (.t 25), (some 26), none⟩, ⟨.iaddr ⟨false, 1⟩ none (.t 16) (.t 21), (some 27), none⟩, ⟨.store 1 (.t 27) (.t 26), none, none⟩])) <|
  .region [⟨.bin .add (.t 13) (.c (.int .i64 1)), (some 28), none⟩, ⟨.mv (.t 28), (some 13), none⟩]))) <|
  .seq (.region [⟨.mv (.t 5), (some 29), none⟩, ⟨.b2s (.t 29), (some 30), none⟩, ⟨.mv (.t 30), (some 4), none⟩]) <|
  .ret
def a_octet_Fixed : AFunc := ⟨31, [.tmp 4], b_octet_Fixed⟩
theorem a_octet_Fixed_ok : compileF Try.prog h_octet_Fixed Try.f25 = some a_octet_Fixed := by kernel_rfl
theorem of_octet_Fixed {args : List AV} {σ : Store} {R : Out → Store → Prop} (hl : args.length ≤ 31) (h : WpR Try.prog b_octet_Fixed [.tmp 4] args σ R) : CallA Try.prog n_octet_Fixed args σ R := CallA.of_wp Try.func25 (by kernel_rfl) a_octet_Fixed_ok hl h.go

/- 26 decretal/decretalref01.Fixed 0 n, 1 bytes, 2 n, 3 bytes, 5 c, 6 s, 7 i -/
def h_ref01_Fixed : Hints := ⟨[], [], [], []⟩
def b_ref01_Fixed : ACode := .seq (.region [⟨.mv (.c (.str [])), (some 4), none⟩]) <|
  .seq (.region [⟨.mv (.t 0), (some 8), none⟩, ⟨.cint .u64 (.t 8), (some 9), none⟩, ⟨.mv (.t 9), (some 5), none⟩]) <|
  .seq (.region [⟨.mv (.c (.str [])), (some 6), none⟩]) <|
  .seq (.seq (.region [⟨.mv (.c (.int .i64 0)), (some 7), none⟩]) <|
  .block 0 (.loop (.seq (.seq (.region [⟨.mv (.t 7), (some 10), none⟩, ⟨.mv (.t 1), (some 11), none⟩, ⟨.bin .lss (.t 10) (.t 11), (some 12), none⟩, ⟨.mv (.t 12), (some 13), none⟩, ⟨.mv (.t 7), (some 14), some (13, true)⟩, ⟨.bin .lss (.t 14) (.c (.int .i64 8)), (some 15), some (13, true)⟩, ⟨.pick (.t 13) (.t 15) (.c (.bool false)), (some 16), none⟩]) <|
  .cond (.t 16) (.skip) (.exit 0)) <|
  .seq (.block 1 (.seq (.region [⟨.mv (.t 5), (some 19), none⟩, ⟨.bin .rem (.t 19) (.c (.int .u64 256)), (some 20), none⟩, ⟨.cint .u8 (.t 20), (some 21), none⟩, ⟨.bslice false ⟨false, 1⟩ (.int .u8 0) 1 [(0, (.t 21))], (some 22), none⟩, ⟨.b2s (.t 22), (some 23), none⟩, ⟨.mv (.t 6), (some 24), none⟩, ⟨.bin .add (.t 23) (.t 24), (some 25), none⟩, ⟨.mv (.t 25), (some 6), none⟩]) <|
  .region [⟨.mv (.t 5), (some 26), none⟩, ⟨.bin .quo (.t 26) (.c (.int .u64 256)), (some 27), none⟩, ⟨.mv (.t 27), (some 5), none⟩])) <|
  .region [⟨.mv (.t 7), (some 17), none⟩, ⟨.bin .add (.t 17) (.c (.int .i64 1)), (some 18), none⟩, ⟨.mv (.t 18), (some 7), none⟩]))) <|
  .seq (.region [⟨.mv (.t 6), (some 28), none⟩, ⟨.mv (.t 28), (some 4), none⟩]) <|
  .ret
def a_ref01_Fixed : AFunc := ⟨29, [.tmp 4], b_ref01_Fixed⟩
theorem a_ref01_Fixed_ok : compileF Try.prog h_ref01_Fixed Try.f26 = some a_ref01_Fixed := by kernel_rfl
theorem of_ref01_Fixed {args : List AV} {σ : Store} {R : Out → Store → Prop} (hl : args.length ≤ 29) (h : WpR Try.prog b_ref01_Fixed [.tmp 4] args σ R) : CallA Try.prog n_ref01_Fixed args σ R := CallA.of_wp Try.func26 (by kernel_rfl) a_ref01_Fixed_ok hl h.go

/- 27 (*strings.Builder).copyCheck 0 b, 1 b -/
def h_strings_Builder_copyCheck : Hints := ⟨[], [], [], []⟩
def b_strings_Builder_copyCheck : ACode := .seq (.region [⟨.mv (.t 0), (some 2), none⟩, ⟨.nilck (.t 2), (some 3), none⟩, ⟨.faddr 0 (.t 3), (some 4), none⟩, ⟨.load false 1 (.t 4), (some 5), none⟩, ⟨.eqnil false .p (.t 5) (.c .nilp), (some 6), none⟩]) <|
  .cond (.t 6) (.region [⟨.mv (.t 0), (some 7), none⟩, ⟨.mv (.t 0), (some 8), none⟩, ⟨.p2u (.t 8), (some 9), none⟩, ⟨.noesc 28 (.t 9), (some 10), none⟩, ⟨.u2p 56 (.t 10), (some 11), none⟩, ⟨.nilck (.t 7), (some 12), none⟩, ⟨.faddr 0 (.t 12), (some 13), none⟩, ⟨.store 1 (.t 13) (.t 11), none, none⟩]) (.seq (.region [⟨.mv (.t 0), (some 14), none⟩, ⟨.nilck (.t 14), (some 15), none⟩, ⟨.faddr 0 (.t 15), (some 16), none⟩, ⟨.load false 1 (.t 16), (some 17), none⟩, ⟨.mv (.t 0), (some 18), none⟩, ⟨.eqp true (.t 17) (.t 18), (some 19), none⟩]) <|
  .cond (.t 19) (.stop) (.skip))
def a_strings_Builder_copyCheck : AFunc := ⟨20, [], b_strings_Builder_copyCheck⟩
theorem a_strings_Builder_copyCheck_ok : compileF Try.prog h_strings_Builder_copyCheck Try.f27 = some a_strings_Builder_copyCheck := by kernel_rfl
theorem of_strings_Builder_copyCheck {args : List AV} {σ : Store} {R : Out → Store → Prop} (hl : args.length ≤ 20) (h : WpR Try.prog b_strings_Builder_copyCheck [] args σ R) : CallA Try.prog n_strings_Builder_copyCheck args σ R := CallA.of_wp Try.func27 (by kernel_rfl) a_strings_Builder_copyCheck_ok hl h.go

end Go.Proofs.Ytkimohopfhgcjaa
