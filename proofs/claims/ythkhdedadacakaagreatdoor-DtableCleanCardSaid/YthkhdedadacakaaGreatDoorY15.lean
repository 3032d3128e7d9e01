/- Part of a proof: see Root. -/
import Derived.Test.YthkhdedadacakaaGreatDoorY14
import Derived.KernelRfl
set_option linter.unnecessarySimpa false
set_option linter.unusedSimpArgs false
set_option linter.unusedVariables false
namespace Go.Proofs.YthkhdedadacakaaGreatDoor
open Go.AM Go.AM.W
set_option maxRecDepth 10000
def b_syntax_binaries : ACode := r [V .nils 0] <|
 r [⟨.build [z0, e0, z0] [(0, 1, (.c (i6 4))), (1, 1, (.c (.str [43]))), (2, 1, (.c (i6 4)))], (some 1), none⟩, ⟨.build [z0, e0, z0] [(0, 1, (.c (i6 5))), (1, 1, (.c (.str [45]))), (2, 1, (.c (i6 4)))], (some 2), none⟩, ⟨.build [z0, e0, z0] [(0, 1, (.c (i6 6))), (1, 1, (.c (.str [42]))), (2, 1, (.c (i6 5)))], (some 3), none⟩, ⟨.build [z0, e0, z0] [(0, 1, (.c (i6 7))), (1, 1, (.c (.str [47]))), (2, 1, (.c (i6 5)))], (some 4), none⟩, ⟨.build [z0, e0, z0] [(0, 1, (.c (i6 8))), (1, 1, (.c (.str [61]))), (2, 1, (.c (i6 3)))], (some 5), none⟩, ⟨.build [z0, e0, z0] [(0, 1, (.c (i6 9))), (1, 1, (.c (.str [33, 61]))), (2, 1, (.c (i6 3)))], (some 6), none⟩, ⟨.build [z0, e0, z0] [(0, 1, (.c (i6 10))), (1, 1, (.c (.str [60]))), (2, 1, (.c (i6 3)))], (some 7), none⟩, ⟨.build [z0, e0, z0] [(0, 1, (.c (i6 11))), (1, 1, (.c (.str [60, 61]))), (2, 1, (.c (i6 3)))], (some 8), none⟩, ⟨.build [z0, e0, z0] [(0, 1, (.c (i6 12))), (1, 1, (.c (.str [62]))), (2, 1, (.c (i6 3)))], (some 9), none⟩, ⟨.build [z0, e0, z0] [(0, 1, (.c (i6 13))), (1, 1, (.c (.str [62, 61]))), (2, 1, (.c (i6 3)))], (some 10), none⟩, ⟨.build [z0, e0, z0] [(0, 1, (.c (i6 14))), (1, 1, (.c (.str [97, 110, 100]))), (2, 1, (.c (i6 2)))], (some 11), none⟩, ⟨.build [z0, e0, z0] [(0, 1, (.c (i6 15))), (1, 1, (.c (.str [111, 114]))), (2, 1, (.c (i6 1)))], (some 12), none⟩, ⟨.bslice false ⟨true, 3⟩ (.agg [z0, e0, z0]) 12 [(0, (t 1)), (1, (t 2)), (2, (t 3)), (3, (t 4)), (4, (t 5)), (5, (t 6)), (6, (t 7)), (7, (t 8)), (8, (t 9)), (9, (t 10)), (10, (t 11)), (11, (t 12))], (some 13), none⟩, M 13 0] <|
 .ret
theorem of_syntax_binaries : Of Tryz.prog n_syntax_binaries 14 [.tmp 0] b_syntax_binaries := of_ {} Tryz.func160
def b_ref12_Plain : ACode := r [V (.bool false) 2] <|
 q (r [V z0 3] <|
 .block 0 (.loop (q (r [M 3 4, M 0 5, S 5 6, B .lss 4 6 7] <|
 c 7 k (.exit 0)) <|
 q (.block 1 (r [M 0 10, M 3 11, ⟨.idxS (t 10) (t 11), (some 12), none⟩, ⟨.bin .lss (t 12) (.c (.int .u8 32)), (some 13), none⟩, M 13 14, MF 0 15 14, MF 3 16 14, ⟨.idxS (t 15) (t 16), (some 17), some (14, false)⟩, ⟨.bin .gtr (t 17) (.c (.int .u8 126)), (some 18), some (14, false)⟩, O 14 18 19] <|
 c 19 (r [V (.bool false) 2] <|
 .ret) k)) <|
 R [M 3 8, D .add 8 1 9, M 9 3]))) <|
 r [M 0 20, S 20 21, D .leq 21 40 22, M 22 2] <|
 .ret
theorem of_ref12_Plain : Of Tryz.prog n_ref12_Plain 23 [.tmp 2] b_ref12_Plain := of_ {} Tryz.func162
def b_typing_at_1 : ACode := r [X 0 2, V (.bool false) 3] <|
 r [A 0 2 4, K 4 5, K 1 6, B .eql 5 6 7, M 7 3] <|
 .ret
theorem of_typing_at_1 : Of Tryz.prog n_typing_at_1 8 [.tmp 3] b_typing_at_1 := of_ {} Tryz.func165
def b_lex_next : ACode := r [J [z0, e0, z0, z0, z0] 2, V z0 3] <|
 q (r [M 0 5, ⟨.idxS (t 5) (.c z0), (some 6), none⟩, M 6 4] <|
 .block 0 (r [M 4 8, C n_lex_letter [t 8] 9, M 9 7] <|
 c 7 (r [M 0 10, C n_lex_name [t 10] 11, E 11 0 12, E 11 1 13, W 5 2 12, M 13 3] <|
 .ret) (r [M 4 15, C n_lex_digit [t 15] 16, M 16 14] <|
 c 14 (r [M 0 17, C n_lex_number [t 17] 18, E 18 0 19, E 18 1 20, W 5 2 19, M 20 3] <|
 .ret) (r [M 4 22, ⟨.bin .eql (t 22) (.c (.int .u8 34)), (some 23), none⟩, M 23 21] <|
 c 21 (r [M 0 24, C n_lex_text [t 24] 25, E 25 0 26, E 25 1 27, W 5 2 26, M 27 3] <|
 .ret) k)))) <|
 r [M 0 28, C n_lex_mark [t 28] 29, E 29 0 30, E 29 1 31, W 5 2 30, M 31 3] <|
 .ret
theorem of_lex_next : Of Tryz.prog n_lex_next 32 [.cell 2 true 5, .tmp 3] b_lex_next := of_ {} Tryz.func166
def b_cell_not : ACode := r [V (.bool false) 2] <|
 r [M 0 3, N 3 4, D .gtr 4 1 5, M 5 6, MT 0 7 6, ⟨.iaddr ⟨true, 4⟩ none (t 7) (.c z0), (some 8), some (6, true)⟩, AT 0 8 9 6, KT 9 10 6, DT .eql 10 1 11 6, P 6 11 12, M 12 13, MT 0 14 13, ⟨.iaddr ⟨true, 4⟩ none (t 14) (.c z0), (some 15), some (13, true)⟩, AT 1 15 16 13, KT 16 17 13, ⟨.bin .eql (t 17) (.c (.str [110, 111, 116])), (some 18), some (13, true)⟩, P 13 18 19, M 19 20, MT 0 21 20, ⟨.iaddr ⟨true, 4⟩ none (t 21) (.c (i6 1)), (some 22), some (20, true)⟩, AT 0 22 23 20, KT 23 24 20, DT .eql 24 4 25 20, P 20 25 26, M 26 27, MT 0 28 27, ⟨.iaddr ⟨true, 4⟩ none (t 28) (.c (i6 1)), (some 29), some (27, true)⟩, AT 1 29 30 27, KT 30 31 27, ⟨.bin .eql (t 31) (.c (.str [40])), (some 32), some (27, true)⟩, P 27 32 33, M 33 2] <|
 .ret
theorem of_cell_not : Of Tryz.prog n_cell_not 34 [.tmp 2] b_cell_not := of_ {} Tryz.func167
def b_cell_reader_test : ACode := r [J [z0, z0, z0, z0, e0, e0, .nils, z0, z0, z0, e0, e0, .nils, (.bool false), (.bool false)] 2] <|
 q (r [V (i6 2) 3] <|
 .block 0 (.loop (q (r [M 3 5, D .leq 5 5 6] <|
 c 6 k (.exit 0)) <|
 q (.block 1 (r [M 0 9, M 3 10, C n_cell_sign [t 10] 11, C n_cell_reader_on [t 9, t 11] 12] <|
 c 12 (r [M 3 13, M 0 14, C n_cell_reader_expr [t 14] 15, ⟨.build [z0, z0, z0, z0, e0, e0, .nils, z0, z0, z0, e0, e0, .nils, (.bool false), (.bool false)] [(0, 1, (t 13)), (1, 6, (t 15))], (some 16), none⟩, W 15 2 16] <|
 .ret) k)) <|
 R [M 3 7, D .add 7 1 8, M 8 3]))) <|
 r [M 0 17, Z 17 18, A 0 18 19, C n_cell_cursor_mark [t 19] 20, ⟨.bin .eql (t 20) (.c (.str [93])), (some 21), none⟩, ⟨.build [z0, z0, z0, z0, e0, e0, .nils, z0, z0, z0, e0, e0, .nils, (.bool false), (.bool false)] [(0, 1, (.c (i6 6))), (13, 1, (t 21))], (some 22), none⟩, J [z0, z0, z0, z0, e0, e0, .nils, z0, z0, z0, e0, e0, .nils, (.bool false), (.bool false)] 4, W 15 4 22] <|
 q (r [M 0 23, ⟨.call false (.c (.fn (.func n_cell_reader_on) [] [])) [(t 23), (.c (.str [91]))], (some 24), none⟩, U 24 25, M 25 26, MT 0 27 26, ⟨.call false (.c (.fn (.func n_cell_reader_on) [] [])) [(t 27), (.c (.str [93]))], (some 28), some (26, true)⟩, UT 28 29 26, P 26 29 30] <|
 c 30 (r [M 0 31, C n_cell_reader_expr [t 31] 32, ⟨.build [z0, z0, z0, z0, e0, e0, .nils, z0, z0, z0, e0, e0, .nils, (.bool false), (.bool false)] [(0, 1, (.c (i6 1))), (1, 6, (t 32))], (some 33), none⟩, W 15 2 33] <|
 .ret) k) <|
 r [M 0 34, C n_cell_reader_expr [t 34] 35, A 1 4 36, W 6 36 35] <|
 r [M 0 37, ⟨.call false (.c (.fn (.func n_cell_reader_must) [] [])) [(t 37), (.c (.str [46, 46]))], (some 38), none⟩] <|
 r [M 0 39, C n_cell_reader_expr [t 39] 40, A 7 4 41, W 6 41 40] <|
 q (r [M 0 42, ⟨.call false (.c (.fn (.func n_cell_reader_on) [] [])) [(t 42), (.c (.str [91]))], (some 43), none⟩, A 14 4 44, W 1 44 43] <|
 r [A 14 4 45, K 45 46, U 46 47] <|
 c 47 (R [M 0 48, ⟨.call false (.c (.fn (.func n_cell_reader_must) [] [])) [(t 48), (.c (.str [93]))], (some 49), none⟩]) k) <|
 r [L 15 4 50, W 15 2 50] <|
 .ret
theorem of_cell_reader_test : Of Tryz.prog n_cell_reader_test 51 [.cell 2 true 15] b_cell_reader_test := of_ {} Tryz.func168
def b_cell_reader_on : ACode := r [V (.bool false) 4] <|
 q (r [M 0 5, Z 5 6, A 2 6 7, K 7 8, M 8 9, MF 0 10 9, ZF 10 11 9, AF 0 11 12 9, CF n_cell_cursor_mark [t 12] 13 9, MF 1 14 9, BF .neq 13 14 15 9, O 9 15 16] <|
 c 16 (r [V (.bool false) 4] <|
 .ret) k) <|
 r [M 0 17, Z 17 18, A 0 18 19, A 1 19 20, K 20 21, D .add 21 1 22, Z 17 23, A 0 23 24, A 1 24 25, W 1 25 22] <|
 r [V (.bool true) 4] <|
 .ret
theorem of_cell_reader_on : Of Tryz.prog n_cell_reader_on 26 [.tmp 4] b_cell_reader_on := of_ {} Tryz.func169
def b_cell_reader_must : ACode := r [M 0 4, M 1 5, C n_cell_reader_on [t 4, t 5] 6, U 6 7] <|
 c 7 (R [M 0 8, Z 8 9, A 2 9 10, ⟨.store 1 (t 10) (.c (.bool true)), none, none⟩]) k
theorem of_cell_reader_must : Of Tryz.prog n_cell_reader_must 11 [] b_cell_reader_must := of_ {} Tryz.func170
def b_syntax_reader_read : ACode := r [J [z0, z0, z0, e0, e0, .nils] 4] <|
 .scope 0 (q (.block 0 (r [M 0 8, Z 8 9, A 2 9 10, K 10 11, M 11 7] <|
 c 7 (r [⟨.build [z0, z0, z0, e0, e0, .nils] [], (some 12), none⟩, W 6 4 12] <|
 .ret) (r [M 1 14, D .eql 14 0 15, M 15 16, MT 0 17 16, ⟨.call false (.c (.fn (.func n_syntax_reader_on) [] [])) [(t 17), (.c (i6 1)), (.c (.str [105, 102]))], (some 18), some (16, true)⟩, P 16 18 19, M 19 13] <|
 c 13 (r [M 0 20, C n_syntax_reader_branch [t 20] 21, W 6 4 21] <|
 .ret) (r [M 1 23, D .eql 23 0 24, M 24 22] <|
 c 22 (r [M 0 25, ⟨.call false (.c (.fn (.func n_syntax_reader_read) [] [])) [(t 25), (.c (i6 1))], (some 26), none⟩, W 6 4 26] <|
 .ret) (r [M 1 28, D .eql 28 6 29, M 29 30, MT 0 31 30, ⟨.call false (.c (.fn (.func n_syntax_reader_on) [] [])) [(t 31), (.c (i6 4)), (.c (.str [45]))], (some 32), some (30, true)⟩, P 30 32 33, M 33 27] <|
 c 27 (r [M 0 34, ⟨.call false (.c (.fn (.func n_syntax_reader_read) [] [])) [(t 34), (.c (i6 6))], (some 35), none⟩, ⟨.bslice false ⟨true, 6⟩ (.agg [z0, z0, z0, e0, e0, .nils]) 1 [(0, (t 35))], (some 36), none⟩, ⟨.build [z0, z0, z0, e0, e0, .nils] [(0, 1, (.c (i6 3))), (5, 1, (t 36))], (some 37), none⟩, W 6 4 37] <|
 .ret) (r [M 1 39, D .geq 39 6 40, M 40 38] <|
 c 38 (r [M 0 41, C n_syntax_reader_atom [t 41] 42, W 6 4 42] <|
 .ret) k)))))) <|
 r [M 0 43, M 1 44, D .add 44 1 45, C n_syntax_reader_read [t 43, t 45] 46, J [z0, z0, z0, e0, e0, .nils] 5, W 6 5 46] <|
 q (.label 0) <|
 r [M 0 47, M 1 48, C n_syntax_reader_binary [t 47, t 48] 49, M 49 6] <|
 q (r [M 6 50, D .eql 50 0 51] <|
 c 51 (r [L 6 5 52, W 6 4 52] <|
 .ret) k) <|
 q (.draw [M 6 53, L 6 5 54, M 0 55, M 1 56, D .add 56 1 57, ⟨.meth (.c (.fn (.func n_syntax_reader_read) [] [])) [(t 55), (t 57)], (some 58), none⟩, ⟨.bslice false ⟨true, 6⟩ (.agg [z0, z0, z0, e0, e0, .nils]) 2 [(0, (t 54)), (1, (t 58))], (some 59), none⟩, ⟨.build [z0, z0, z0, e0, e0, .nils] [(0, 1, (t 53)), (5, 1, (t 59))], (some 60), none⟩, W 6 5 60] [((t 5), (t 55))]) <|
 q (r [M 1 61, D .neq 61 3 62, M 62 63, MT 0 64 63, ZT 64 65 63, AT 2 65 66 63, KT 66 67 63, UT 67 68 63, P 63 68 69] <|
 c 69 (.goto 0) k) <|
 r [L 6 5 70, W 6 4 70] <|
 .ret) (.seq k <|
 r [M 0 47, M 1 48, C n_syntax_reader_binary [t 47, t 48] 49, M 49 6] <|
 q (r [M 6 50, D .eql 50 0 51] <|
 c 51 (r [L 6 5 52, W 6 4 52] <|
 .ret) k) <|
 q (.draw [M 6 53, L 6 5 54, M 0 55, M 1 56, D .add 56 1 57, ⟨.meth (.c (.fn (.func n_syntax_reader_read) [] [])) [(t 55), (t 57)], (some 58), none⟩, ⟨.bslice false ⟨true, 6⟩ (.agg [z0, z0, z0, e0, e0, .nils]) 2 [(0, (t 54)), (1, (t 58))], (some 59), none⟩, ⟨.build [z0, z0, z0, e0, e0, .nils] [(0, 1, (t 53)), (5, 1, (t 59))], (some 60), none⟩, W 6 5 60] [((t 5), (t 55))]) <|
 q (r [M 1 61, D .neq 61 3 62, M 62 63, MT 0 64 63, ZT 64 65 63, AT 2 65 66 63, KT 66 67 63, UT 67 68 63, P 63 68 69] <|
 c 69 (.goto 0) k) <|
 r [L 6 5 70, W 6 4 70] <|
 .ret)
theorem of_syntax_reader_read : Of Tryz.prog n_syntax_reader_read 71 [.cell 4 true 6] b_syntax_reader_read := of_ ⟨[], [], [], [], [58], []⟩ Tryz.func171
def b_typing_rule : ACode := r [V z0 4, V (.bool false) 5] <|
 q (r [M 0 7] <|
 .block 0 (q (r [D .eql 7 3 9, M 9 8] <|
 c 8 k (r [D .eql 7 5 10, M 10 8] <|
 c 8 k (r [D .eql 7 6 11, M 11 8] <|
 c 8 k (R [D .eql 7 7 12, M 12 8])))) <|
 c 8 (r [M 1 13, ⟨.call false (.c (.fn (.func n_typing_all) [] [])) [(.c (i6 1)), (t 13)], (some 14), none⟩, V (i6 1) 4, M 14 5] <|
 .ret) (r [D .eql 7 4 16, M 16 15] <|
 c 15 (q (.draw [M 1 17, ⟨.iaddr ⟨false, 1⟩ none (t 17) (.c z0), (some 18), none⟩, K 18 19, M 1 20, ⟨.iaddr ⟨false, 1⟩ none (t 20) (.c (i6 1)), (some 21), none⟩, K 21 22, Q n_typing_either_Kind [t 19, t 22] 23, M 23 6] []) <|
 q (r [M 6 24, D .neq 24 2 25] <|
 c 25 (R [V (i6 1) 6]) k) <|
 r [M 6 26, M 6 27, M 1 28, C n_typing_all [t 27, t 28] 29, M 26 4, M 29 5] <|
 .ret) (q (r [D .eql 7 8 31, M 31 30] <|
 c 30 k (R [D .eql 7 9 32, M 32 30])) <|
 c 30 (q (.draw [M 1 33, ⟨.iaddr ⟨false, 1⟩ none (t 33) (.c z0), (some 34), none⟩, K 34 35, M 1 36, ⟨.iaddr ⟨false, 1⟩ none (t 36) (.c (i6 1)), (some 37), none⟩, K 37 38, Q n_typing_Fits [t 35, t 38] 39, V (i6 3) 4, M 39 5] []) <|
 .ret) (q (r [D .eql 7 10 41, M 41 40] <|
 c 40 k (r [D .eql 7 11 42, M 42 40] <|
 c 40 k (r [D .eql 7 12 43, M 43 40] <|
 c 40 k (R [D .eql 7 13 44, M 44 40])))) <|
 c 40 (q (.draw [M 1 45, ⟨.iaddr ⟨false, 1⟩ none (t 45) (.c z0), (some 46), none⟩, K 46 47, M 1 48, ⟨.iaddr ⟨false, 1⟩ none (t 48) (.c (i6 1)), (some 49), none⟩, K 49 50, Q n_typing_Fits [t 47, t 50] 51, M 51 52, MT 1 53 52, ⟨.call true (.c (.fn (.func n_slices_Contains_Kind) [] [])) [(t 53), (.c (i6 3))], (some 54), some (52, true)⟩, UT 54 55 52, P 52 55 56, V (i6 3) 4, M 56 5] []) <|
 .ret) (q (r [D .eql 7 14 58, M 58 57] <|
 c 57 k (R [D .eql 7 15 59, M 59 57])) <|
 c 57 (r [M 1 60, ⟨.call false (.c (.fn (.func n_typing_all) [] [])) [(.c (i6 3)), (t 60)], (some 61), none⟩, V (i6 3) 4, M 61 5] <|
 .ret) k)))))) <|
 q (.draw [M 1 62, ⟨.iaddr ⟨false, 1⟩ none (t 62) (.c (i6 1)), (some 63), none⟩, K 63 64, M 1 65, ⟨.iaddr ⟨false, 1⟩ none (t 65) (.c (i6 2)), (some 66), none⟩, K 66 67, Q n_typing_either_Kind [t 64, t 67] 68, M 1 69, ⟨.iaddr ⟨false, 1⟩ none (t 69) (.c z0), (some 70), none⟩, K 70 71, ⟨.call true (.c (.fn (.func n_typing_Fits) [] [])) [(t 71), (.c (i6 3))], (some 72), none⟩, M 72 73, MT 1 74 73, ⟨.iaddr ⟨false, 1⟩ none (t 74) (.c (i6 1)), (some 75), some (73, true)⟩, KT 75 76 73, MT 1 77 73, ⟨.iaddr ⟨false, 1⟩ none (t 77) (.c (i6 2)), (some 78), some (73, true)⟩, KT 78 79 73, QT n_typing_Fits [t 76, t 79] 80 73, P 73 80 81, M 68 4, M 81 5] []) <|
 .ret
theorem of_typing_rule : Of Tryz.prog n_typing_rule 82 [.tmp 4, .tmp 5] b_typing_rule := of_ {} Tryz.func172
def b_ref15_or : ACode := r [V z0 4] <|
 q (r [M 0 5, D .eql 5 0 6] <|
 c 6 (r [M 1 7, M 7 4] <|
 .ret) k) <|
 r [M 0 8, M 8 4] <|
 .ret
theorem of_ref15_or : Of Tryz.prog n_ref15_or 9 [.tmp 4] b_ref15_or := of_ {} Tryz.func181
def b_strings_Builder_WriteRune : ACode := r [V z0 4, V .nili 5] <|
 r [M 0 7, C n_strings_Builder_copyCheck [t 7] 8] <|
 r [M 0 9, Z 9 10, A 1 10 11, K 11 12, N 12 13, M 13 6] <|
 r [M 0 14, M 0 15, Z 15 16, A 1 16 17, K 17 18, M 1 19, C n_unicode_utf8_AppendRune [t 18, t 19] 20, Z 14 21, A 1 21 22, W 1 22 20] <|
 r [M 0 23, Z 23 24, A 1 24 25, K 25 26, N 26 27, M 6 28, B .sub 27 28 29, M 29 4, V .nili 5] <|
 .ret
theorem of_strings_Builder_WriteRune : Of Tryz.prog n_strings_Builder_WriteRune 30 [.tmp 4, .tmp 5] b_strings_Builder_WriteRune := of_ {} Tryz.func185
def b_lex_name : ACode := r [J [z0, e0, z0, z0, z0] 2, V z0 3] <|
 r [M 0 5, C n_lex_word [t 5] 6, M 6 4] <|
 q (r [M 4 7, D .gtr 7 16 8] <|
 c 8 (r [⟨.build [z0, e0, z0, z0, z0] [], (some 9), none⟩, W 5 2 9, V (i6 5) 3] <|
 .ret) k) <|
 r [M 0 10, M 4 11, ⟨.slS (t 10) none (some (t 11)), (some 12), none⟩, ⟨.build [z0, e0, z0, z0] [(0, 1, (.c (i6 1))), (1, 1, (t 12))], (some 13), none⟩, M 4 14, ⟨.build [z0, e0, z0, z0, z0] [(0, 4, (t 13)), (4, 1, (t 14))], (some 15), none⟩, W 5 2 15, V z0 3] <|
 .ret
theorem of_lex_name : Of Tryz.prog n_lex_name 16 [.cell 2 true 5, .tmp 3] b_lex_name := of_ {} Tryz.func187
def b_lex_number : ACode := r [J [z0, e0, z0, z0, z0] 2, V z0 3] <|
 r [M 0 8, ⟨.call false (.c (.fn (.func n_lex_run) [] [])) [(t 8), (.c (.fn (.func n_lex_digit) [] []))], (some 9), none⟩, M 9 4] <|
 q (r [M 4 10, D .gtr 10 1 11, M 11 12, MT 0 13 12, ⟨.idxS (t 13) (.c z0), (some 14), some (12, true)⟩, ⟨.bin .eql (t 14) (.c (.int .u8 48)), (some 15), some (12, true)⟩, P 12 15 16] <|
 c 16 (r [⟨.build [z0, e0, z0, z0, z0] [], (some 17), none⟩, W 5 2 17, V (i6 11) 3] <|
 .ret) k) <|
 r [V z0 5] <|
 q (r [M 4 18, V z0 19] <|
 .block 0 (.loop (r [B .lss 19 18 20] <|
 q (c 20 k (.exit 0)) <|
 q (.block 1 (r [M 19 21, M 21 6] <|
 r [M 0 22, M 6 23, ⟨.idxS (t 22) (t 23), (some 24), none⟩, ⟨.bin .sub (t 24) (.c (.int .u8 48)), (some 25), none⟩, ⟨.cint .i64 (t 25), (some 26), none⟩, M 26 7] <|
 q (r [M 5 27, M 7 28, ⟨.bin .sub (.c (i6 9223372036854775807)) (t 28), (some 29), none⟩, D .quo 29 10 30, B .gtr 27 30 31] <|
 c 31 (r [⟨.build [z0, e0, z0, z0, z0] [], (some 32), none⟩, W 5 2 32, V (i6 15) 3] <|
 .ret) k) <|
 R [M 5 33, D .mul 33 10 34, M 7 35, B .add 34 35 36, M 36 5])) <|
 R [D .add 19 1 37, M 37 19]))) <|
 r [M 5 38, ⟨.build [z0, e0, z0, z0] [(0, 1, (.c (i6 2))), (2, 1, (t 38))], (some 39), none⟩, M 4 40, ⟨.build [z0, e0, z0, z0, z0] [(0, 4, (t 39)), (4, 1, (t 40))], (some 41), none⟩, W 5 2 41, V z0 3] <|
 .ret
theorem of_lex_number : Of Tryz.prog n_lex_number 42 [.cell 2 true 5, .tmp 3] b_lex_number := of_ {} Tryz.func188
def b_lex_text : ACode := r [J [z0, e0, z0, z0, z0] 2, V z0 3] <|
 r [⟨.mkvec ⟨false, 1⟩, (some 4), none⟩] <|
 q (r [V (i6 1) 5] <|
 .block 0 (.loop (q (r [M 5 7, M 0 8, S 8 9, B .lss 7 9 10] <|
 c 10 k (.exit 0)) <|
 q (.block 1 (r [M 0 13, M 5 14, ⟨.idxS (t 13) (t 14), (some 15), none⟩, M 15 6] <|
 q (.block 2 (r [M 6 17, ⟨.bin .eql (t 17) (.c (.int .u8 34)), (some 18), none⟩, M 18 19, MT 4 20 19, NT 20 21 19, DT .gtr 21 40 22 19, P 19 22 23, M 23 16] <|
 c 16 (r [⟨.build [z0, e0, z0, z0, z0] [], (some 24), none⟩, W 5 2 24, V (i6 5) 3] <|
 .ret) (r [M 6 26, ⟨.bin .eql (t 26) (.c (.int .u8 34)), (some 27), none⟩, M 27 25] <|
 c 25 (r [M 4 28, ⟨.b2s (t 28), (some 29), none⟩, ⟨.build [z0, e0, z0, z0] [(0, 1, (.c (i6 3))), (1, 1, (t 29))], (some 30), none⟩, M 5 31, D .add 31 1 32, ⟨.build [z0, e0, z0, z0, z0] [(0, 4, (t 30)), (4, 1, (t 32))], (some 33), none⟩, W 5 2 33, V z0 3] <|
 .ret) (r [M 6 35, ⟨.bin .eql (t 35) (.c (.int .u8 92)), (some 36), none⟩, M 36 34] <|
 c 34 (r [M 5 37, D .add 37 1 38, M 38 5] <|
 r [M 5 39, M 0 40, S 40 41, B .eql 39 41 42, M 42 43, MF 0 44 43, MF 5 45 43, ⟨.idxS (t 44) (t 45), (some 46), some (43, false)⟩, ⟨.bin .neq (t 46) (.c (.int .u8 34)), (some 47), some (43, false)⟩, MF 47 48 43, MT 0 49 48, MT 5 50 48, ⟨.idxS (t 49) (t 50), (some 51), some (48, true)⟩, ⟨.bin .neq (t 51) (.c (.int .u8 92)), (some 52), some (48, true)⟩, PF 48 52 53 43, O 43 53 54] <|
 c 54 (r [⟨.build [z0, e0, z0, z0, z0] [], (some 55), none⟩, W 5 2 55, V (i6 11) 3] <|
 .ret) k) (r [M 6 57, ⟨.bin .lss (t 57) (.c (.int .u8 32)), (some 58), none⟩, M 58 59, MF 6 60 59, ⟨.bin .gtr (t 60) (.c (.int .u8 126)), (some 61), some (59, false)⟩, O 59 61 62, M 62 56] <|
 c 56 (r [⟨.build [z0, e0, z0, z0, z0] [], (some 63), none⟩, W 5 2 63, V (i6 11) 3] <|
 .ret) k))))) <|
 R [M 4 64, M 0 65, M 5 66, ⟨.idxS (t 65) (t 66), (some 67), none⟩, ⟨.bslice false ⟨false, 1⟩ (.int .u8 0) 1 [(0, (t 67))], (some 68), none⟩, ⟨.app none ⟨false, 1⟩ (t 64) (t 68), (some 69), none⟩, M 69 4])) <|
 R [M 5 11, D .add 11 1 12, M 12 5]))) <|
 r [⟨.build [z0, e0, z0, z0, z0] [], (some 70), none⟩, W 5 2 70, V (i6 11) 3] <|
 .ret
theorem of_lex_text : Of Tryz.prog n_lex_text 71 [.cell 2 true 5, .tmp 3] b_lex_text := of_ ⟨[], [], [(4, ⟨false, 1⟩)], [], [], []⟩ Tryz.func189
def b_lex_mark : ACode := r [X 0 1, J [z0, e0, z0, z0, z0] 2, V z0 3] <|
 r [C n_lex_marks [] 6, M 6 4] <|
 r [M 4 7, ⟨.mkfn (.func n_lex_mark_1) [] [(t 1)], (some 8), none⟩, C n_slices_IndexFunc_string [t 7, t 8] 9, M 9 5] <|
 q (r [M 5 10, D .lss 10 0 11] <|
 c 11 (r [⟨.build [z0, e0, z0, z0, z0] [], (some 12), none⟩, W 5 2 12, V (i6 11) 3] <|
 .ret) k) <|
 q (.draw [M 4 13, M 5 14, I false 1 13 14 15, K 15 16, ⟨.build [z0, e0, z0, z0] [(0, 1, (.c (i6 4))), (1, 1, (t 16))], (some 17), none⟩, M 4 18, M 5 19, I false 1 18 19 20, K 20 21, S 21 22, ⟨.build [z0, e0, z0, z0, z0] [(0, 4, (t 17)), (4, 1, (t 22))], (some 23), none⟩, W 5 2 23, V z0 3] []) <|
 .ret
theorem of_lex_mark : Of Tryz.prog n_lex_mark 24 [.cell 2 true 5, .tmp 3] b_lex_mark := of_ {} Tryz.func190
def b_cell_reader_expr : ACode := r [J [z0, z0, z0, e0, e0, .nils] 2] <|
 q (r [M 0 6, Z 6 7, A 2 7 8, K 8 9] <|
 c 9 (r [⟨.build [z0, z0, z0, e0, e0, .nils] [], (some 10), none⟩, W 6 2 10] <|
 .ret) k) <|
 q (.draw [M 0 12, Z 12 13, A 0 13 14, A 0 14 15, K 15 16, M 0 17, Z 17 18, A 0 18 19, A 1 19 20, K 20 21, ⟨.call true (.c (.fn (.func n_syntax_Read) [] [])) [(t 16), (t 21), (.c (i6 4))], (some 22), none⟩, M 22 11, E 11 0 23, E 11 1 24, E 11 2 25, J [z0, z0, z0, e0, e0, .nils] 3, W 6 3 23, M 24 4, M 25 5] []) <|
 r [M 0 26, M 0 27, M 4 28, M 5 29, D .neq 29 0 30, Z 26 31, A 0 31 32, A 1 32 33, W 1 33 28, Z 27 34, A 2 34 35, W 1 35 30] <|
 r [L 6 3 36, W 6 2 36] <|
 .ret
theorem of_cell_reader_expr : Of Tryz.prog n_cell_reader_expr 37 [.cell 2 true 6] b_cell_reader_expr := of_ {} Tryz.func191
def b_syntax_reader_on : ACode := r [V (.bool false) 6] <|
 r [M 0 8, C n_syntax_reader_now [t 8] 9, J [z0, e0, z0, z0] 7, W 4 7 9] <|
 q (r [A 0 7 10, K 10 11, M 1 12, B .neq 11 12 13, M 13 14, AF 1 7 15 14, KF 15 16 14, MF 2 17 14, BF .neq 16 17 18 14, O 14 18 19] <|
 c 19 (r [V (.bool false) 6] <|
 .ret) k) <|
 r [M 0 20, Z 20 21, A 1 21 22, K 22 23, D .add 23 1 24, Z 20 25, A 1 25 26, W 1 26 24] <|
 r [V (.bool true) 6] <|
 .ret
theorem of_syntax_reader_on : Of Tryz.prog n_syntax_reader_on 27 [.tmp 6] b_syntax_reader_on := of_ {} Tryz.func192
def b_syntax_reader_branch : ACode := r [J [z0, z0, z0, e0, e0, .nils] 2] <|
 r [M 0 5, ⟨.call false (.c (.fn (.func n_syntax_reader_read) [] [])) [(t 5), (.c z0)], (some 6), none⟩, J [z0, z0, z0, e0, e0, .nils] 3, W 6 3 6] <|
 r [M 0 7, ⟨.call false (.c (.fn (.func n_syntax_reader_must) [] [])) [(t 7), (.c (i6 1)), (.c (.str [116, 104, 101, 110]))], (some 8), none⟩] <|
 r [M 0 9, ⟨.call false (.c (.fn (.func n_syntax_reader_read) [] [])) [(t 9), (.c z0)], (some 10), none⟩, J [z0, z0, z0, e0, e0, .nils] 4, W 6 4 10] <|
 r [M 0 11, ⟨.call false (.c (.fn (.func n_syntax_reader_must) [] [])) [(t 11), (.c (i6 1)), (.c (.str [101, 108, 115, 101]))], (some 12), none⟩] <|
 q (.draw [L 6 3 13, L 6 4 14, M 0 15, ⟨.meth (.c (.fn (.func n_syntax_reader_read) [] [])) [(t 15), (.c z0)], (some 16), none⟩, ⟨.bslice false ⟨true, 6⟩ (.agg [z0, z0, z0, e0, e0, .nils]) 3 [(0, (t 13)), (1, (t 14)), (2, (t 16))], (some 17), none⟩, ⟨.build [z0, z0, z0, e0, e0, .nils] [(0, 1, (.c (i6 16))), (5, 1, (t 17))], (some 18), none⟩, W 6 2 18] [((t 3), (t 15)), ((t 4), (t 15))]) <|
 .ret
theorem of_syntax_reader_branch : Of Tryz.prog n_syntax_reader_branch 19 [.cell 2 true 6] b_syntax_reader_branch := of_ ⟨[], [], [], [], [16], []⟩ Tryz.func193
def b_syntax_reader_atom : ACode := r [J [z0, z0, z0, e0, e0, .nils] 2] <|
 q (r [M 0 8, ⟨.call false (.c (.fn (.func n_syntax_reader_on) [] [])) [(t 8), (.c (i6 4)), (.c (.str [40]))], (some 9), none⟩] <|
 c 9 (r [M 0 10, ⟨.call false (.c (.fn (.func n_syntax_reader_read) [] [])) [(t 10), (.c z0)], (some 11), none⟩, J [z0, z0, z0, e0, e0, .nils] 3, W 6 3 11] <|
 r [M 0 12, ⟨.call false (.c (.fn (.func n_syntax_reader_must) [] [])) [(t 12), (.c (i6 4)), (.c (.str [41]))], (some 13), none⟩] <|
 r [L 6 3 14, W 6 2 14] <|
 .ret) k) <|
 r [M 0 15, C n_syntax_reader_now [t 15] 16, J [z0, e0, z0, z0] 4, W 4 4 16] <|
 r [⟨.build [z0, z0, z0, e0, e0, .nils] [(0, 1, (.c (i6 1)))], (some 17), none⟩, J [z0, z0, z0, e0, e0, .nils] 5, W 6 5 17] <|
 q (r [A 0 4 18, K 18 19] <|
 .block 0 (r [D .eql 19 2 25, M 25 24] <|
 c 24 (R [A 2 4 26, K 26 27, ⟨.build [z0, z0, e0] [(0, 1, (.c (i6 1))), (1, 1, (t 27))], (some 28), none⟩, A 1 5 29, W 3 29 28]) (r [D .eql 19 3 31, M 31 30] <|
 c 30 (R [A 1 4 32, K 32 33, ⟨.build [z0, z0, e0] [(0, 1, (.c (i6 2))), (2, 1, (t 33))], (some 34), none⟩, A 1 5 35, W 3 35 34]) (r [D .eql 19 1 37, M 37 36] <|
 c 36 (r [A 1 4 39, K 39 40, C n_syntax_word [t 40] 41, M 41 38, E 38 0 42, E 38 1 43, J [z0, z0, e0] 6, W 3 6 42, M 43 7] <|
 q (r [M 7 44, U 44 45, M 45 46, AT 1 4 47 46, KT 47 48 46, CT n_lex_Name [t 48] 49 46, UT 49 50 46, P 46 50 51] <|
 c 51 (r [M 0 52, Z 52 53, A 2 53 54, ⟨.store 1 (t 54) (.c (.bool true)), none, none⟩] <|
 r [⟨.build [z0, z0, z0, e0, e0, .nils] [], (some 55), none⟩, W 6 2 55] <|
 .ret) k) <|
 r [L 3 6 56, A 1 5 57, W 3 57 56] <|
 r [M 7 58, U 58 59] <|
 c 59 (R [A 1 4 60, K 60 61, ⟨.build [z0, z0, z0, e0, e0, .nils] [(0, 1, (.c (i6 2))), (4, 1, (t 61))], (some 62), none⟩, W 6 5 62]) k) (r [M 0 20, Z 20 21, A 2 21 22, ⟨.store 1 (t 22) (.c (.bool true)), none, none⟩] <|
 r [⟨.build [z0, z0, z0, e0, e0, .nils] [], (some 23), none⟩, W 6 2 23] <|
 .ret))))) <|
 r [M 0 63, Z 63 64, A 1 64 65, K 65 66, D .add 66 1 67, Z 63 68, A 1 68 69, W 1 69 67] <|
 r [L 6 5 70, W 6 2 70] <|
 .ret
theorem of_syntax_reader_atom : Of Tryz.prog n_syntax_reader_atom 71 [.cell 2 true 6] b_syntax_reader_atom := of_ {} Tryz.func194
def b_syntax_reader_binary : ACode := r [V z0 4] <|
 q (r [C n_syntax_binaries [] 8, N 8 9, V z0 10] <|
 .block 0 (.loop (r [B .lss 10 9 11] <|
 q (c 11 k (.exit 0)) <|
 q (.block 1 (r [I true 3 8 10 12, L 3 12 13, J [z0, e0, z0] 6, W 3 6 13] <|
 r [V (i6 4) 7] <|
 q (r [A 2 6 14, K 14 15, D .lss 15 3 16] <|
 c 16 (R [V (i6 1) 7]) k) <|
 r [A 2 6 17, K 17 18, M 1 19, B .eql 18 19 20, M 20 21, MT 0 22 21, MT 7 23 21, AT 1 6 24 21, KT 24 25 21, CT n_syntax_reader_on [t 22, t 23, t 25] 26 21, P 21 26 27] <|
 c 27 (r [A 0 6 28, K 28 29, M 29 4] <|
 .ret) k)) <|
 R [D .add 10 1 30, M 30 10]))) <|
 r [V z0 4] <|
 .ret
theorem of_syntax_reader_binary : Of Tryz.prog n_syntax_reader_binary 31 [.tmp 4] b_syntax_reader_binary := of_ {} Tryz.func195
def b_typing_all : ACode := r [V (.bool false) 4] <|
 q (r [M 1 7, N 7 8, V z0 9] <|
 .block 0 (.loop (r [B .lss 9 8 10] <|
 q (c 10 k (.exit 0)) <|
 q (.block 1 (r [I false 1 7 9 11, K 11 12, M 12 6] <|
 r [M 6 13, M 0 14, C n_typing_Fits [t 13, t 14] 15, U 15 16] <|
 c 16 (r [V (.bool false) 4] <|
 .ret) k)) <|
 R [D .add 9 1 17, M 17 9]))) <|
 r [V (.bool true) 4] <|
 .ret
theorem of_typing_all : Of Tryz.prog n_typing_all 18 [.tmp 4] b_typing_all := of_ {} Tryz.func196
def b_typing_either_Kind : ACode := r [V z0 4] <|
 r [V z0 5] <|
 q (r [M 0 6, M 5 7, B .neq 6 7 8] <|
 c 8 (r [M 0 9, M 9 4] <|
 .ret) k) <|
 r [M 1 10, M 10 4] <|
 .ret
theorem of_typing_either_Kind : Of Tryz.prog n_typing_either_Kind 11 [.tmp 4] b_typing_either_Kind := of_ {} Tryz.func197
def b_slices_Contains_Kind : ACode := r [V (.bool false) 4] <|
 r [M 0 5, M 1 6, C n_slices_Index_Kind [t 5, t 6] 7, D .geq 7 0 8, M 8 4] <|
 .ret
theorem of_slices_Contains_Kind : Of Tryz.prog n_slices_Contains_Kind 9 [.tmp 4] b_slices_Contains_Kind := of_ {} Tryz.func198
def b_lex_marks : ACode := r [V .nils 0] <|
 r [⟨.bslice false ⟨false, 1⟩ e0 16 [(0, (.c (.str [46, 46]))), (1, (.c (.str [33, 61]))), (2, (.c (.str [60, 61]))), (3, (.c (.str [62, 61]))), (4, (.c (.str [40]))), (5, (.c (.str [41]))), (6, (.c (.str [91]))), (7, (.c (.str [93]))), (8, (.c (.str [44]))), (9, (.c (.str [43]))), (10, (.c (.str [45]))), (11, (.c (.str [42]))), (12, (.c (.str [47]))), (13, (.c (.str [61]))), (14, (.c (.str [60]))), (15, (.c (.str [62])))], (some 1), none⟩, M 1 0] <|
 .ret
theorem of_lex_marks : Of Tryz.prog n_lex_marks 2 [.tmp 0] b_lex_marks := of_ {} Tryz.func201
def b_slices_IndexFunc_string : ACode := r [V z0 4] <|
 q (r [M 0 6, N 6 7, V z0 8] <|
 .block 0 (.loop (r [B .lss 8 7 9] <|
 q (c 9 k (.exit 0)) <|
 q (.block 1 (r [M 8 10, M 10 5] <|
 r [M 1 11, M 0 12, M 5 13, I false 1 12 13 14, K 14 15, ⟨.call false (t 11) [(t 15)], (some 16), none⟩] <|
 c 16 (r [M 5 17, M 17 4] <|
 .ret) k)) <|
 R [D .add 8 1 18, M 18 8]))) <|
 r [V (i6 (-1)) 4] <|
 .ret
theorem of_slices_IndexFunc_string : Of Tryz.prog n_slices_IndexFunc_string 19 [.tmp 4] b_slices_IndexFunc_string := of_ {} Tryz.func202
def b_lex_mark_1 : ACode := r [V (.bool false) 3] <|
 r [K 1 4, M 0 5, C n_strings_HasPrefix [t 4, t 5] 6, M 6 3] <|
 .ret
theorem of_lex_mark_1 : Of Tryz.prog n_lex_mark_1 7 [.tmp 3] b_lex_mark_1 := of_ {} Tryz.func203
def b_strings_HasPrefix : ACode := r [V (.bool false) 4] <|
 r [M 0 5, M 1 6, C n_internal_stringslite_HasPrefix [t 5, t 6] 7, M 7 4] <|
 .ret
theorem of_strings_HasPrefix : Of Tryz.prog n_strings_HasPrefix 8 [.tmp 4] b_strings_HasPrefix := of_ {} Tryz.func204
def b_syntax_reader_now : ACode := r [J [z0, e0, z0, z0] 2] <|
 q (q (.draw [M 0 3, Z 3 4, A 2 4 5, K 5 6, M 6 7, MF 0 8 7, ZF 8 9 7, AF 1 9 10 7, KF 10 11 7, MF 0 12 7, ZF 12 13 7, AF 0 13 14 7, KF 14 15 7, NF 15 16 7, BF .geq 11 16 17 7, O 7 17 18] []) <|
 c 18 (r [⟨.build [z0, e0, z0, z0] [], (some 19), none⟩, W 4 2 19] <|
 .ret) k) <|
 q (.draw [M 0 20, Z 20 21, A 0 21 22, K 22 23, M 0 24, Z 24 25, A 1 25 26, K 26 27, I true 4 23 27 28, L 4 28 29, W 4 2 29] []) <|
 .ret
theorem of_syntax_reader_now : Of Tryz.prog n_syntax_reader_now 30 [.cell 2 true 4] b_syntax_reader_now := of_ {} Tryz.func205
def b_syntax_reader_must : ACode := r [M 0 6, M 1 7, M 2 8, C n_syntax_reader_on [t 6, t 7, t 8] 9, U 9 10] <|
 c 10 (R [M 0 11, Z 11 12, A 2 12 13, ⟨.store 1 (t 13) (.c (.bool true)), none, none⟩]) k
theorem of_syntax_reader_must : Of Tryz.prog n_syntax_reader_must 14 [] b_syntax_reader_must := of_ {} Tryz.func206
def b_syntax_word : ACode := r [J [z0, z0, e0] 2, V (.bool false) 3] <|
 q (r [M 0 4] <|
 .block 0 (r [⟨.bin .eql (t 4) (.c (.str [110, 117, 108, 108])), (some 6), none⟩, M 6 5] <|
 c 5 (r [⟨.build [z0, z0, e0] [], (some 7), none⟩, W 3 2 7, V (.bool true) 3] <|
 .ret) (r [⟨.bin .eql (t 4) (.c (.str [102, 97, 108, 115, 101])), (some 9), none⟩, M 9 8] <|
 c 8 (r [⟨.build [z0, z0, e0] [(0, 1, (.c (i6 3)))], (some 10), none⟩, W 3 2 10, V (.bool true) 3] <|
 .ret) (r [⟨.bin .eql (t 4) (.c (.str [116, 114, 117, 101])), (some 12), none⟩, M 12 11] <|
 c 11 (r [⟨.build [z0, z0, e0] [(0, 1, (.c (i6 3))), (1, 1, (.c (i6 1)))], (some 13), none⟩, W 3 2 13, V (.bool true) 3] <|
 .ret) k)))) <|
 r [⟨.build [z0, z0, e0] [], (some 14), none⟩, W 3 2 14, V (.bool false) 3] <|
 .ret
theorem of_syntax_word : Of Tryz.prog n_syntax_word 15 [.cell 2 true 3, .tmp 3] b_syntax_word := of_ {} Tryz.func207
def b_slices_Index_Kind : ACode := r [V z0 4] <|
 q (r [M 0 6, N 6 7, V z0 8] <|
 .block 0 (.loop (r [B .lss 8 7 9] <|
 q (c 9 k (.exit 0)) <|
 q (.block 1 (r [M 8 10, M 10 5] <|
 r [M 1 11, M 0 12, M 5 13, I false 1 12 13 14, K 14 15, B .eql 11 15 16] <|
 c 16 (r [M 5 17, M 17 4] <|
 .ret) k)) <|
 R [D .add 8 1 18, M 18 8]))) <|
 r [V (i6 (-1)) 4] <|
 .ret
theorem of_slices_Index_Kind : Of Tryz.prog n_slices_Index_Kind 19 [.tmp 4] b_slices_Index_Kind := of_ {} Tryz.func208
def b_internal_stringslite_HasPrefix : ACode := r [V (.bool false) 4] <|
 r [M 0 5, S 5 6, M 1 7, S 7 8, B .geq 6 8 9, M 9 10, MT 0 11 10, MT 1 12 10, ST 12 13 10, ⟨.slS (t 11) none (some (t 13)), (some 14), some (10, true)⟩, MT 1 15 10, BT .eql 14 15 16 10, P 10 16 17, M 17 4] <|
 .ret
theorem of_internal_stringslite_HasPrefix : Of Tryz.prog n_internal_stringslite_HasPrefix 18 [.tmp 4] b_internal_stringslite_HasPrefix := of_ {} Tryz.func214
def b_unicode_utf8_AppendRune : ACode := r [V .nils 4] <|
 q (r [M 1 5, ⟨.cint .u32 (t 5), (some 6), none⟩, ⟨.bin .leq (t 6) (.c (.int .u32 127)), (some 7), none⟩] <|
 c 7 (r [M 0 8, M 1 9, ⟨.cint .u8 (t 9), (some 10), none⟩, ⟨.bslice false ⟨false, 1⟩ (.int .u8 0) 1 [(0, (t 10))], (some 11), none⟩, ⟨.app (some 5) ⟨false, 1⟩ (t 8) (t 11), (some 12), none⟩, M 12 4] <|
 .ret) k) <|
 r [M 0 13, M 1 14, C n_unicode_utf8_appendRuneNonASCII [t 13, t 14] 15, M 15 4] <|
 .ret
theorem of_unicode_utf8_AppendRune : Of Tryz.prog n_unicode_utf8_AppendRune 16 [.tmp 4] b_unicode_utf8_AppendRune := of_ ⟨[], [], [], [12], [], []⟩ Tryz.func200
end Go.Proofs.YthkhdedadacakaaGreatDoor
namespace Go.AM
variable {P : Program}
theorem ab_ {p : Prop} (h : False := by first | omega | (simp_all; done) | (simp_all; omega)) : p := h.elim
theorem at_ {p : Prop} (h : p := by simp (disch := omega) only [at_nil, at_cons, and_true, go_sem, wrapK_i64, wrapK_u8, wrapK_u64, Nat.reduceAdd, Nat.reduceBEq, ↓reduceIte, Int.natCast_add, Int.cast_ofNat_Int] <;> (try trivial) <;> (try omega) <;> (try (repeat (first | trivial | (refine And.intro ?_ ?_) | (congr 1; omega))))) : p := h
theorem ou_ {p : Prop} (h : p := by repeat (first | exact out_ovl _ _ _ | refine out_upd rfl ?_ | refine out_ovl2 rfl ?_ | (simp only [puts_cons, puts_nil]))) : p := h
theorem vw_ {p : Prop} (h : p := by first | exact ViewL.refl (by simp) | (repeat (first | exact ViewL.nil _ | refine ViewL.cons ?_ ?_ | exact View.nils _ | exact View.refl _ (by simp) | exact View.weak _ _ _ (by simp) | exact View.cell _ _ rfl rfl (by simp) | refine View.fnL ?_ ?_ | exact View.vec rfl (by simp) (by simp) (by simp) | refine View.lstL ?_ | refine View.agg' ?_))) : p := h
theorem bs_ {K : AV → Prop} {xs : List AV} {m n : Nat} {s : List UInt8} (hk : K (.str s)) (hx : xs = s.map fun b => AV.int .u8 b.toNat) (hm : m = xs.length) (hn : n = xs.length) : b2sO (some (.vec ⟨false, 1⟩ xs)) m 0 n (.mk : Tg K) := b2sO_whole s hx hm hn hk
theorem go_ {G K : Prop} (k : K) (h : K → G := by
    first
    | (intro k; simp (disch := omega) only [go_sem, hQr, hQn, hQp, wrapK_i64, wrapK_u8, wrapK_u64, Nat.reduceAdd, Nat.reduceBEq, ↓reduceIte]; exact k)
    | (intro k; with_reducible refine req_d ?_ k; first | omega | (simp; done) | (simp; omega) | assumption)
    | (intro k; with_reducible exact scope_no k)
    | (intro k; with_reducible exact bs_ k rfl (by simp) (by simp))) : G := h k
theorem gn_ {G K : Prop} (k : K) (h : K → G := by
    first
    | (intro k; simp (disch := omega) only [go_sem, hQr, hQn, hQp, wrapK_i64, wrapK_u8, wrapK_u64, Nat.reduceAdd, Nat.reduceBEq, ↓reduceIte]; exact k)
    | (intro k; with_reducible refine req_d ?_ k; first | omega | (simp; done) | (simp; omega) | assumption)
    | (intro k; with_reducible exact bs_ k rfl (by simp) (by simp))) : G := h k
theorem cc_ {t : Bool} {T E p q : Prop} (h : p → T) (h' : q → E) (hp : (t = true) = p) (hq : (t = false) = q) : condA (.bool t) (.mk : Tg (T, E)) := by
  subst hp hq; exact condA_i h h'
theorem gk_ {t b : Bool} {T E U p q : Prop} (h : p → T) (h' : q → E) (hp : (t = b) = p) (hq : (t = !b) = q) : guardK (.bool t) b (.mk : Tg (T, E, U)) := by
  subst hp hq; exact guardK_i h h'
theorem br_ {p q T E G : Prop} (h : p → T) (h' : q → E) (hg : (p → T) → (q → E) → G := by
    intro h h'
    with_reducible first | refine cc_ h h' ?_ ?_ | refine gk_ h h' ?_ ?_
    all_goals
      (try simp only [decide_eq_true_eq, decide_eq_false_iff_not, beq_iff_eq, beq_eq_false_iff_ne, Bool.not_eq_true', Bool.not_eq_false', Bool.not_true, Bool.not_false, Int.not_lt, Int.not_le, ne_eq, Int.ofNat_lt, Int.ofNat_le, not_true_eq_false, reduceCtorEq, Int.toNat_zero])
      exact rfl) : G := hg h h'
theorem cf_ {n : FuncId} {args : List AV} {r : AV} {K G : Prop} (h : CallF P n args r) (k : K) (hg : CallF P n args r → K → G := by
    intro h k; with_reducible first | exact callL_f h k | exact callD_f h k) : G := hg h k
theorem cw_ {n : FuncId} {args : List AV} {r : AV} {K G : Prop} (h : CallF P n args r) (k : K) (hg : CallF P n args r → K → G := by
    intro h k; with_reducible first | refine callL_w h ?_ k | refine callD_w h ?_ k
    exact vw_) : G := hg h k
theorem cv_ {n : FuncId} {args : List AV} {r : AV} {K G : Prop} (h : CallF P n args r) (k : K) (hg : CallF P n args r → K → G := by
    intro h k; with_reducible first | refine callL_v h ?_ ?_ k | refine callD_v h ?_ ?_ k
    · exact vw_
    · simp [AV.flat, AV.flatL]) : G := hg h k
theorem cm_ {f : FuncId} {off : Nat} {args cs ds : List AV} {r : AV} {K G : Prop} (h : CallM P f off args cs ds r) (k : K) (hg : CallM P f off args cs ds r → K → G := by
    intro h k; with_reducible first | exact callL_m h rfl k | exact methT_m h rfl k | exact callD_q h rfl k) : G := hg h k
end Go.AM
namespace Go.Proofs.YthkhdedadacakaaGreatDoor
open Go.AM
abbrev Str := List UInt8
structure Val where
  kind : Int
  n : Int
  s : Str
deriving DecidableEq, Inhabited
structure Tok where
  kind : Int
  s : Str
  n : Int
  pos : Int
deriving DecidableEq, Inhabited
inductive Expr where
  | mk (op : Int) (v : Val) (s : Str) (l : List Expr)
instance : Inhabited Expr := ⟨.mk 0 ⟨0, 0, []⟩ [] []⟩
def Expr.op : Expr → Int | .mk op _ _ _ => op
def Expr.v : Expr → Val | .mk _ v _ _ => v
def Expr.s : Expr → Str | .mk _ _ s _ => s
def Expr.l : Expr → List Expr | .mk _ _ _ l => l
structure Test where
  kind : Int
  a : Expr
  b : Expr
  lo : Bool
  hi : Bool
deriving Inhabited
structure Cell where
  any : Bool
  neg : Bool
  tests : List Test
deriving Inhabited
structure Col where
  name : Str
  kind : Int
  order : List Val
deriving Inhabited
structure Rule where
  cells : List Str
  outs : List Str
deriving Inhabited
structure Table where
  name : Str
  ins : List Col
  outs : List Col
  policy : Int
  agg : Int
  rules : List Rule
deriving Inhabited
structure Line where
  cells : List Cell
  outs : List Expr
deriving Inhabited
structure Ready where
  table : Table
  lines : List Line
deriving Inhabited
abbrev I (n : Int) : AV := .int .i64 n
abbrev E1 : El := ⟨false, 1⟩
abbrev EV : El := ⟨true, 3⟩
abbrev ET : El := ⟨true, 4⟩
abbrev EX : El := ⟨true, 6⟩
abbrev ES : El := ⟨true, 15⟩
abbrev EC : El := ⟨true, 3⟩
abbrev ER : El := ⟨true, 2⟩
def eVal (v : Val) : AV := .agg [I v.kind, I v.n, .str v.s]
def eTok (t : Tok) : AV := .agg [I t.kind, .str t.s, I t.n, I t.pos]
def eStr (s : Str) : AV := .str s
def eExpr : Expr → AV
  | .mk op v s l => .agg [I op, I v.kind, I v.n, .str v.s, .str s, .lst false EX (l.map eExpr)]
def eExprs (l : List Expr) : AV := .lst false EX (l.map eExpr)
def eTest (t : Test) : AV := .agg [I t.kind, I t.a.op, I t.a.v.kind, I t.a.v.n, .str t.a.v.s, .str t.a.s, eExprs t.a.l, I t.b.op, I t.b.v.kind, I t.b.v.n, .str t.b.v.s, .str t.b.s, eExprs t.b.l, .bool t.lo, .bool t.hi]
def eTests (l : List Test) : AV := .lst false ES (l.map eTest)
def eCell (c : Cell) : AV := .agg [.bool c.any, .bool c.neg, eTests c.tests]
def eVals (l : List Val) : AV := .lst false EV (l.map eVal)
def eToks (l : List Tok) : AV := .lst false ET (l.map eTok)
def eStrs (l : List Str) : AV := .lst false E1 (l.map eStr)
def eCol (c : Col) : AV := .agg [.str c.name, I c.kind, eVals c.order]
def eCols (l : List Col) : AV := .lst false EC (l.map eCol)
def eRule (r : Rule) : AV := .agg [eStrs r.cells, eStrs r.outs]
def eRules (l : List Rule) : AV := .lst false ER (l.map eRule)
def cTable (t : Table) : List AV := [.str t.name, eCols t.ins, eCols t.outs, I t.policy, I t.agg, eRules t.rules]
def eTable (t : Table) : AV := .agg (cTable t)
def eCells (l : List Cell) : AV := .lst false EC (l.map eCell)
def eLine (l : Line) : AV := .agg [eCells l.cells, eExprs l.outs]
def eLines (l : List Line) : AV := .lst false ER (l.map eLine)
def eReady (r : Ready) : AV := .agg [.str r.table.name, eCols r.table.ins, eCols r.table.outs, I r.table.policy, I r.table.agg, eRules r.table.rules, eLines r.lines]
theorem eExpr_eq (x : Expr) : eExpr x = .agg [I x.op, I x.v.kind, I x.v.n, .str x.v.s, .str x.s, .lst false EX (x.l.map eExpr)] := by
  cases x; simp only [eExpr]; rfl
theorem Expr.eta (x : Expr) : Expr.mk x.op ⟨x.v.kind, x.v.n, x.v.s⟩ x.s x.l = x := by cases x; rfl
theorem Expr.ind {C : Expr → Prop} (h : ∀ op v s l, (∀ y ∈ l, C y) → C (.mk op v s l)) : ∀ x, C x
  | .mk op v s l => h op v s l fun y _ => Expr.ind h y
attribute [go_sem] eExpr_eq eVal eTok eTest eCell eCol eRule cTable eTable eLine eReady eStr eExprs eTests eVals eToks eStrs eCols eRules eCells eLines
@[go_sem] theorem Expr.op_mk (op : Int) (v : Val) (s : Str) (l : List Expr) : (Expr.mk op v s l).op = op := _root_.id rfl
@[go_sem] theorem Expr.v_mk (op : Int) (v : Val) (s : Str) (l : List Expr) : (Expr.mk op v s l).v = v := _root_.id rfl
@[go_sem] theorem Expr.s_mk (op : Int) (v : Val) (s : Str) (l : List Expr) : (Expr.mk op v s l).s = s := _root_.id rfl
@[go_sem] theorem Expr.l_mk (op : Int) (v : Val) (s : Str) (l : List Expr) : (Expr.mk op v s l).l = l := _root_.id rfl
attribute [go_sem] Expr.eta
theorem pur_eVal (v : Val) : (eVal v).pur = true := rfl
theorem pur_eTok (t : Tok) : (eTok t).pur = true := rfl
theorem pur_eExpr (x : Expr) : (eExpr x).pur = true := by
  induction x using Expr.ind with
  | h op v s l ih =>
    simp only [eExpr, AV.pur, AV.purL, Bool.true_and, Bool.and_true]
    rw [purL_iff]; intro a ha
    obtain ⟨y, hy, rfl⟩ := List.mem_map.1 ha
    exact ih y hy
theorem pur_eExprs (l : List Expr) : (eExprs l).pur = true := by simp only [eExprs, AV.pur]; exact purL_map _ _ pur_eExpr
theorem pur_eTest (t : Test) : (eTest t).pur = true := by simp [eTest, AV.pur, AV.purL, pur_eExprs]
theorem pur_eTests (l : List Test) : (eTests l).pur = true := by simp only [eTests, AV.pur]; exact purL_map _ _ pur_eTest
theorem pur_eCell (c : Cell) : (eCell c).pur = true := by simp [eCell, AV.pur, AV.purL, pur_eTests]
theorem pur_eVals (l : List Val) : (eVals l).pur = true := by simp only [eVals, AV.pur]; exact purL_map _ _ pur_eVal
theorem pur_eToks (l : List Tok) : (eToks l).pur = true := by simp only [eToks, AV.pur]; exact purL_map _ _ pur_eTok
theorem pur_eStrs (l : List Str) : (eStrs l).pur = true := by simp only [eStrs, AV.pur]; exact purL_map _ _ (fun _ => rfl)
theorem pur_eCol (c : Col) : (eCol c).pur = true := by simp [eCol, AV.pur, AV.purL, pur_eVals]
theorem pur_eCols (l : List Col) : (eCols l).pur = true := by simp only [eCols, AV.pur]; exact purL_map _ _ pur_eCol
theorem pur_eRule (r : Rule) : (eRule r).pur = true := by simp [eRule, AV.pur, AV.purL, pur_eStrs]
theorem pur_eRules (l : List Rule) : (eRules l).pur = true := by simp only [eRules, AV.pur]; exact purL_map _ _ pur_eRule
theorem pur_eTable (t : Table) : (eTable t).pur = true := by simp [eTable, cTable, AV.pur, AV.purL, pur_eCols, pur_eRules]
theorem pur_eCells (l : List Cell) : (eCells l).pur = true := by simp only [eCells, AV.pur]; exact purL_map _ _ pur_eCell
theorem pur_eLine (l : Line) : (eLine l).pur = true := by simp [eLine, AV.pur, AV.purL, pur_eCells, pur_eExprs]
theorem pur_eLines (l : List Line) : (eLines l).pur = true := by simp only [eLines, AV.pur]; exact purL_map _ _ pur_eLine
theorem pur_eReady (r : Ready) : (eReady r).pur = true := by simp [eReady, AV.pur, AV.purL, pur_eCols, pur_eRules, pur_eLines]
theorem purL_x (l : List Expr) : AV.purL (l.map eExpr) = true := purL_map _ _ pur_eExpr
theorem purL_v (l : List Val) : AV.purL (l.map eVal) = true := purL_map _ _ pur_eVal
theorem purL_t (l : List Tok) : AV.purL (l.map eTok) = true := purL_map _ _ pur_eTok
theorem purL_s (l : List Str) : AV.purL (l.map eStr) = true := purL_map _ _ (fun _ => rfl)
theorem purL_test (l : List Test) : AV.purL (l.map eTest) = true := purL_map _ _ pur_eTest
theorem purL_cell (l : List Cell) : AV.purL (l.map eCell) = true := purL_map _ _ pur_eCell
theorem purL_col (l : List Col) : AV.purL (l.map eCol) = true := purL_map _ _ pur_eCol
theorem purL_rule (l : List Rule) : AV.purL (l.map eRule) = true := purL_map _ _ pur_eRule
theorem purL_line (l : List Line) : AV.purL (l.map eLine) = true := purL_map _ _ pur_eLine
attribute [simp] AV.pur AV.purL pur_eVal pur_eTok pur_eExpr pur_eExprs pur_eTest pur_eTests pur_eCell pur_eVals pur_eToks pur_eStrs pur_eCol pur_eCols pur_eRule pur_eRules pur_eTable pur_eCells pur_eLine pur_eLines pur_eReady purL_x purL_v purL_t purL_s purL_test purL_cell purL_col purL_rule purL_line
theorem getD_mem {α : Type} [Inhabited α] {l : List α} {i : Nat} (h : i < l.length) : l.getD i default ∈ l := by
  rw [List.getD_eq_getElem?_getD, List.getElem?_eq_getElem h]; exact List.getElem_mem h
def printB (c : UInt8) : Bool := decide (32 ≤ c.toNat) && decide (c.toNat ≤ 126)
def letterB (c : UInt8) : Bool := (decide (97 ≤ c.toNat) && decide (c.toNat ≤ 122)) || (decide (65 ≤ c.toNat) && decide (c.toNat ≤ 90)) || decide (c.toNat = 95)
def digitB (c : UInt8) : Bool := decide (48 ≤ c.toNat) && decide (c.toNat ≤ 57)
def wordB (c : UInt8) : Bool := letterB c || digitB c
def plainS (s : Str) : Bool := decide (s.length ≤ 40) && s.all printB
def rightV (v : Val) : Bool :=
  if v.kind = 0 then decide (v.n = 0) && decide (v.s = [])
  else if v.kind = 1 then decide (v.s = [])
  else if v.kind = 2 then decide (v.n = 0) && plainS v.s
  else if v.kind = 3 then decide (v.s = []) && (decide (v.n = 0) || decide (v.n = 1))
  else false
end Go.Proofs.YthkhdedadacakaaGreatDoor
namespace Go.Proofs.YthkhdedadacakaaGreatDoor
open Go.AM
def wordN (s : Str) : Nat := match s with
  | [] => 0
  | c :: _ => if letterB c then (s.takeWhile wordB).length else 0
structure PR where
  kind : Int
  s : Str
  n : Int
  len : Nat
  e : Int
deriving Inhabited, DecidableEq
def ePR (p : PR) : AV := .tup [.agg [I p.kind, .str p.s, I p.n, I 0, I p.len], I p.e]
attribute [go_sem] ePR
def PR.err (e : Int) : PR := ⟨0, [], 0, 0, e⟩
def nameP (s : Str) : PR := if 16 < wordN s then .err 5 else ⟨1, s.take (wordN s), 0, wordN s, 0⟩
def numF : Str → Int → Option Int
  | [], v => some v
  | c :: r, v => if v > (9223372036854775807 - ((c.toNat : Int) - 48)) / 10 then none else numF r (v * 10 + ((c.toNat : Int) - 48))
def numberP (s : Str) : PR :=
  let n := (s.takeWhile digitB).length
  if 1 < n ∧ (s.getD 0 0).toNat = 48 then .err 11
  else match numF (s.takeWhile digitB) 0 with
    | none => .err 15
    | some v => ⟨2, [], v, n, 0⟩
def textF : Str → Str → Nat → PR
  | [], _, _ => .err 11
  | c :: r, b, i =>
    if c.toNat = 34 then (if 40 < b.length then .err 5 else ⟨3, b, 0, i + 1, 0⟩)
    else if c.toNat = 92 then
      match r with
      | [] => .err 11
      | d :: r' => if d.toNat = 34 ∨ d.toNat = 92 then textF r' (b ++ [d]) (i + 2) else .err 11
    else if printB c then textF r (b ++ [c]) (i + 1) else .err 11
theorem textF_cons (c : UInt8) (r b : Str) (i : Nat) : textF (c :: r) b i =
    if c.toNat = 34 then (if 40 < b.length then .err 5 else ⟨3, b, 0, i + 1, 0⟩)
    else if c.toNat = 92 then
      match r with
      | [] => .err 11
      | d :: r' => if d.toNat = 34 ∨ d.toNat = 92 then textF r' (b ++ [d]) (i + 2) else .err 11
    else if printB c then textF r (b ++ [c]) (i + 1) else .err 11 := by
  rw [textF.eq_def]; rfl
def marksL : List Str := [[46, 46], [33, 61], [60, 61], [62, 61], [40], [41], [91], [93], [44], [43], [45], [42], [47], [61], [60], [62]]
def markP (s : Str) : PR := match marksL.find? (fun m => m.isPrefixOf s) with
  | some m => ⟨4, m, 0, m.length, 0⟩
  | none => .err 11
def oneP (s : Str) : PR :=
  let c := s.getD 0 0
  if letterB c then nameP s else if digitB c then numberP s else if c.toNat = 34 then textF (s.drop 1) [] 1 else markP s
def lexF : Nat → Str → Nat → List Tok → List Tok × Int × Int
  | 0, _, _, acc => (acc, 0, 0)
  | _ + 1, [], _, acc => (acc, 0, 0)
  | f + 1, c :: r, pos, acc =>
    if c.toNat = 32 then lexF f r (pos + 1) acc
    else if (oneP (c :: r)).e = 0 then lexF f ((c :: r).drop (oneP (c :: r)).len) (pos + (oneP (c :: r)).len) (acc ++ [⟨(oneP (c :: r)).kind, (oneP (c :: r)).s, (oneP (c :: r)).n, pos⟩])
    else ([], pos, (oneP (c :: r)).e)
def lexS (s : Str) : List Tok × Int × Int := if 200 < s.length then ([], 0, 5) else lexF (s.length + 1) s 0 []
def reservedL : List Str := [[97, 110, 100], [111, 114], [110, 111, 116], [105, 102], [116, 104, 101, 110], [101, 108, 115, 101], [116, 114, 117, 101], [102, 97, 108, 115, 101], [110, 117, 108, 108]]
def reservedS (s : Str) : Bool := reservedL.contains s
def nameS (s : Str) : Bool := decide (s ≠ []) && decide (wordN s = s.length) && decide (s.length ≤ 16) && !reservedS s
theorem takeWhile_le {p : UInt8 → Bool} (s : Str) : (s.takeWhile p).length ≤ s.length := by
  induction s with
  | nil => simp
  | cons c s ih => simp only [List.takeWhile_cons]; split <;> simp; omega
theorem wordN_le (s : Str) : wordN s ≤ s.length := by
  unfold wordN; split
  · simp
  · split
    · exact takeWhile_le _
    · simp
theorem wordN_pos {s : Str} (h : letterB (s.getD 0 0) = true) (hs : s ≠ []) : 1 ≤ wordN s := by
  cases s with
  | nil => exact absurd rfl hs
  | cons c r =>
    simp only [List.getD_cons_zero] at h
    simp only [wordN, h, if_true, List.takeWhile_cons, wordB, Bool.true_or]
    simp
theorem textF_len (r b : Str) (i : Nat) : (textF r b i).e = 0 → i + 1 ≤ (textF r b i).len ∧ (textF r b i).len ≤ i + r.length := by
  fun_induction textF r b i <;> simp_all [PR.err] <;> omega
theorem numberP_len {s : Str} (h : (numberP s).e = 0) : (numberP s).len = (s.takeWhile digitB).length := by
  unfold numberP at *
  simp only at *
  split at h
  · simp [PR.err] at h
  · rename_i h1
    rw [if_neg h1]
    split at h
    · simp [PR.err] at h
    · rfl
theorem markP_len {s : Str} (h : (markP s).e = 0) : 1 ≤ (markP s).len ∧ (markP s).len ≤ s.length := by
  unfold markP at *
  split at h
  · rename_i m hm
    have h1 := List.find?_some hm
    have h2 := List.mem_of_find?_eq_some hm
    refine ⟨?_, (List.isPrefixOf_iff_prefix.1 h1).length_le⟩
    show 1 ≤ m.length
    simp only [marksL, List.mem_cons, List.not_mem_nil, or_false] at h2
    rcases h2 with h | h | h | h | h | h | h | h | h | h | h | h | h | h | h | h <;> subst h <;> simp
  · simp [PR.err] at h
theorem oneP_len {s : Str} (hs : s ≠ []) (h : (oneP s).e = 0) : 1 ≤ (oneP s).len ∧ (oneP s).len ≤ s.length := by
  unfold oneP at *
  simp only at *
  split at h
  · rename_i h1; rw [if_pos h1]
    unfold nameP at *
    split at h
    · simp [PR.err] at h
    · rename_i h2; rw [if_neg h2]; exact ⟨wordN_pos h1 hs, wordN_le s⟩
  · rename_i h1; rw [if_neg h1]
    split at h
    · rename_i h2; rw [if_pos h2, numberP_len h]
      refine ⟨?_, takeWhile_le _⟩
      cases s with
      | nil => exact absurd rfl hs
      | cons c r => simp only [List.getD_cons_zero] at h2; simp [List.takeWhile_cons, h2]
    · rename_i h2; rw [if_neg h2]
      split at h
      · rename_i h3; rw [if_pos h3]
        have := textF_len _ _ _ h
        have h4 : 1 ≤ s.length := by cases s with | nil => exact absurd rfl hs | cons => simp
        rw [List.length_drop] at this
        omega
      · rename_i h3; rw [if_neg h3]; exact markP_len h
end Go.Proofs.YthkhdedadacakaaGreatDoor
