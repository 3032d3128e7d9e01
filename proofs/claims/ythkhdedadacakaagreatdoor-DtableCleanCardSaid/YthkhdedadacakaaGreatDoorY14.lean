/- Part of a proof: see Root. -/
import Derived.Test.YthkhdedadacakaaGreatDoorY13
import Derived.KernelRfl
set_option linter.unnecessarySimpa false
set_option linter.unusedSimpArgs false
set_option linter.unusedVariables false
namespace Go.Proofs.YthkhdedadacakaaGreatDoor
open Go.AM Go.AM.W
set_option maxRecDepth 10000
def b_ref12_SameRow : ACode := r [V (.bool false) 4] <|
 q (r [M 0 6, N 6 7, M 1 8, N 8 9, B .neq 7 9 10] <|
 c 10 (r [V (.bool false) 4] <|
 .ret) k) <|
 q (r [V z0 5] <|
 .block 0 (.loop (q (r [M 5 11, M 0 12, N 12 13, B .lss 11 13 14] <|
 c 14 k (.exit 0)) <|
 q (.block 1 (q (.draw [M 0 17, M 5 18, I true 3 17 18 19, L 3 19 20, M 1 21, M 5 22, I true 3 21 22 23, L 3 23 24, ⟨.eqf true true [.i, .i, .s] (t 20) (t 24), (some 25), none⟩] []) <|
 c 25 (r [V (.bool false) 4] <|
 .ret) k)) <|
 R [M 5 15, D .add 15 1 16, M 16 5]))) <|
 r [V (.bool true) 4] <|
 .ret
theorem of_ref12_SameRow : Of Tryz.prog n_ref12_SameRow 26 [.tmp 4] b_ref12_SameRow := of_ {} Tryz.func73
def b_ref17_Same : ACode := r [X 0 2, X 1 3, V (.bool false) 4] <|
 q (r [A 0 2 8, K 8 9, A 0 3 10, K 10 11, ⟨.eqf true false [.b] (t 9) (t 11), (some 12), none⟩, M 12 13, AF 1 2 14 13, KF 14 15 13, AF 1 3 16 13, KF 16 17 13, ⟨.eqf true false [.b] (t 15) (t 17), (some 18), some (13, false)⟩, O 13 18 19, M 19 20, AF 2 2 21 20, KF 21 22 20, NF 22 23 20, AF 2 3 24 20, KF 24 25 20, NF 25 26 20, BF .neq 23 26 27 20, O 20 27 28] <|
 c 28 (r [V (.bool false) 4] <|
 .ret) k) <|
 q (r [V z0 5] <|
 .block 0 (.loop (q (r [M 5 29, A 2 2 30, K 30 31, N 31 32, B .lss 29 32 33] <|
 c 33 k (.exit 0)) <|
 q (.block 1 (q (.draw [⟨.hold, (some 81), none⟩, ⟨.hold, (some 82), none⟩, A 2 2 36, K 36 37, M 5 38, I true 15 37 38 39, L 15 39 40, A 2 3 41, K 41 42, M 5 43, I true 15 42 43 44, L 15 44 45, ⟨.allocAt 81 none [z0, z0, z0, z0, e0, e0, .nils, z0, z0, z0, e0, e0, .nils, (.bool false), (.bool false)], (some 6), none⟩, ⟨.allocAt 82 none [z0, z0, z0, z0, e0, e0, .nils, z0, z0, z0, e0, e0, .nils, (.bool false), (.bool false)], (some 7), none⟩, W 15 6 40, W 15 7 45] [((t 36), (t 81)), ((t 39), (t 81)), ((t 41), (t 81)), ((t 44), (t 81)), ((t 36), (t 82)), ((t 39), (t 82)), ((t 41), (t 82)), ((t 44), (t 82)), ((t 41), (t 6)), ((t 44), (t 6))]) <|
 r [A 0 6 46, K 46 47, A 0 7 48, K 48 49, B .neq 47 49 50, M 50 51, AF 13 6 52 51, KF 52 53 51, AF 13 7 54 51, KF 54 55 51, ⟨.eqf true false [.b] (t 53) (t 55), (some 56), some (51, false)⟩, O 51 56 57, M 57 58, AF 14 6 59 58, KF 59 60 58, AF 14 7 61 58, KF 61 62 58, ⟨.eqf true false [.b] (t 60) (t 62), (some 63), some (58, false)⟩, O 58 63 64, M 64 65, AF 1 6 66 65, LF 6 66 67 65, AF 1 7 68 65, LF 6 68 69 65, CF n_ref14_Same [t 67, t 69] 70 65, UF 70 71 65, O 65 71 72, M 72 73, AF 7 6 74 73, LF 6 74 75 73, AF 7 7 76 73, LF 6 76 77 73, CF n_ref14_Same [t 75, t 77] 78 73, UF 78 79 73, O 73 79 80] <|
 c 80 (r [V (.bool false) 4] <|
 .ret) k)) <|
 R [M 5 34, D .add 34 1 35, M 35 5]))) <|
 r [V (.bool true) 4] <|
 .ret
theorem of_ref17_Same : Of Tryz.prog n_ref17_Same 81 [.tmp 4] b_ref17_Same := of_ ⟨[], [], [], [], [], [(6, 0), (7, 1)]⟩ Tryz.func74
def b_ref14_Same : ACode := r [X 0 2, X 1 3, V (.bool false) 4] <|
 q (r [A 0 2 6, K 6 7, A 0 3 8, K 8 9, B .neq 7 9 10, M 10 11, AF 1 2 12 11, LF 3 12 13 11, AF 1 3 14 11, LF 3 14 15 11, ⟨.eqf true true [.i, .i, .s] (t 13) (t 15), (some 16), some (11, false)⟩, O 11 16 17, M 17 18, AF 4 2 19 18, KF 19 20 18, AF 4 3 21 18, KF 21 22 18, BF .neq 20 22 23 18, O 18 23 24, M 24 25, AF 5 2 26 25, KF 26 27 25, NF 27 28 25, AF 5 3 29 25, KF 29 30 25, NF 30 31 25, BF .neq 28 31 32 25, O 25 32 33] <|
 c 33 (r [V (.bool false) 4] <|
 .ret) k) <|
 q (r [V z0 5] <|
 .block 0 (.loop (q (r [M 5 34, A 5 2 35, K 35 36, N 36 37, B .lss 34 37 38] <|
 c 38 k (.exit 0)) <|
 q (.block 1 (q (.draw [A 5 2 41, K 41 42, M 5 43, I true 6 42 43 44, L 6 44 45, A 5 3 46, K 46 47, M 5 48, I true 6 47 48 49, L 6 49 50, Q n_ref14_Same [t 45, t 50] 51, U 51 52] []) <|
 c 52 (r [V (.bool false) 4] <|
 .ret) k)) <|
 R [M 5 39, D .add 39 1 40, M 40 5]))) <|
 r [V (.bool true) 4] <|
 .ret
theorem of_ref14_Same : Of Tryz.prog n_ref14_Same 53 [.tmp 4] b_ref14_Same := of_ {} Tryz.func75
def b_law14_X_Small : ACode := r [X 0 1, V (.bool false) 2] <|
 r [L 6 1 3, ⟨.call false (.c (.fn (.func n_law14_small) [] [])) [(t 3), (.c (i6 30))], (some 4), none⟩, M 4 5, LT 6 1 6 5, CT n_ref14_Size [t 6] 7 5, DT .leq 7 300 8 5, P 5 8 9, M 9 2] <|
 .ret
theorem of_law14_X_Small : Of Tryz.prog n_law14_X_Small 10 [.tmp 2] b_law14_X_Small := of_ {} Tryz.func76
def b_slices_Equal_Value : ACode := r [V (.bool false) 4] <|
 q (r [M 0 6, N 6 7, M 1 8, N 8 9, B .neq 7 9 10] <|
 c 10 (r [V (.bool false) 4] <|
 .ret) k) <|
 q (r [M 0 11, N 11 12, V z0 13] <|
 .block 0 (.loop (r [B .lss 13 12 14] <|
 q (c 14 k (.exit 0)) <|
 q (.block 1 (r [M 13 15, M 15 5] <|
 q (.draw [M 0 16, M 5 17, I true 3 16 17 18, L 3 18 19, M 1 20, M 5 21, I true 3 20 21 22, L 3 22 23, ⟨.eqf true true [.i, .i, .s] (t 19) (t 23), (some 24), none⟩] []) <|
 c 24 (r [V (.bool false) 4] <|
 .ret) k)) <|
 R [D .add 13 1 25, M 25 13]))) <|
 r [V (.bool true) 4] <|
 .ret
theorem of_slices_Equal_Value : Of Tryz.prog n_slices_Equal_Value 26 [.tmp 4] b_slices_Equal_Value := of_ {} Tryz.func77
def b_slices_Equal_string : ACode := r [V (.bool false) 4] <|
 q (r [M 0 6, N 6 7, M 1 8, N 8 9, B .neq 7 9 10] <|
 c 10 (r [V (.bool false) 4] <|
 .ret) k) <|
 q (r [M 0 11, N 11 12, V z0 13] <|
 .block 0 (.loop (r [B .lss 13 12 14] <|
 q (c 14 k (.exit 0)) <|
 q (.block 1 (r [M 13 15, M 15 5] <|
 q (.draw [M 0 16, M 5 17, I false 1 16 17 18, K 18 19, M 1 20, M 5 21, I false 1 20 21 22, K 22 23, B .neq 19 23 24] []) <|
 c 24 (r [V (.bool false) 4] <|
 .ret) k)) <|
 R [D .add 13 1 25, M 25 13]))) <|
 r [V (.bool true) 4] <|
 .ret
theorem of_slices_Equal_string : Of Tryz.prog n_slices_Equal_string 26 [.tmp 4] b_slices_Equal_string := of_ {} Tryz.func78
def b_slices_EqualFunc_Test : ACode := r [V (.bool false) 6] <|
 q (r [M 0 10, N 10 11, M 1 12, N 12 13, B .neq 11 13 14] <|
 c 14 (r [V (.bool false) 6] <|
 .ret) k) <|
 q (r [M 0 15, N 15 16, V z0 17] <|
 .block 0 (.loop (r [B .lss 17 16 18] <|
 q (c 18 k (.exit 0)) <|
 q (.block 1 (r [M 17 19, I true 15 15 17 20, L 15 20 21, J [z0, z0, z0, z0, e0, e0, .nils, z0, z0, z0, e0, e0, .nils, (.bool false), (.bool false)] 8, M 19 7, W 15 8 21] <|
 r [M 1 22, M 7 23, I true 15 22 23 24, L 15 24 25, J [z0, z0, z0, z0, e0, e0, .nils, z0, z0, z0, e0, e0, .nils, (.bool false), (.bool false)] 9, W 15 9 25] <|
 r [M 2 26, L 15 8 27, L 15 9 28, ⟨.call false (t 26) [(t 27), (t 28)], (some 29), none⟩, U 29 30] <|
 c 30 (r [V (.bool false) 6] <|
 .ret) k)) <|
 R [D .add 17 1 31, M 31 17]))) <|
 r [V (.bool true) 6] <|
 .ret
theorem of_slices_EqualFunc_Test : Of Tryz.prog n_slices_EqualFunc_Test 32 [.tmp 6] b_slices_EqualFunc_Test := of_ {} Tryz.func79
def b_cell_Same_1 : ACode := r [X 0 2, X 1 3, V (.bool false) 4] <|
 q (.draw [A 0 2 5, K 5 6, A 0 3 7, K 7 8, B .eql 6 8 9, M 9 10, LT 15 2 11 10, QT n_cell_of [t 11] 12 10, LT 15 3 13 10, QT n_cell_of [t 13] 14 10, ⟨.eqf false true [.b, .b] (t 12) (t 14), (some 15), some (10, true)⟩, P 10 15 16, M 16 17, AT 1 2 18 17, LT 6 18 19 17, AT 1 3 20 17, LT 6 20 21 17, QT n_syntax_Same [t 19, t 21] 22 17, P 17 22 23, M 23 24, AT 7 2 25 24, LT 6 25 26 24, AT 7 3 27 24, LT 6 27 28 24, QT n_syntax_Same [t 26, t 28] 29 24, P 24 29 30, M 30 4] []) <|
 .ret
theorem of_cell_Same_1 : Of Tryz.prog n_cell_Same_1 31 [.tmp 4] b_cell_Same_1 := of_ {} Tryz.func80
def b_cell_of : ACode := r [X 0 1, J [(.bool false), (.bool false)] 2] <|
 r [A 13 1 3, K 3 4, A 14 1 5, K 5 6, ⟨.build [(.bool false), (.bool false)] [(0, 1, (t 4)), (1, 1, (t 6))], (some 7), none⟩, W 2 2 7] <|
 .ret
theorem of_cell_of : Of Tryz.prog n_cell_of 8 [.cell 2 true 2] b_cell_of := of_ {} Tryz.func81
def b_lex_word : ACode := r [V z0 2] <|
 q (r [M 0 3, ⟨.bin .eql (t 3) (.c e0), (some 4), none⟩, M 4 5, MF 0 6 5, ⟨.idxS (t 6) (.c z0), (some 7), some (5, false)⟩, CF n_lex_letter [t 7] 8 5, UF 8 9 5, O 5 9 10] <|
 c 10 (r [V z0 2] <|
 .ret) k) <|
 r [M 0 11, ⟨.call false (.c (.fn (.func n_lex_run) [] [])) [(t 11), (.c (.fn (.func n_lex_word_1) [] []))], (some 12), none⟩, M 12 2] <|
 .ret
theorem of_lex_word : Of Tryz.prog n_lex_word 13 [.tmp 2] b_lex_word := of_ {} Tryz.func82
def b_lex_reserved : ACode := r [V (.bool false) 2] <|
 q (r [M 0 3] <|
 .block 0 (q (r [⟨.bin .eql (t 3) (.c (.str [97, 110, 100])), (some 5), none⟩, M 5 4] <|
 c 4 k (r [⟨.bin .eql (t 3) (.c (.str [111, 114])), (some 6), none⟩, M 6 4] <|
 c 4 k (r [⟨.bin .eql (t 3) (.c (.str [110, 111, 116])), (some 7), none⟩, M 7 4] <|
 c 4 k (r [⟨.bin .eql (t 3) (.c (.str [105, 102])), (some 8), none⟩, M 8 4] <|
 c 4 k (r [⟨.bin .eql (t 3) (.c (.str [116, 104, 101, 110])), (some 9), none⟩, M 9 4] <|
 c 4 k (r [⟨.bin .eql (t 3) (.c (.str [101, 108, 115, 101])), (some 10), none⟩, M 10 4] <|
 c 4 k (r [⟨.bin .eql (t 3) (.c (.str [116, 114, 117, 101])), (some 11), none⟩, M 11 4] <|
 c 4 k (r [⟨.bin .eql (t 3) (.c (.str [102, 97, 108, 115, 101])), (some 12), none⟩, M 12 4] <|
 c 4 k (R [⟨.bin .eql (t 3) (.c (.str [110, 117, 108, 108])), (some 13), none⟩, M 13 4]))))))))) <|
 c 4 (r [V (.bool true) 2] <|
 .ret) k)) <|
 r [V (.bool false) 2] <|
 .ret
theorem of_lex_reserved : Of Tryz.prog n_lex_reserved 14 [.tmp 2] b_lex_reserved := of_ {} Tryz.func83
def b_typing_Columns : ACode := r [V z0 2] <|
 q (r [M 0 5, N 5 6, D .gtr 6 6 7] <|
 c 7 (r [V (i6 24) 2] <|
 .ret) k) <|
 q (r [M 0 8, N 8 9, V z0 10] <|
 .block 0 (.loop (r [B .lss 10 9 11] <|
 q (c 11 k (.exit 0)) <|
 q (.block 1 (r [M 10 12, I true 3 8 10 13, L 3 13 14, J [e0, z0, .nils] 4, M 12 3, W 3 4 14] <|
 q (r [A 0 4 15, K 15 16, C n_lex_Name [t 16] 17, U 17 18, M 18 19, MF 0 20 19, AF 0 4 21 19, KF 21 22 19, CF n_typing_at [t 20, t 22] 23 19, MF 3 24 19, BF .neq 23 24 25 19, O 19 25 26] <|
 c 26 (r [V (i6 13) 2] <|
 .ret) k) <|
 r [A 1 4 27, K 27 28, D .neq 28 1 29, M 29 30, AT 1 4 31 30, KT 31 32 30, DT .neq 32 2 33 30, P 30 33 34, M 34 35, AT 1 4 36 35, KT 36 37 35, DT .neq 37 3 38 35, P 35 38 39] <|
 c 39 (r [V (i6 14) 2] <|
 .ret) k)) <|
 R [D .add 10 1 40, M 40 10]))) <|
 r [V z0 2] <|
 .ret
theorem of_typing_Columns : Of Tryz.prog n_typing_Columns 41 [.tmp 2] b_typing_Columns := of_ {} Tryz.func84
def b_slices_ContainsFunc_Column : ACode := r [V (.bool false) 4] <|
 r [M 0 5, M 1 6, C n_slices_IndexFunc_Column [t 5, t 6] 7, D .geq 7 0 8, M 8 4] <|
 .ret
theorem of_slices_ContainsFunc_Column : Of Tryz.prog n_slices_ContainsFunc_Column 9 [.tmp 4] b_slices_ContainsFunc_Column := of_ {} Tryz.func85
def b_dtable_columns_1 : ACode := r [X 0 2, V (.bool false) 3] <|
 r [L 3 2 4, K 1 5, C n_dtable_order [t 4, t 5] 6, U 6 7, M 7 3] <|
 .ret
theorem of_dtable_columns_1 : Of Tryz.prog n_dtable_columns_1 8 [.tmp 3] b_dtable_columns_1 := of_ {} Tryz.func86
def b_dtable_order : ACode := r [X 0 2, V (.bool false) 4] <|
 q (r [M 1 7, U 7 8] <|
 c 8 (r [A 2 2 9, K 9 10, N 10 11, D .eql 11 0 12, M 12 4] <|
 .ret) k) <|
 q (r [A 2 2 13, K 13 14, N 14 15, V z0 16] <|
 .block 0 (.loop (r [B .lss 16 15 17] <|
 q (c 17 k (.exit 0)) <|
 q (.block 1 (r [M 16 18, I true 3 14 16 19, L 3 19 20, J [z0, z0, e0] 6, M 18 5, W 3 6 20] <|
 r [L 3 6 21, C n_value_Check [t 21] 22, D .neq 22 0 23, M 23 24, AF 0 6 25 24, KF 25 26 24, AF 1 2 27 24, KF 27 28 24, BF .neq 26 28 29 24, O 24 29 30, M 30 31, AF 2 2 32 31, KF 32 33 31, LF 3 6 34 31, CF n_slices_Index_Value [t 33, t 34] 35 31, MF 5 36 31, BF .neq 35 36 37 31, O 31 37 38] <|
 c 38 (r [V (.bool false) 4] <|
 .ret) k)) <|
 R [D .add 16 1 39, M 39 16]))) <|
 r [A 2 2 40, K 40 41, N 41 42, D .geq 42 1 43, M 43 44, AT 2 2 45 44, KT 45 46 44, NT 46 47 44, DT .leq 47 8 48 44, P 44 48 49, M 49 4] <|
 .ret
theorem of_dtable_order : Of Tryz.prog n_dtable_order 50 [.tmp 4] b_dtable_order := of_ {} Tryz.func87
def b_cell_Parse : ACode := r [J [(.bool false), (.bool false), .nils] 2, V z0 3, V z0 4] <|
 r [M 0 11, C n_lex_Lex [t 11] 12, M 12 10, E 10 0 13, E 10 1 14, E 10 2 15, M 13 5, M 14 6, M 15 7] <|
 q (r [M 7 16, D .neq 16 0 17] <|
 c 17 (r [⟨.build [(.bool false), (.bool false), .nils] [], (some 18), none⟩, M 6 19, M 7 20, W 3 2 18, M 19 3, M 20 4] <|
 .ret) k) <|
 r [M 5 21, ⟨.build [.nils, z0] [(0, 1, (t 21))], (some 22), none⟩, ⟨.build [.nils, z0, (.bool false)] [(0, 2, (t 22))], (some 23), none⟩, X 23 24, M 24 8] <|
 q (r [M 5 25, N 25 26, D .eql 26 1 27, M 27 28, MT 8 29 28, ZT 29 30 28, AT 0 30 31 28, CT n_cell_cursor_mark [t 31] 32 28, ⟨.bin .eql (t 32) (.c (.str [45])), (some 33), some (28, true)⟩, P 28 33 34] <|
 c 34 (r [⟨.build [(.bool false), (.bool false), .nils] [(0, 1, (.c (.bool true)))], (some 35), none⟩, W 3 2 35, V z0 3, V z0 4] <|
 .ret) k) <|
 r [M 8 36, C n_cell_reader_cell [t 36] 37, J [(.bool false), (.bool false), .nils] 9, W 3 9 37] <|
 q (.block 0 (r [M 8 39, Z 39 40, A 0 40 41, A 1 41 42, K 42 43, M 5 44, N 44 45, B .lss 43 45 46, M 46 38] <|
 c 38 (q (.draw [⟨.build [(.bool false), (.bool false), .nils] [], (some 47), none⟩, M 5 48, M 8 49, Z 49 50, A 0 50 51, A 1 51 52, K 52 53, I true 4 48 53 54, A 3 54 55, K 55 56, W 3 2 47, M 56 3, V (i6 11) 4] [((t 52), (t 2)), ((t 55), (t 2))]) <|
 .ret) (r [M 8 58, Z 58 59, A 2 59 60, K 60 61, M 61 57] <|
 c 57 (r [⟨.build [(.bool false), (.bool false), .nils] [], (some 62), none⟩, M 0 63, S 63 64, W 3 2 62, M 64 3, V (i6 11) 4] <|
 .ret) (r [A 2 9 66, K 66 67, N 67 68, D .gtr 68 12 69, M 69 65] <|
 c 65 (r [⟨.build [(.bool false), (.bool false), .nils] [], (some 70), none⟩, W 3 2 70, V z0 3, V (i6 24) 4] <|
 .ret) (r [L 3 9 72, C n_cell_Check [t 72] 73, D .neq 73 0 74, M 74 71] <|
 c 71 (r [⟨.build [(.bool false), (.bool false), .nils] [], (some 75), none⟩, W 3 2 75, V z0 3, V (i6 12) 4] <|
 .ret) k))))) <|
 r [L 3 9 76, W 3 2 76, V z0 3, V z0 4] <|
 .ret
theorem of_cell_Parse : Of Tryz.prog n_cell_Parse 77 [.cell 2 true 3, .tmp 3, .tmp 4] b_cell_Parse := of_ {} Tryz.func88
def b_cell_Typed : ACode := r [X 0 3, V z0 6] <|
 q (r [L 3 3 15, C n_cell_Check [t 15] 16, M 16 7] <|
 r [M 7 17, D .neq 17 0 18] <|
 c 18 (r [M 7 19, M 19 6] <|
 .ret) k) <|
 q (r [A 2 3 20, K 20 21, N 21 22, V z0 23] <|
 .block 0 (.loop (r [B .lss 23 22 24] <|
 q (c 24 k (.exit 0)) <|
 q (.block 1 (r [I true 15 21 23 25, L 15 25 26, J [z0, z0, z0, z0, e0, e0, .nils, z0, z0, z0, e0, e0, .nils, (.bool false), (.bool false)] 9, W 15 9 26] <|
 r [V (.bool true) 10] <|
 q (r [L 15 9 27, C n_cell_parts [t 27] 28, N 28 29, V z0 30] <|
 .block 2 (.loop (r [B .lss 30 29 31] <|
 q (c 31 k (.exit 2)) <|
 q (.block 3 (r [I true 6 28 30 32, L 6 32 33, J [z0, z0, z0, e0, e0, .nils] 12, W 6 12 33] <|
 r [L 6 12 35, M 2 36, C n_typing_Kind [t 35, t 36] 37, M 37 34, E 34 0 38, E 34 1 39, M 38 13, M 39 14] <|
 q (r [M 14 40, D .neq 40 0 41] <|
 c 41 (r [M 14 42, M 42 6] <|
 .ret) k) <|
 R [M 10 43, M 43 44, LT 15 9 45 44, MT 1 46 44, MT 13 47 44, CT n_cell_fits [t 45, t 46, t 47] 48 44, P 44 48 49, M 49 10])) <|
 R [D .add 30 1 50, M 50 30]))) <|
 r [M 10 51, U 51 52] <|
 c 52 (r [V (i6 14) 6] <|
 .ret) k)) <|
 R [D .add 23 1 53, M 53 23]))) <|
 r [V z0 6] <|
 .ret
theorem of_cell_Typed : Of Tryz.prog n_cell_Typed 54 [.tmp 6] b_cell_Typed := of_ {} Tryz.func89
def b_syntax_Parse : ACode := r [J [z0, z0, z0, e0, e0, .nils] 2, V z0 3, V z0 4] <|
 r [M 0 11, C n_lex_Lex [t 11] 12, M 12 10, E 10 0 13, E 10 1 14, E 10 2 15, M 13 5, M 14 6, M 15 7] <|
 q (r [M 7 16, D .neq 16 0 17] <|
 c 17 (r [⟨.build [z0, z0, z0, e0, e0, .nils] [], (some 18), none⟩, M 6 19, M 7 20, W 6 2 18, M 19 3, M 20 4] <|
 .ret) k) <|
 r [M 5 22, ⟨.call false (.c (.fn (.func n_syntax_Read) [] [])) [(t 22), (.c z0), (.c z0)], (some 23), none⟩, M 23 21, E 21 0 24, E 21 1 25, E 21 2 26, J [z0, z0, z0, e0, e0, .nils] 8, W 6 8 24, M 25 9, M 26 7] <|
 q (.block 0 (r [M 9 28, M 5 29, N 29 30, B .lss 28 30 31, M 31 27] <|
 c 27 (q (.draw [⟨.build [z0, z0, z0, e0, e0, .nils] [], (some 32), none⟩, M 5 33, M 9 34, I true 4 33 34 35, A 3 35 36, K 36 37, W 6 2 32, M 37 3, V (i6 11) 4] [((t 36), (t 2))]) <|
 .ret) (r [M 7 39, D .neq 39 0 40, M 40 38] <|
 c 38 (r [⟨.build [z0, z0, z0, e0, e0, .nils] [], (some 41), none⟩, M 0 42, S 42 43, M 7 44, W 6 2 41, M 43 3, M 44 4] <|
 .ret) (r [L 6 8 46, C n_syntax_Deep [t 46] 47, D .gtr 47 12 48, M 48 45] <|
 c 45 (r [⟨.build [z0, z0, z0, e0, e0, .nils] [], (some 49), none⟩, W 6 2 49, V z0 3, V (i6 12) 4] <|
 .ret) k)))) <|
 r [L 6 8 50, W 6 2 50, V z0 3, V z0 4] <|
 .ret
theorem of_syntax_Parse : Of Tryz.prog n_syntax_Parse 51 [.cell 2 true 6, .tmp 3, .tmp 4] b_syntax_Parse := of_ {} Tryz.func90
def b_typing_Kind : ACode := r [X 0 2, V z0 4, V z0 5] <|
 q (r [L 6 2 7, C n_syntax_Check [t 7] 8, M 8 6] <|
 r [M 6 9, D .neq 9 0 10] <|
 c 10 (r [M 6 11, V z0 4, M 11 5] <|
 .ret) k) <|
 r [L 6 2 12, M 1 13, C n_typing_kind [t 12, t 13] 14, E 14 0 15, E 14 1 16, M 15 4, M 16 5] <|
 .ret
theorem of_typing_Kind : Of Tryz.prog n_typing_Kind 17 [.tmp 4, .tmp 5] b_typing_Kind := of_ {} Tryz.func91
def b_typing_Fits : ACode := r [V (.bool false) 4] <|
 r [M 0 5, M 1 6, B .eql 5 6 7, M 7 8, MF 0 9 8, DF .eql 9 0 10 8, O 8 10 11, M 11 12, MF 1 13 12, DF .eql 13 0 14 12, O 12 14 15, M 15 4] <|
 .ret
theorem of_typing_Fits : Of Tryz.prog n_typing_Fits 16 [.tmp 4] b_typing_Fits := of_ {} Tryz.func92
def b_ref18_order : ACode := r [X 0 2, V (.bool false) 4] <|
 q (r [M 1 7, U 7 8] <|
 c 8 (r [A 2 2 9, K 9 10, N 10 11, D .eql 11 0 12, M 12 4] <|
 .ret) k) <|
 q (r [V z0 5] <|
 .block 0 (.loop (q (r [M 5 13, A 2 2 14, K 14 15, N 15 16, B .lss 13 16 17] <|
 c 17 k (.exit 0)) <|
 q (.block 1 (q (q (.draw [A 2 2 20, K 20 21, M 5 22, I true 3 21 22 23, L 3 23 24, Q n_ref12_Right [t 24] 25, U 25 26, M 26 27, AF 2 2 28 27, KF 28 29 27, MF 5 30 27, IF true 3 29 30 31 27, AF 0 31 32 27, KF 32 33 27, AF 1 2 34 27, KF 34 35 27, BF .neq 33 35 36 27, O 27 36 37] []) <|
 c 37 (r [V (.bool false) 4] <|
 .ret) k) <|
 r [V z0 6] <|
 .block 2 (.loop (q (r [M 6 38, M 5 39, B .lss 38 39 40] <|
 c 40 k (.exit 2)) <|
 q (.block 3 (q (.draw [A 2 2 43, K 43 44, M 6 45, I true 3 44 45 46, L 3 46 47, A 2 2 48, K 48 49, M 5 50, I true 3 49 50 51, L 3 51 52, ⟨.eqf false true [.i, .i, .s] (t 47) (t 52), (some 53), none⟩] []) <|
 c 53 (r [V (.bool false) 4] <|
 .ret) k)) <|
 R [M 6 41, D .add 41 1 42, M 42 6])))) <|
 R [M 5 18, D .add 18 1 19, M 19 5]))) <|
 r [A 2 2 54, K 54 55, N 55 56, D .geq 56 1 57, M 57 58, AT 2 2 59 58, KT 59 60 58, NT 60 61 58, DT .leq 61 8 62 58, P 58 62 63, M 63 4] <|
 .ret
theorem of_ref18_order : Of Tryz.prog n_ref18_order 64 [.tmp 4] b_ref18_order := of_ {} Tryz.func96
def b_ref15_kind : ACode := r [X 0 2, V z0 4, V z0 5] <|
 q (r [A 0 2 11, K 11 12] <|
 .block 0 (r [D .eql 12 1 14, M 14 13] <|
 c 13 (r [A 1 2 15, A 0 15 16, K 16 17, M 17 4, V z0 5] <|
 .ret) (r [D .eql 12 2 19, M 19 18] <|
 c 18 (r [M 1 20, A 4 2 21, K 21 22, C n_ref15_At [t 20, t 22] 23, M 23 6] <|
 q (r [M 6 24, D .lss 24 0 25] <|
 c 25 (r [V z0 4, V (i6 13) 5] <|
 .ret) k) <|
 r [M 1 26, M 6 27, I true 3 26 27 28, A 1 28 29, K 29 30, M 30 4, V z0 5] <|
 .ret) k))) <|
 r [⟨.mkvec ⟨false, 1⟩, (some 7), none⟩] <|
 q (r [V z0 8] <|
 .block 1 (.loop (q (r [M 8 31, A 5 2 32, K 32 33, N 33 34, B .lss 31 34 35] <|
 c 35 k (.exit 1)) <|
 q (.block 2 (r [A 5 2 39, K 39 40, M 8 41, I true 6 40 41 42, L 6 42 43, M 1 44, C n_ref15_kind [t 43, t 44] 45, M 45 38, E 38 0 46, E 38 1 47, M 46 9, M 47 10] <|
 q (r [M 10 48, D .neq 48 0 49] <|
 c 49 (r [M 10 50, V z0 4, M 50 5] <|
 .ret) k) <|
 R [M 7 51, M 9 52, ⟨.bslice false ⟨false, 1⟩ z0 1 [(0, (t 52))], (some 53), none⟩, ⟨.app none ⟨false, 1⟩ (t 51) (t 53), (some 54), none⟩, M 54 7])) <|
 R [M 8 36, D .add 36 1 37, M 37 8]))) <|
 r [A 0 2 55, K 55 56, M 7 57, C n_ref15_of [t 56, t 57] 58, E 58 0 59, E 58 1 60, M 59 4, M 60 5] <|
 .ret
theorem of_ref15_kind : Of Tryz.prog n_ref15_kind 61 [.tmp 4, .tmp 5] b_ref15_kind := of_ ⟨[], [], [(7, ⟨false, 1⟩)], [], [], []⟩ Tryz.func103
def b_slices_ContainsFunc_Test : ACode := r [V (.bool false) 4] <|
 r [M 0 5, M 1 6, C n_slices_IndexFunc_Test [t 5, t 6] 7, D .geq 7 0 8, M 8 4] <|
 .ret
theorem of_slices_ContainsFunc_Test : Of Tryz.prog n_slices_ContainsFunc_Test 9 [.tmp 4] b_slices_ContainsFunc_Test := of_ {} Tryz.func104
def b_cell_Check_1 : ACode := r [X 0 1, V (.bool false) 2] <|
 r [L 15 1 3, C n_cell_sound [t 3] 4, U 4 5, M 5 2] <|
 .ret
theorem of_cell_Check_1 : Of Tryz.prog n_cell_Check_1 6 [.tmp 2] b_cell_Check_1 := of_ {} Tryz.func105
def b_cell_sound : ACode := r [X 0 1, V (.bool false) 2] <|
 q (.block 0 (r [A 0 1 4, K 4 5, D .eql 5 6 6, M 6 3] <|
 c 3 (r [A 1 1 7, L 6 7 8, C n_cell_part [t 8] 9, M 9 10, AT 7 1 11 10, LT 6 11 12 10, CT n_cell_part [t 12] 13 10, P 10 13 14, M 14 2] <|
 .ret) (r [A 0 1 16, K 16 17, D .lss 17 1 18, M 18 19, AF 0 1 20 19, KF 20 21 19, DF .gtr 21 6 22 19, O 19 22 23, M 23 15] <|
 c 15 (r [V (.bool false) 2] <|
 .ret) k))) <|
 r [A 1 1 24, L 6 24 25, C n_cell_part [t 25] 26, M 26 27, AT 7 1 28 27, LT 6 28 29 27, ⟨.build [z0, z0, z0, e0, e0, .nils] [], (some 30), some (27, true)⟩, CT n_syntax_Same [t 29, t 30] 31 27, P 27 31 32, M 32 33, LT 15 1 34 33, CT n_cell_of [t 34] 35 33, ⟨.build [(.bool false), (.bool false)] [], (some 36), some (33, true)⟩, ⟨.eqf false true [.b, .b] (t 35) (t 36), (some 37), some (33, true)⟩, P 33 37 38, M 38 2] <|
 .ret
theorem of_cell_sound : Of Tryz.prog n_cell_sound 39 [.tmp 2] b_cell_sound := of_ {} Tryz.func106
def b_cell_write : ACode := r [X 0 1, V e0 2, V z0 3] <|
 r [L 6 1 7, C n_syntax_Text [t 7] 8, M 8 6, E 6 0 9, E 6 1 10, M 9 4, M 10 5] <|
 q (r [M 5 11, D .eql 11 0 12, M 12 13, AT 0 1 14 13, KT 14 15 13, DT .geq 15 8 16 13, MT 16 17 13, AT 0 1 18 17, KT 18 19 17, DT .leq 19 16 20 17, PT 17 20 21 13, P 13 21 22] <|
 c 22 (R [M 4 23, ⟨.bin .add (.c (.str [40])) (t 23), (some 24), none⟩, ⟨.bin .add (t 24) (.c (.str [41])), (some 25), none⟩, M 25 4]) k) <|
 r [M 4 26, M 5 27, M 26 2, M 27 3] <|
 .ret
theorem of_cell_write : Of Tryz.prog n_cell_write 28 [.tmp 2, .tmp 3] b_cell_write := of_ {} Tryz.func107
def b_cell_sign : ACode := r [V e0 2] <|
 q (r [M 0 3] <|
 .block 0 (r [D .eql 3 2 5, M 5 4] <|
 c 4 (r [V (.str [60]) 2] <|
 .ret) (r [D .eql 3 3 7, M 7 6] <|
 c 6 (r [V (.str [60, 61]) 2] <|
 .ret) (r [D .eql 3 4 9, M 9 8] <|
 c 8 (r [V (.str [62]) 2] <|
 .ret) (r [D .eql 3 5 11, M 11 10] <|
 c 10 (r [V (.str [62, 61]) 2] <|
 .ret) k))))) <|
 r [V e0 2] <|
 .ret
theorem of_cell_sign : Of Tryz.prog n_cell_sign 12 [.tmp 2] b_cell_sign := of_ {} Tryz.func108
def b_strings_Builder_WriteString : ACode := r [V z0 4, V .nili 5] <|
 r [M 0 6, C n_strings_Builder_copyCheck [t 6] 7] <|
 r [M 0 8, M 0 9, Z 9 10, A 1 10 11, K 11 12, M 1 13, ⟨.app (some 5) ⟨false, 1⟩ (t 12) (t 13), (some 14), none⟩, Z 8 15, A 1 15 16, W 1 16 14] <|
 r [M 1 17, S 17 18, M 18 4, V .nili 5] <|
 .ret
theorem of_strings_Builder_WriteString : Of Tryz.prog n_strings_Builder_WriteString 19 [.tmp 4, .tmp 5] b_strings_Builder_WriteString := of_ ⟨[], [], [], [14], [], []⟩ Tryz.func110
def b_syntax_count : ACode := r [V z0 2] <|
 q (.block 0 (r [M 0 4, D .eql 4 1 5, M 5 6, MF 0 7 6, DF .eql 7 2 8 6, O 6 8 9, M 9 3] <|
 c 3 (r [V z0 2] <|
 .ret) (r [M 0 11, D .eql 11 3 12, M 12 10] <|
 c 10 (r [V (i6 1) 2] <|
 .ret) (r [M 0 14, D .eql 14 16 15, M 15 13] <|
 c 13 (r [V (i6 3) 2] <|
 .ret) (r [M 0 17, C n_syntax_find [t 17] 18, ⟨.field false 2 1 (t 18), (some 19), none⟩, D .gtr 19 0 20, M 20 16] <|
 c 16 (r [V (i6 2) 2] <|
 .ret) k))))) <|
 r [V (i6 (-1)) 2] <|
 .ret
theorem of_syntax_count : Of Tryz.prog n_syntax_count 21 [.tmp 2] b_syntax_count := of_ {} Tryz.func111
def b_value_Check : ACode := r [X 0 1, V z0 2] <|
 r [V (.bool false) 3] <|
 q (r [A 0 1 4, K 4 5] <|
 .block 0 (r [D .eql 5 0 7, M 7 6] <|
 c 6 (R [L 3 1 8, ⟨.build [z0, z0, e0] [], (some 9), none⟩, ⟨.eqf false true [.i, .i, .s] (t 8) (t 9), (some 10), none⟩, M 10 3]) (r [D .eql 5 1 12, M 12 11] <|
 c 11 (R [A 2 1 13, K 13 14, ⟨.bin .eql (t 14) (.c e0), (some 15), none⟩, M 15 3]) (r [D .eql 5 2 17, M 17 16] <|
 c 16 (R [A 1 1 18, K 18 19, D .eql 19 0 20, M 20 21, AT 2 1 22 21, KT 22 23 21, CT n_value_plain [t 23] 24 21, P 21 24 25, M 25 3]) (r [D .eql 5 3 27, M 27 26] <|
 c 26 (R [A 2 1 28, K 28 29, ⟨.bin .eql (t 29) (.c e0), (some 30), none⟩, M 30 31, AT 1 1 32 31, KT 32 33 31, DT .andNot 33 1 34 31, DT .eql 34 0 35 31, P 31 35 36, M 36 3]) k))))) <|
 q (r [M 3 37, U 37 38] <|
 c 38 (r [V (i6 2) 2] <|
 .ret) k) <|
 r [V z0 2] <|
 .ret
theorem of_value_Check : Of Tryz.prog n_value_Check 39 [.tmp 2] b_value_Check := of_ {} Tryz.func112
def b_slices_ContainsFunc_Expr : ACode := r [V (.bool false) 4] <|
 r [M 0 5, M 1 6, C n_slices_IndexFunc_Expr [t 5, t 6] 7, D .geq 7 0 8, M 8 4] <|
 .ret
theorem of_slices_ContainsFunc_Expr : Of Tryz.prog n_slices_ContainsFunc_Expr 9 [.tmp 4] b_slices_ContainsFunc_Expr := of_ {} Tryz.func113
def b_syntax_right_1 : ACode := r [X 0 1, V (.bool false) 2] <|
 r [L 6 1 3, C n_syntax_right [t 3] 4, U 4 5, M 5 2] <|
 .ret
theorem of_syntax_right_1 : Of Tryz.prog n_syntax_right_1 6 [.tmp 2] b_syntax_right_1 := of_ {} Tryz.func114
def b_syntax_level : ACode := r [X 0 1, V z0 2] <|
 q (r [A 0 1 3, K 3 4] <|
 .block 0 (r [D .eql 4 16 6, M 6 5] <|
 c 5 (r [V z0 2] <|
 .ret) (r [D .eql 4 3 8, M 8 7] <|
 c 7 (r [V (i6 6) 2] <|
 .ret) (q (r [D .eql 4 1 10, M 10 9] <|
 c 9 k (R [D .eql 4 2 11, M 11 9])) <|
 c 9 (r [V (i6 7) 2] <|
 .ret) k)))) <|
 r [A 0 1 12, K 12 13, C n_syntax_find [t 13] 14, ⟨.field false 2 1 (t 14), (some 15), none⟩, M 15 2] <|
 .ret
theorem of_syntax_level : Of Tryz.prog n_syntax_level 16 [.tmp 2] b_syntax_level := of_ {} Tryz.func115
def b_strings_Builder_WriteByte : ACode := r [V .nili 4] <|
 r [M 0 5, C n_strings_Builder_copyCheck [t 5] 6] <|
 r [M 0 7, M 0 8, Z 8 9, A 1 9 10, K 10 11, M 1 12, ⟨.bslice false ⟨false, 1⟩ (.int .u8 0) 1 [(0, (t 12))], (some 13), none⟩, ⟨.app (some 5) ⟨false, 1⟩ (t 11) (t 13), (some 14), none⟩, Z 7 15, A 1 15 16, W 1 16 14] <|
 r [V .nili 4] <|
 .ret
theorem of_strings_Builder_WriteByte : Of Tryz.prog n_strings_Builder_WriteByte 17 [.tmp 4] b_strings_Builder_WriteByte := of_ ⟨[], [], [], [14], [], []⟩ Tryz.func116
def b_value_Text : ACode := r [X 0 1, V e0 2, V z0 3] <|
 q (r [L 3 1 5, C n_value_Check [t 5] 6, M 6 4] <|
 r [M 4 7, D .neq 7 0 8] <|
 c 8 (r [M 4 9, V e0 2, M 9 3] <|
 .ret) k) <|
 q (r [A 0 1 10, K 10 11] <|
 .block 0 (r [D .eql 11 1 13, M 13 12] <|
 c 12 (r [A 1 1 14, K 14 15, C n_strconv_Itoa [t 15] 16, M 16 2, V z0 3] <|
 .ret) (r [D .eql 11 2 18, M 18 17] <|
 c 17 (r [A 2 1 19, K 19 20, C n_value_quote [t 20] 21, M 21 2, V z0 3] <|
 .ret) (r [D .eql 11 3 23, M 23 22] <|
 c 22 (r [A 1 1 24, K 24 25, D .eql 25 1 26, C n_strconv_FormatBool [t 26] 27, M 27 2, V z0 3] <|
 .ret) k)))) <|
 r [V (.str [110, 117, 108, 108]) 2, V z0 3] <|
 .ret
theorem of_value_Text : Of Tryz.prog n_value_Text 28 [.tmp 2, .tmp 3] b_value_Text := of_ {} Tryz.func117
def b_syntax_find : ACode := r [J [z0, e0, z0] 2] <|
 q (r [C n_syntax_binaries [] 5, N 5 6, V z0 7] <|
 .block 0 (.loop (r [B .lss 7 6 8] <|
 q (c 8 k (.exit 0)) <|
 q (.block 1 (r [I true 3 5 7 9, L 3 9 10, J [z0, e0, z0] 4, W 3 4 10] <|
 r [A 0 4 11, K 11 12, M 0 13, B .eql 12 13 14] <|
 c 14 (r [L 3 4 15, W 3 2 15] <|
 .ret) k)) <|
 R [D .add 7 1 16, M 16 7]))) <|
 r [⟨.build [z0, e0, z0] [], (some 17), none⟩, W 3 2 17] <|
 .ret
theorem of_syntax_find : Of Tryz.prog n_syntax_find 18 [.cell 2 true 3] b_syntax_find := of_ {} Tryz.func118
def b_ref12_Right : ACode := r [X 0 1, V (.bool false) 2] <|
 q (r [A 0 1 3, K 3 4] <|
 .block 0 (r [D .eql 4 0 6, M 6 5] <|
 c 5 (r [A 1 1 7, K 7 8, D .eql 8 0 9, M 9 10, AT 2 1 11 10, KT 11 12 10, ⟨.bin .eql (t 12) (.c e0), (some 13), some (10, true)⟩, P 10 13 14, M 14 2] <|
 .ret) (r [D .eql 4 1 16, M 16 15] <|
 c 15 (r [A 2 1 17, K 17 18, ⟨.bin .eql (t 18) (.c e0), (some 19), none⟩, M 19 2] <|
 .ret) (r [D .eql 4 2 21, M 21 20] <|
 c 20 (r [A 1 1 22, K 22 23, D .eql 23 0 24, M 24 25, AT 2 1 26 25, KT 26 27 25, CT n_ref12_Plain [t 27] 28 25, P 25 28 29, M 29 2] <|
 .ret) (r [D .eql 4 3 31, M 31 30] <|
 c 30 (r [A 2 1 32, K 32 33, ⟨.bin .eql (t 33) (.c e0), (some 34), none⟩, M 34 35, AT 1 1 36 35, KT 36 37 35, DT .eql 37 0 38 35, MT 38 39 35, AF 1 1 40 39, KF 40 41 39, DF .eql 41 1 42 39, OT 39 42 43 35, P 35 43 44, M 44 2] <|
 .ret) k))))) <|
 r [V (.bool false) 2] <|
 .ret
theorem of_ref12_Right : Of Tryz.prog n_ref12_Right 45 [.tmp 2] b_ref12_Right := of_ {} Tryz.func123
def b_law14_small : ACode := r [X 0 2, V (.bool false) 4] <|
 q (r [M 1 6, D .eql 6 0 7, M 7 8, AF 4 2 9 8, KF 9 10 8, SF 10 11 8, DF .gtr 11 300 12 8, O 8 12 13, M 13 14, AF 1 2 15 14, AF 2 15 16 14, KF 16 17 14, SF 17 18 14, DF .gtr 18 300 19 14, O 14 19 20, M 20 21, AF 5 2 22 21, KF 22 23 21, NF 23 24 21, DF .gtr 24 5 25 21, O 21 25 26] <|
 c 26 (r [V (.bool false) 4] <|
 .ret) k) <|
 q (r [V z0 5] <|
 .block 0 (.loop (q (r [M 5 27, A 5 2 28, K 28 29, N 29 30, B .lss 27 30 31] <|
 c 31 k (.exit 0)) <|
 q (.block 1 (r [A 5 2 34, K 34 35, M 5 36, I true 6 35 36 37, L 6 37 38, M 1 39, D .sub 39 1 40, C n_law14_small [t 38, t 40] 41, U 41 42] <|
 c 42 (r [V (.bool false) 4] <|
 .ret) k)) <|
 R [M 5 32, D .add 32 1 33, M 33 5]))) <|
 r [V (.bool true) 4] <|
 .ret
theorem of_law14_small : Of Tryz.prog n_law14_small 43 [.tmp 4] b_law14_small := of_ {} Tryz.func127
def b_ref14_Size : ACode := r [X 0 1, V z0 2] <|
 r [V (i6 1) 3] <|
 q (r [V z0 4] <|
 .block 0 (.loop (q (r [M 4 5, A 5 1 6, K 6 7, N 7 8, B .lss 5 8 9] <|
 c 9 k (.exit 0)) <|
 q (.block 1 (R [M 3 12, A 5 1 13, K 13 14, M 4 15, I true 6 14 15 16, L 6 16 17, C n_ref14_Size [t 17] 18, B .add 12 18 19, M 19 3])) <|
 R [M 4 10, D .add 10 1 11, M 11 4]))) <|
 r [M 3 20, M 20 2] <|
 .ret
theorem of_ref14_Size : Of Tryz.prog n_ref14_Size 21 [.tmp 2] b_ref14_Size := of_ {} Tryz.func128
def b_lex_letter : ACode := r [V (.bool false) 2] <|
 r [M 0 3, ⟨.bin .or (t 3) (.c (.int .u8 32)), (some 4), none⟩, ⟨.bin .geq (t 4) (.c (.int .u8 97)), (some 5), none⟩, M 5 6, MT 0 7 6, ⟨.bin .or (t 7) (.c (.int .u8 32)), (some 8), some (6, true)⟩, ⟨.bin .leq (t 8) (.c (.int .u8 122)), (some 9), some (6, true)⟩, P 6 9 10, M 10 11, MF 0 12 11, ⟨.bin .eql (t 12) (.c (.int .u8 95)), (some 13), some (11, false)⟩, O 11 13 14, M 14 2] <|
 .ret
theorem of_lex_letter : Of Tryz.prog n_lex_letter 15 [.tmp 2] b_lex_letter := of_ {} Tryz.func129
def b_lex_run : ACode := r [V z0 4] <|
 q (r [M 0 6, S 6 7, V z0 8] <|
 .block 0 (.loop (r [B .lss 8 7 9] <|
 q (c 9 k (.exit 0)) <|
 q (.block 1 (r [M 8 10, M 10 5] <|
 r [M 1 11, M 0 12, M 5 13, ⟨.idxS (t 12) (t 13), (some 14), none⟩, ⟨.call false (t 11) [(t 14)], (some 15), none⟩, U 15 16] <|
 c 16 (r [M 5 17, M 17 4] <|
 .ret) k)) <|
 R [D .add 8 1 18, M 18 8]))) <|
 r [M 0 19, S 19 20, M 20 4] <|
 .ret
theorem of_lex_run : Of Tryz.prog n_lex_run 21 [.tmp 4] b_lex_run := of_ {} Tryz.func130
def b_lex_word_1 : ACode := r [V (.bool false) 2] <|
 r [M 0 3, C n_lex_letter [t 3] 4, M 4 5, MF 0 6 5, CF n_lex_digit [t 6] 7 5, O 5 7 8, M 8 2] <|
 .ret
theorem of_lex_word_1 : Of Tryz.prog n_lex_word_1 9 [.tmp 2] b_lex_word_1 := of_ {} Tryz.func131
def b_lex_digit : ACode := r [V (.bool false) 2] <|
 r [M 0 3, ⟨.bin .geq (t 3) (.c (.int .u8 48)), (some 4), none⟩, M 4 5, MT 0 6 5, ⟨.bin .leq (t 6) (.c (.int .u8 57)), (some 7), some (5, true)⟩, P 5 7 8, M 8 2] <|
 .ret
theorem of_lex_digit : Of Tryz.prog n_lex_digit 9 [.tmp 2] b_lex_digit := of_ {} Tryz.func132
def b_typing_at : ACode := r [X 1 3, V z0 4] <|
 r [M 0 5, ⟨.mkfn (.func n_typing_at_1) [] [(t 3)], (some 6), none⟩, C n_slices_IndexFunc_Column [t 5, t 6] 7, M 7 4] <|
 .ret
theorem of_typing_at : Of Tryz.prog n_typing_at 8 [.tmp 4] b_typing_at := of_ {} Tryz.func133
def b_slices_IndexFunc_Column : ACode := r [V z0 4] <|
 q (r [M 0 6, N 6 7, V z0 8] <|
 .block 0 (.loop (r [B .lss 8 7 9] <|
 q (c 9 k (.exit 0)) <|
 q (.block 1 (r [M 8 10, M 10 5] <|
 r [M 1 11, M 0 12, M 5 13, I true 3 12 13 14, L 3 14 15, ⟨.call false (t 11) [(t 15)], (some 16), none⟩] <|
 c 16 (r [M 5 17, M 17 4] <|
 .ret) k)) <|
 R [D .add 8 1 18, M 18 8]))) <|
 r [V (i6 (-1)) 4] <|
 .ret
theorem of_slices_IndexFunc_Column : Of Tryz.prog n_slices_IndexFunc_Column 19 [.tmp 4] b_slices_IndexFunc_Column := of_ {} Tryz.func134
def b_slices_Index_Value : ACode := r [X 1 3, V z0 4] <|
 q (r [M 0 6, N 6 7, V z0 8] <|
 .block 0 (.loop (r [B .lss 8 7 9] <|
 q (c 9 k (.exit 0)) <|
 q (.block 1 (r [M 8 10, M 10 5] <|
 q (.draw [L 3 3 11, M 0 12, M 5 13, I true 3 12 13 14, L 3 14 15, ⟨.eqf false true [.i, .i, .s] (t 11) (t 15), (some 16), none⟩] []) <|
 c 16 (r [M 5 17, M 17 4] <|
 .ret) k)) <|
 R [D .add 8 1 18, M 18 8]))) <|
 r [V (i6 (-1)) 4] <|
 .ret
theorem of_slices_Index_Value : Of Tryz.prog n_slices_Index_Value 19 [.tmp 4] b_slices_Index_Value := of_ {} Tryz.func135
def b_lex_Lex : ACode := r [V .nils 2, V z0 3, V z0 4] <|
 .scope 0 (q (r [M 0 9, S 9 10, D .gtr 10 200 11] <|
 c 11 (r [V .nils 2, V z0 3, V (i6 5) 4] <|
 .ret) k) <|
 r [⟨.mkvec ⟨true, 4⟩, (some 5), none⟩] <|
 r [V z0 6] <|
 q (.label 0) <|
 q (.block 0 (.loop (.block 1 (q (.block 2 (.loop (q (r [M 6 12, M 0 13, S 13 14, B .lss 12 14 15, M 15 16, MT 0 17 16, MT 6 18 16, ⟨.idxS (t 17) (t 18), (some 19), some (16, true)⟩, ⟨.bin .eql (t 19) (.c (.int .u8 32)), (some 20), some (16, true)⟩, P 16 20 21] <|
 c 21 k (.exit 2)) <|
 .block 3 (R [M 6 22, D .add 22 1 23, M 23 6])))) <|
 q (r [M 6 24, M 0 25, S 25 26, B .eql 24 26 27] <|
 c 27 (.exit 0) k) <|
 r [M 0 29, M 6 30, ⟨.slS (t 29) (some (t 30)) none, (some 31), none⟩, C n_lex_next [t 31] 32, M 32 28, E 28 0 33, E 28 1 34, J [z0, e0, z0, z0, z0] 7, W 5 7 33, M 34 8] <|
 q (r [M 8 35, D .neq 35 0 36] <|
 c 36 (r [M 6 37, M 8 38, V .nils 2, M 37 3, M 38 4] <|
 .ret) k) <|
 r [M 6 39, A 0 7 40, A 3 40 41, W 1 41 39] <|
 r [M 5 42, A 0 7 43, L 4 43 44, ⟨.bslice false ⟨true, 4⟩ (.agg [z0, e0, z0, z0]) 1 [(0, (t 44))], (some 45), none⟩, ⟨.app none ⟨true, 4⟩ (t 42) (t 45), (some 46), none⟩, M 46 5] <|
 R [M 6 47, A 4 7 48, K 48 49, B .add 47 49 50, M 50 6])))) <|
 r [M 5 51, M 51 2, V z0 3, V z0 4] <|
 .ret) (.seq k <|
 q (.block 0 (.loop (.block 1 (q (.block 2 (.loop (q (r [M 6 12, M 0 13, S 13 14, B .lss 12 14 15, M 15 16, MT 0 17 16, MT 6 18 16, ⟨.idxS (t 17) (t 18), (some 19), some (16, true)⟩, ⟨.bin .eql (t 19) (.c (.int .u8 32)), (some 20), some (16, true)⟩, P 16 20 21] <|
 c 21 k (.exit 2)) <|
 .block 3 (R [M 6 22, D .add 22 1 23, M 23 6])))) <|
 q (r [M 6 24, M 0 25, S 25 26, B .eql 24 26 27] <|
 c 27 (.exit 0) k) <|
 r [M 0 29, M 6 30, ⟨.slS (t 29) (some (t 30)) none, (some 31), none⟩, C n_lex_next [t 31] 32, M 32 28, E 28 0 33, E 28 1 34, J [z0, e0, z0, z0, z0] 7, W 5 7 33, M 34 8] <|
 q (r [M 8 35, D .neq 35 0 36] <|
 c 36 (r [M 6 37, M 8 38, V .nils 2, M 37 3, M 38 4] <|
 .ret) k) <|
 r [M 6 39, A 0 7 40, A 3 40 41, W 1 41 39] <|
 r [M 5 42, A 0 7 43, L 4 43 44, ⟨.bslice false ⟨true, 4⟩ (.agg [z0, e0, z0, z0]) 1 [(0, (t 44))], (some 45), none⟩, ⟨.app none ⟨true, 4⟩ (t 42) (t 45), (some 46), none⟩, M 46 5] <|
 R [M 6 47, A 4 7 48, K 48 49, B .add 47 49 50, M 50 6])))) <|
 r [M 5 51, M 51 2, V z0 3, V z0 4] <|
 .ret)
theorem of_lex_Lex : Of Tryz.prog n_lex_Lex 52 [.tmp 2, .tmp 3, .tmp 4] b_lex_Lex := of_ ⟨[], [], [(5, ⟨true, 4⟩)], [], [], []⟩ Tryz.func136
def b_cell_cursor_mark : ACode := r [V e0 2] <|
 q (q (.draw [M 0 3, Z 3 4, A 1 4 5, K 5 6, M 0 7, Z 7 8, A 0 8 9, K 9 10, N 10 11, B .lss 6 11 12, M 12 13, MT 0 14 13, ZT 14 15 13, AT 0 15 16 13, KT 16 17 13, MT 0 18 13, ZT 18 19 13, AT 1 19 20 13, KT 20 21 13, IT true 4 17 21 22 13, AT 0 22 23 13, KT 23 24 13, DT .eql 24 4 25 13, P 13 25 26] []) <|
 c 26 (q (.draw [M 0 27, Z 27 28, A 0 28 29, K 29 30, M 0 31, Z 31 32, A 1 32 33, K 33 34, I true 4 30 34 35, A 1 35 36, K 36 37, M 37 2] []) <|
 .ret) k) <|
 r [V e0 2] <|
 .ret
theorem of_cell_cursor_mark : Of Tryz.prog n_cell_cursor_mark 38 [.tmp 2] b_cell_cursor_mark := of_ {} Tryz.func137
def b_cell_reader_cell : ACode := r [J [(.bool false), (.bool false), .nils] 2] <|
 r [J [(.bool false), (.bool false), .nils] 3] <|
 q (r [M 0 4, Z 4 5, A 0 5 6, A 0 6 7, K 7 8, C n_cell_not [t 8] 9, A 1 3 10, W 1 10 9] <|
 r [A 1 3 11, K 11 12] <|
 c 12 (R [M 0 13, Z 13 14, A 0 14 15, A 1 15 16, ⟨.store 1 (t 16) (.c (i6 2)), none, none⟩]) k) <|
 q (.block 0 (.loop (.block 1 (q (.draw [A 2 3 17, K 17 18, M 0 19, ⟨.meth (.c (.fn (.func n_cell_reader_test) [] [])) [(t 19)], (some 20), none⟩, ⟨.bslice false ⟨true, 15⟩ (.agg [z0, z0, z0, z0, e0, e0, .nils, z0, z0, z0, e0, e0, .nils, (.bool false), (.bool false)]) 1 [(0, (t 20))], (some 21), none⟩, ⟨.app none ⟨true, 15⟩ (t 18) (t 21), (some 22), none⟩, A 2 3 23, W 1 23 22] [((t 17), (t 19))]) <|
 r [M 0 24, ⟨.call false (.c (.fn (.func n_cell_reader_on) [] [])) [(t 24), (.c (.str [44]))], (some 25), none⟩, U 25 26] <|
 c 26 (.exit 0) k)))) <|
 q (r [A 1 3 27, K 27 28] <|
 c 28 (R [M 0 29, ⟨.call false (.c (.fn (.func n_cell_reader_must) [] [])) [(t 29), (.c (.str [41]))], (some 30), none⟩]) k) <|
 r [L 3 3 31, W 3 2 31] <|
 .ret
theorem of_cell_reader_cell : Of Tryz.prog n_cell_reader_cell 32 [.cell 2 true 3] b_cell_reader_cell := of_ ⟨[], [], [], [], [20], []⟩ Tryz.func138
def b_cell_parts : ACode := r [X 0 1, V .nils 2] <|
 q (r [A 0 1 3, K 3 4, D .eql 4 6 5] <|
 c 5 (r [A 1 1 6, L 6 6 7, A 7 1 8, L 6 8 9, ⟨.bslice false ⟨true, 6⟩ (.agg [z0, z0, z0, e0, e0, .nils]) 2 [(0, (t 7)), (1, (t 9))], (some 10), none⟩, M 10 2] <|
 .ret) k) <|
 r [A 1 1 11, L 6 11 12, ⟨.bslice false ⟨true, 6⟩ (.agg [z0, z0, z0, e0, e0, .nils]) 1 [(0, (t 12))], (some 13), none⟩, M 13 2] <|
 .ret
theorem of_cell_parts : Of Tryz.prog n_cell_parts 14 [.tmp 2] b_cell_parts := of_ {} Tryz.func139
def b_cell_fits : ACode := r [X 0 3, V (.bool false) 6] <|
 r [M 1 7, M 2 8, C n_typing_Fits [t 7, t 8] 9, M 9 10, AT 0 3 11 10, KT 11 12 10, DT .eql 12 1 13 10, MT 13 14 10, MF 1 15 14, DF .neq 15 3 16 14, MF 16 17 14, MT 2 18 17, DT .neq 18 3 19 17, PF 17 19 20 14, OT 14 20 21 10, P 10 21 22, M 22 6] <|
 .ret
theorem of_cell_fits : Of Tryz.prog n_cell_fits 23 [.tmp 6] b_cell_fits := of_ {} Tryz.func140
def b_syntax_Read : ACode := r [J [z0, z0, z0, e0, e0, .nils] 6, V z0 7, V z0 8] <|
 q (r [M 1 11, D .lss 11 0 12, M 12 13, MF 1 14 13, MF 0 15 13, NF 15 16 13, BF .gtr 14 16 17 13, O 13 17 18, M 18 19, MF 2 20 19, DF .lss 20 0 21 19, O 19 21 22, M 22 23, MF 2 24 23, DF .gtr 24 7 25 23, O 23 25 26] <|
 c 26 (r [⟨.build [z0, z0, z0, e0, e0, .nils] [], (some 27), none⟩, W 6 6 27, V z0 7, V (i6 2) 8] <|
 .ret) k) <|
 r [M 0 28, M 1 29, ⟨.build [.nils, z0, (.bool false)] [(0, 1, (t 28)), (1, 1, (t 29))], (some 30), none⟩, X 30 31, M 31 9] <|
 r [M 9 32, M 2 33, C n_syntax_reader_read [t 32, t 33] 34, J [z0, z0, z0, e0, e0, .nils] 10, W 6 10 34] <|
 q (r [M 9 35, Z 35 36, A 2 36 37, K 37 38] <|
 c 38 (q (.draw [⟨.build [z0, z0, z0, e0, e0, .nils] [], (some 39), none⟩, M 9 40, Z 40 41, A 1 41 42, K 42 43, W 6 6 39, M 43 7, V (i6 11) 8] [((t 42), (t 6))]) <|
 .ret) k) <|
 q (.draw [L 6 10 44, M 9 45, Z 45 46, A 1 46 47, K 47 48, W 6 6 44, M 48 7, V z0 8] [((t 47), (t 6))]) <|
 .ret
theorem of_syntax_Read : Of Tryz.prog n_syntax_Read 49 [.cell 6 true 6, .tmp 7, .tmp 8] b_syntax_Read := of_ {} Tryz.func141
def b_syntax_Check : ACode := r [X 0 1, V z0 2] <|
 q (r [L 6 1 3, C n_syntax_right [t 3] 4, U 4 5] <|
 c 5 (r [V (i6 2) 2] <|
 .ret) k) <|
 r [V z0 2] <|
 .ret
theorem of_syntax_Check : Of Tryz.prog n_syntax_Check 6 [.tmp 2] b_syntax_Check := of_ {} Tryz.func142
def b_typing_kind : ACode := r [X 0 2, V z0 4, V z0 5] <|
 q (r [A 0 2 14, K 14 15] <|
 .block 0 (r [D .eql 15 1 17, M 17 16] <|
 c 16 (r [A 1 2 18, A 0 18 19, K 19 20, M 20 4, V z0 5] <|
 .ret) (r [D .eql 15 2 22, M 22 21] <|
 c 21 (r [M 1 23, A 4 2 24, K 24 25, C n_typing_at [t 23, t 25] 26, M 26 6] <|
 q (r [M 6 27, D .lss 27 0 28] <|
 c 28 (r [V z0 4, V (i6 13) 5] <|
 .ret) k) <|
 r [M 1 29, M 6 30, I true 3 29 30 31, A 1 31 32, K 32 33, M 33 4, V z0 5] <|
 .ret) k))) <|
 r [⟨.mkvec ⟨false, 1⟩, (some 7), none⟩] <|
 q (r [A 5 2 34, K 34 35, N 35 36, V z0 37] <|
 .block 1 (.loop (r [B .lss 37 36 38] <|
 q (c 38 k (.exit 1)) <|
 q (.block 2 (r [I true 6 35 37 39, L 6 39 40, J [z0, z0, z0, e0, e0, .nils] 9, W 6 9 40] <|
 r [L 6 9 42, M 1 43, C n_typing_kind [t 42, t 43] 44, M 44 41, E 41 0 45, E 41 1 46, M 45 10, M 46 11] <|
 q (r [M 11 47, D .neq 47 0 48] <|
 c 48 (r [M 11 49, V z0 4, M 49 5] <|
 .ret) k) <|
 R [M 7 50, M 10 51, ⟨.bslice false ⟨false, 1⟩ z0 1 [(0, (t 51))], (some 52), none⟩, ⟨.app none ⟨false, 1⟩ (t 50) (t 52), (some 53), none⟩, M 53 7])) <|
 R [D .add 37 1 54, M 54 37]))) <|
 r [A 0 2 56, K 56 57, M 7 58, C n_typing_rule [t 57, t 58] 59, M 59 55, E 55 0 60, E 55 1 61, M 60 12, M 61 13] <|
 q (r [M 13 62, U 62 63] <|
 c 63 (r [V z0 4, V (i6 14) 5] <|
 .ret) k) <|
 r [M 12 64, M 64 4, V z0 5] <|
 .ret
theorem of_typing_kind : Of Tryz.prog n_typing_kind 65 [.tmp 4, .tmp 5] b_typing_kind := of_ ⟨[], [], [(7, ⟨false, 1⟩)], [], [], []⟩ Tryz.func143
def b_ref15_At : ACode := r [V z0 4] <|
 q (r [V z0 5] <|
 .block 0 (.loop (q (r [M 5 6, M 0 7, N 7 8, B .lss 6 8 9] <|
 c 9 k (.exit 0)) <|
 q (.block 1 (r [M 0 12, M 5 13, I true 3 12 13 14, A 0 14 15, K 15 16, M 1 17, B .eql 16 17 18] <|
 c 18 (r [M 5 19, M 19 4] <|
 .ret) k)) <|
 R [M 5 10, D .add 10 1 11, M 11 5]))) <|
 r [V (i6 (-1)) 4] <|
 .ret
theorem of_ref15_At : Of Tryz.prog n_ref15_At 20 [.tmp 4] b_ref15_At := of_ {} Tryz.func146
def b_ref15_of : ACode := r [V z0 4, V z0 5] <|
 r [V (.bool false) 6] <|
 r [V (i6 3) 7] <|
 q (r [M 0 8] <|
 .block 0 (r [D .eql 8 3 10, M 10 9] <|
 c 9 (r [M 1 11, ⟨.iaddr ⟨false, 1⟩ none (t 11) (.c z0), (some 12), none⟩, K 12 13, ⟨.call false (.c (.fn (.func n_ref15_Fits) [] [])) [(t 13), (.c (i6 1))], (some 14), none⟩, M 14 6] <|
 R [V (i6 1) 7]) (q (r [D .eql 8 5 16, M 16 15] <|
 c 15 k (r [D .eql 8 6 17, M 17 15] <|
 c 15 k (R [D .eql 8 7 18, M 18 15]))) <|
 c 15 (r [M 1 19, ⟨.iaddr ⟨false, 1⟩ none (t 19) (.c z0), (some 20), none⟩, K 20 21, ⟨.call false (.c (.fn (.func n_ref15_Fits) [] [])) [(t 21), (.c (i6 1))], (some 22), none⟩, M 22 23, MT 1 24 23, ⟨.iaddr ⟨false, 1⟩ none (t 24) (.c (i6 1)), (some 25), some (23, true)⟩, KT 25 26 23, ⟨.call false (.c (.fn (.func n_ref15_Fits) [] [])) [(t 26), (.c (i6 1))], (some 27), some (23, true)⟩, P 23 27 28, M 28 6] <|
 R [V (i6 1) 7]) (r [D .eql 8 4 30, M 30 29] <|
 c 29 (r [V (i6 1) 7] <|
 q (q (.draw [M 1 31, ⟨.iaddr ⟨false, 1⟩ none (t 31) (.c z0), (some 32), none⟩, K 32 33, M 1 34, ⟨.iaddr ⟨false, 1⟩ none (t 34) (.c (i6 1)), (some 35), none⟩, K 35 36, Q n_ref15_or [t 33, t 36] 37, D .eql 37 2 38] []) <|
 c 38 (R [V (i6 2) 7]) k) <|
 R [M 1 39, ⟨.iaddr ⟨false, 1⟩ none (t 39) (.c z0), (some 40), none⟩, K 40 41, M 7 42, C n_ref15_Fits [t 41, t 42] 43, M 43 44, MT 1 45 44, ⟨.iaddr ⟨false, 1⟩ none (t 45) (.c (i6 1)), (some 46), some (44, true)⟩, KT 46 47 44, MT 7 48 44, CT n_ref15_Fits [t 47, t 48] 49 44, P 44 49 50, M 50 6]) (q (r [D .eql 8 8 52, M 52 51] <|
 c 51 k (R [D .eql 8 9 53, M 53 51])) <|
 c 51 (.draw [M 1 54, ⟨.iaddr ⟨false, 1⟩ none (t 54) (.c z0), (some 55), none⟩, K 55 56, M 1 57, ⟨.iaddr ⟨false, 1⟩ none (t 57) (.c (i6 1)), (some 58), none⟩, K 58 59, Q n_ref15_Fits [t 56, t 59] 60, M 60 6] []) (q (r [D .eql 8 10 62, M 62 61] <|
 c 61 k (r [D .eql 8 11 63, M 63 61] <|
 c 61 k (r [D .eql 8 12 64, M 64 61] <|
 c 61 k (R [D .eql 8 13 65, M 65 61])))) <|
 c 61 (.draw [M 1 66, ⟨.iaddr ⟨false, 1⟩ none (t 66) (.c z0), (some 67), none⟩, K 67 68, M 1 69, ⟨.iaddr ⟨false, 1⟩ none (t 69) (.c (i6 1)), (some 70), none⟩, K 70 71, Q n_ref15_Fits [t 68, t 71] 72, M 72 73, MT 1 74 73, ⟨.iaddr ⟨false, 1⟩ none (t 74) (.c z0), (some 75), some (73, true)⟩, KT 75 76 73, DT .neq 76 3 77 73, P 73 77 78, M 78 79, MT 1 80 79, ⟨.iaddr ⟨false, 1⟩ none (t 80) (.c (i6 1)), (some 81), some (79, true)⟩, KT 81 82 79, DT .neq 82 3 83 79, P 79 83 84, M 84 6] []) (q (r [D .eql 8 14 86, M 86 85] <|
 c 85 k (R [D .eql 8 15 87, M 87 85])) <|
 c 85 (R [M 1 88, ⟨.iaddr ⟨false, 1⟩ none (t 88) (.c z0), (some 89), none⟩, K 89 90, ⟨.call false (.c (.fn (.func n_ref15_Fits) [] [])) [(t 90), (.c (i6 3))], (some 91), none⟩, M 91 92, MT 1 93 92, ⟨.iaddr ⟨false, 1⟩ none (t 93) (.c (i6 1)), (some 94), some (92, true)⟩, KT 94 95 92, ⟨.call false (.c (.fn (.func n_ref15_Fits) [] [])) [(t 95), (.c (i6 3))], (some 96), some (92, true)⟩, P 92 96 97, M 97 6]) (r [D .eql 8 16 99, M 99 98] <|
 c 98 (q (.draw [M 1 100, ⟨.iaddr ⟨false, 1⟩ none (t 100) (.c z0), (some 101), none⟩, K 101 102, ⟨.call true (.c (.fn (.func n_ref15_Fits) [] [])) [(t 102), (.c (i6 3))], (some 103), none⟩, M 103 104, MT 1 105 104, ⟨.iaddr ⟨false, 1⟩ none (t 105) (.c (i6 1)), (some 106), some (104, true)⟩, KT 106 107 104, MT 1 108 104, ⟨.iaddr ⟨false, 1⟩ none (t 108) (.c (i6 2)), (some 109), some (104, true)⟩, KT 109 110 104, QT n_ref15_Fits [t 107, t 110] 111 104, P 104 111 112, M 112 6] []) <|
 .draw [M 1 113, ⟨.iaddr ⟨false, 1⟩ none (t 113) (.c (i6 1)), (some 114), none⟩, K 114 115, M 1 116, ⟨.iaddr ⟨false, 1⟩ none (t 116) (.c (i6 2)), (some 117), none⟩, K 117 118, Q n_ref15_or [t 115, t 118] 119, M 119 7] []) (R [V (.bool false) 6]))))))))) <|
 q (r [M 6 120, U 120 121] <|
 c 121 (r [V z0 4, V (i6 14) 5] <|
 .ret) k) <|
 r [M 7 122, M 122 4, V z0 5] <|
 .ret
theorem of_ref15_of : Of Tryz.prog n_ref15_of 123 [.tmp 4, .tmp 5] b_ref15_of := of_ {} Tryz.func150
def b_slices_IndexFunc_Test : ACode := r [V z0 4] <|
 q (r [M 0 6, N 6 7, V z0 8] <|
 .block 0 (.loop (r [B .lss 8 7 9] <|
 q (c 9 k (.exit 0)) <|
 q (.block 1 (r [M 8 10, M 10 5] <|
 r [M 1 11, M 0 12, M 5 13, I true 15 12 13 14, L 15 14 15, ⟨.call false (t 11) [(t 15)], (some 16), none⟩] <|
 c 16 (r [M 5 17, M 17 4] <|
 .ret) k)) <|
 R [D .add 8 1 18, M 18 8]))) <|
 r [V (i6 (-1)) 4] <|
 .ret
theorem of_slices_IndexFunc_Test : Of Tryz.prog n_slices_IndexFunc_Test 19 [.tmp 4] b_slices_IndexFunc_Test := of_ {} Tryz.func151
def b_cell_part : ACode := r [X 0 1, V (.bool false) 2] <|
 r [L 6 1 3, C n_syntax_Check [t 3] 4, D .eql 4 0 5, M 5 6, LT 6 1 7 6, CT n_syntax_Deep [t 7] 8 6, DT .leq 8 12 9 6, P 6 9 10, M 10 2] <|
 .ret
theorem of_cell_part : Of Tryz.prog n_cell_part 11 [.tmp 2] b_cell_part := of_ {} Tryz.func152
def b_strings_Builder_copyCheck : ACode := r [M 0 2, Z 2 3, A 0 3 4, K 4 5, ⟨.eqnil false .p (t 5) (.c .nilp), (some 6), none⟩] <|
 c 6 (R [M 0 7, M 0 8, ⟨.p2u (t 8), (some 9), none⟩, ⟨.noesc 182 (t 9), (some 10), none⟩, ⟨.u2p 126 (t 10), (some 11), none⟩, Z 7 12, A 0 12 13, W 1 13 11]) (r [M 0 14, Z 14 15, A 0 15 16, K 16 17, M 0 18, ⟨.eqp true (t 17) (t 18), (some 19), none⟩] <|
 c 19 (.stop) k)
theorem of_strings_Builder_copyCheck : Of Tryz.prog n_strings_Builder_copyCheck 20 [] b_strings_Builder_copyCheck := of_ {} Tryz.func153
def b_value_plain : ACode := r [V (.bool false) 2] <|
 q (r [M 0 5, S 5 6, D .gtr 6 40 7] <|
 c 7 (r [V (.bool false) 2] <|
 .ret) k) <|
 q (r [M 0 8, ⟨.rngS (t 8), (some 9), none⟩] <|
 .block 0 (.loop (r [⟨.nxtS (t 9), (some 10), none⟩, E 10 0 11] <|
 q (c 11 k (.exit 0)) <|
 .block 1 (r [E 10 2 12, M 12 4] <|
 r [M 4 13, ⟨.bin .lss (t 13) (.c (.int .i32 32)), (some 14), none⟩, M 14 15, MF 4 16 15, ⟨.bin .gtr (t 16) (.c (.int .i32 126)), (some 17), some (15, false)⟩, O 15 17 18] <|
 c 18 (r [V (.bool false) 2] <|
 .ret) k)))) <|
 r [V (.bool true) 2] <|
 .ret
theorem of_value_plain : Of Tryz.prog n_value_plain 19 [.tmp 2] b_value_plain := of_ {} Tryz.func155
def b_slices_IndexFunc_Expr : ACode := r [V z0 4] <|
 q (r [M 0 6, N 6 7, V z0 8] <|
 .block 0 (.loop (r [B .lss 8 7 9] <|
 q (c 9 k (.exit 0)) <|
 q (.block 1 (r [M 8 10, M 10 5] <|
 r [M 1 11, M 0 12, M 5 13, I true 6 12 13 14, L 6 14 15, ⟨.call false (t 11) [(t 15)], (some 16), none⟩] <|
 c 16 (r [M 5 17, M 17 4] <|
 .ret) k)) <|
 R [D .add 8 1 18, M 18 8]))) <|
 r [V (i6 (-1)) 4] <|
 .ret
theorem of_slices_IndexFunc_Expr : Of Tryz.prog n_slices_IndexFunc_Expr 19 [.tmp 4] b_slices_IndexFunc_Expr := of_ {} Tryz.func156
def b_value_quote : ACode := r [V e0 2] <|
 r [⟨.alloc (some 126) [.nilp, .nils], (some 3), none⟩] <|
 r [⟨.call false (.c (.fn (.func n_strings_Builder_WriteByte) [] [])) [(t 3), (.c (.int .u8 34))], (some 6), none⟩] <|
 q (r [M 0 7, ⟨.rngS (t 7), (some 8), none⟩] <|
 .block 0 (.loop (r [⟨.nxtS (t 8), (some 9), none⟩, E 9 0 10] <|
 q (c 10 k (.exit 0)) <|
 .block 1 (r [E 9 2 11, M 11 5] <|
 q (r [M 5 12] <|
 .block 2 (q (.block 4 (.block 3 (q (q (r [⟨.bin .eql (t 12) (.c (.int .i32 34)), (some 14), none⟩, M 14 13] <|
 c 13 (.exit 3) k) <|
 r [⟨.bin .eql (t 12) (.c (.int .i32 92)), (some 16), none⟩, M 16 15] <|
 c 15 (.exit 4) k) <|
 .exit 2))) <|
 r [⟨.call false (.c (.fn (.func n_strings_Builder_WriteByte) [] [])) [(t 3), (.c (.int .u8 92))], (some 17), none⟩] <|
 .exit 2)) <|
 R [M 5 18, C n_strings_Builder_WriteRune [t 3, t 18] 19])))) <|
 r [⟨.call false (.c (.fn (.func n_strings_Builder_WriteByte) [] [])) [(t 3), (.c (.int .u8 34))], (some 20), none⟩] <|
 r [C n_strings_Builder_String [t 3] 21, M 21 2] <|
 .ret
theorem of_value_quote : Of Tryz.prog n_value_quote 22 [.tmp 2] b_value_quote := of_ ⟨[], [], [], [3], [], []⟩ Tryz.func158
end Go.Proofs.YthkhdedadacakaaGreatDoor
