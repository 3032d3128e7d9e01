/- Part of a proof: see Root. -/
import Derived.Test.YtmbgnaoilncbnaaGreatW12
import Derived.KernelRfl
set_option linter.unnecessarySimpa false
set_option linter.unusedSimpArgs false
set_option linter.unusedVariables false
namespace Go.Proofs.YtmbgnaoilncbnaaGreat
open Go.AM Go.AM.W
set_option maxRecDepth 10000
def b_law21_EntryBytes : ACode := r [X 0 2, V (.bool false) 4] <|
 q (r [L 6 2 13, C n_law21_E_Small [t 13] 14, U 14 15, M 15 16, MF 1 17 16, SF 17 18 16, DF .gtr 18 3000 19 16, O 16 19 20] <|
 c 20 (r [C n_law21_lives [] 21, M 21 4] <|
 .ret) k) <|
 r [L 6 2 23, C n_entry_Bytes [t 23] 24, M 24 22, E 22 0 25, E 22 1 26, M 25 5, M 26 6] <|
 r [L 6 2 28, C n_ref21_Bytes [t 28] 29, M 29 27, E 27 0 30, E 27 1 31, M 30 7, M 31 8] <|
 r [M 1 33, C n_entry_Parse [t 33] 34, M 34 32, E 32 0 35, E 32 1 36, J [e0, z0, .nils, z0, .nils, .nils] 9, W 6 9 35, M 36 10] <|
 r [M 1 38, C n_ref21_Parse [t 38] 39, M 39 37, E 37 0 40, E 37 1 41, J [e0, z0, .nils, z0, .nils, .nils] 11, W 6 11 40, M 41 12] <|
 r [M 5 42, M 7 43, B .eql 42 43 44, M 44 45, MT 6 46 45, MT 8 47 45, BT .eql 46 47 48 45, P 45 48 49, M 49 50, LT 6 2 51 50, CT n_entry_Check [t 51] 52 50, MT 8 53 50, BT .eql 52 53 54 50, P 50 54 55, M 55 56, LT 6 9 57 56, LT 6 11 58 56, CT n_ref21_Same [t 57, t 58] 59 56, P 56 59 60, M 60 61, MT 10 62 61, MT 12 63 61, BT .eql 62 63 64 61, P 61 64 65, M 65 66, CT n_law21_lives [] 67 66, P 66 67 68, M 68 4] <|
 .ret
theorem of_law21_EntryBytes : Of Tryz.prog n_law21_EntryBytes 69 [.tmp 4] b_law21_EntryBytes := of_ {} Tryz.func3
def b_law21_EntryBack : ACode := r [X 0 2, V (.bool false) 4] <|
 q (r [L 6 2 13, C n_law21_E_Small [t 13] 14, U 14 15, M 15 16, MF 1 17 16, SF 17 18 16, DF .gtr 18 3000 19 16, O 16 19 20] <|
 c 20 (r [C n_law21_lives [] 21, M 21 4] <|
 .ret) k) <|
 q (r [L 6 2 23, C n_entry_Bytes [t 23] 24, M 24 22, E 22 0 25, E 22 1 26, M 25 5, M 26 6] <|
 r [M 6 27, D .eql 27 0 28] <|
 c 28 (r [M 5 30, C n_entry_Parse [t 30] 31, M 31 29, E 29 0 32, E 29 1 33, J [e0, z0, .nils, z0, .nils, .nils] 7, W 6 7 32, M 33 8] <|
 r [L 6 2 34, L 6 7 35, C n_ref21_Same [t 34, t 35] 36, U 36 37, M 37 38, MF 8 39 38, DF .neq 39 0 40 38, O 38 40 41, M 41 42, MF 5 43 42, SF 43 44 42, DF .gtr 44 1400 45 42, O 42 45 46] <|
 c 46 (r [V (.bool false) 4] <|
 .ret) k) k) <|
 r [M 1 48, C n_entry_Parse [t 48] 49, M 49 47, E 47 0 50, E 47 1 51, J [e0, z0, .nils, z0, .nils, .nils] 9, W 6 9 50, M 51 10] <|
 q (r [M 10 52, D .neq 52 0 53] <|
 c 53 (r [L 6 9 54, ⟨.build [e0, z0, .nils, z0, .nils, .nils] [], (some 55), none⟩, C n_ref21_Same [t 54, t 55] 56, M 56 57, MT 10 58 57, DT .eql 58 4 59 57, P 57 59 60, M 60 61, CT n_law21_lives [] 62 61, P 61 62 63, M 63 4] <|
 .ret) k) <|
 r [L 6 9 65, C n_entry_Bytes [t 65] 66, M 66 64, E 64 0 67, E 64 1 68, M 67 11, M 68 12] <|
 r [M 11 69, M 1 70, B .eql 69 70 71, M 71 72, MT 12 73 72, DT .eql 73 0 74 72, P 72 74 75, M 75 76, CT n_law21_lives [] 77 76, P 76 77 78, M 78 4] <|
 .ret
theorem of_law21_EntryBack : Of Tryz.prog n_law21_EntryBack 79 [.tmp 4] b_law21_EntryBack := of_ {} Tryz.func6
def b_law21_E_Small : ACode := r [X 0 1, V (.bool false) 2] <|
 q (r [A 0 1 4, K 4 5, S 5 6, D .gtr 6 300 7, M 7 8, AF 2 1 9 8, KF 9 10 8, CF n_law16_Row_Few [t 10] 11 8, UF 11 12 8, O 8 12 13, M 13 14, AF 3 1 15 14, AF 1 15 16 14, KF 16 17 14, NF 17 18 14, DF .gtr 18 30 19 14, O 14 19 20, M 20 21, AF 3 1 22 21, AF 2 22 23 21, KF 23 24 21, NF 24 25 21, DF .gtr 25 30 26 21, O 21 26 27] <|
 c 27 (r [V (.bool false) 2] <|
 .ret) k) <|
 q (r [V z0 3] <|
 .block 0 (.loop (q (r [M 3 28, A 3 1 29, A 2 29 30, K 30 31, N 31 32, B .lss 28 32 33] <|
 c 33 k (.exit 0)) <|
 q (.block 1 (r [A 3 1 36, A 2 36 37, K 37 38, M 3 39, I false 1 38 39 40, K 40 41, C n_law16_Row_Few [t 41] 42, U 42 43] <|
 c 43 (r [V (.bool false) 2] <|
 .ret) k)) <|
 R [M 3 34, D .add 34 1 35, M 35 3]))) <|
 r [V (.bool true) 2] <|
 .ret
theorem of_law21_E_Small : Of Tryz.prog n_law21_E_Small 44 [.tmp 2] b_law21_E_Small := of_ {} Tryz.func7
def b_entry_Bytes : ACode := r [X 0 1, V e0 2, V z0 3] <|
 q (r [L 6 1 5, C n_entry_Check [t 5] 6, M 6 4] <|
 r [M 4 7, D .neq 7 0 8] <|
 c 8 (r [M 4 9, V e0 2, M 9 3] <|
 .ret) k) <|
 r [L 6 1 10, C n_entry_text [t 10] 11, M 11 2, V z0 3] <|
 .ret
theorem of_entry_Bytes : Of Tryz.prog n_entry_Bytes 12 [.tmp 2, .tmp 3] b_entry_Bytes := of_ {} Tryz.func9
def b_ref21_Bytes : ACode := r [X 0 1, V e0 2, V z0 3] <|
 q (r [L 6 1 5, C n_ref21_Check [t 5] 6, M 6 4] <|
 r [M 4 7, D .neq 7 0 8] <|
 c 8 (r [M 4 9, V e0 2, M 9 3] <|
 .ret) k) <|
 r [L 6 1 10, C n_ref21_text [t 10] 11, M 11 2, V z0 3] <|
 .ret
theorem of_ref21_Bytes : Of Tryz.prog n_ref21_Bytes 12 [.tmp 2, .tmp 3] b_ref21_Bytes := of_ {} Tryz.func10
def b_entry_Parse : ACode := r [J [e0, z0, .nils, z0, .nils, .nils] 2, V z0 3] <|
 r [J [e0, z0, .nils, z0, .nils, .nils] 4] <|
 r [⟨.build [e0, z0] [], (some 8), none⟩, X 8 9, M 9 5] <|
 r [M 5 11, M 5 12, M 0 13, ⟨.call false (.c (.fn (.func n_octet_TakeText) [] [])) [(t 13), (.c (i6 1400))], (some 14), none⟩, M 14 10, E 10 0 15, E 10 1 16, E 10 2 17, A 0 4 18, W 1 18 15, Z 11 19, A 0 19 20, W 1 20 16, Z 12 21, A 1 21 22, W 1 22 17] <|
 r [M 5 23, C n_entry_reader_num [t 23] 24, A 1 4 25, W 1 25 24] <|
 r [M 5 26, C n_entry_reader_row [t 26] 27, A 2 4 28, W 1 28 27] <|
 r [M 5 29, C n_entry_reader_num [t 29] 30, A 3 4 31, A 0 31 32, W 1 32 30] <|
 r [M 5 33, M 5 34, ⟨.mkfn (.func n_entry_reader_num) [(t 34)] [], (some 35), none⟩, C n_entry_list_int [t 33, t 35] 36, A 3 4 37, A 1 37 38, W 1 38 36] <|
 r [M 5 39, M 5 40, ⟨.mkfn (.func n_entry_reader_row) [(t 40)] [], (some 41), none⟩, C n_entry_list_LValue [t 39, t 41] 42, A 3 4 43, A 2 43 44, W 1 44 42] <|
 q (r [L 6 4 46, C n_entry_Bytes [t 46] 47, M 47 45, E 45 0 48, E 45 1 49, M 48 6, M 49 7] <|
 r [M 5 50, Z 50 51, A 1 51 52, K 52 53, D .neq 53 0 54, M 54 55, MF 7 56 55, DF .neq 56 0 57 55, O 55 57 58, M 58 59, MF 6 60 59, MF 0 61 59, BF .neq 60 61 62 59, O 59 62 63] <|
 c 63 (r [⟨.build [e0, z0, .nils, z0, .nils, .nils] [], (some 64), none⟩, W 6 2 64, V (i6 4) 3] <|
 .ret) k) <|
 r [L 6 4 65, W 6 2 65, V z0 3] <|
 .ret
theorem of_entry_Parse : Of Tryz.prog n_entry_Parse 66 [.cell 2 true 6, .tmp 3] b_entry_Parse := of_ {} Tryz.func11
def b_ref21_Parse : ACode := r [J [e0, z0, .nils, z0, .nils, .nils] 2, V z0 3] <|
 r [M 0 16, ⟨.call false (.c (.fn (.func n_ref01_TakeText) [] [])) [(t 16), (.c (i6 1400))], (some 17), none⟩, M 17 15, E 15 0 18, E 15 1 19, E 15 2 20, M 18 4, M 19 5, M 20 6] <|
 r [M 5 21, M 6 22, D .neq 22 0 23, ⟨.build [e0, (.bool false)] [(0, 1, (t 21)), (1, 1, (t 23))], (some 24), none⟩, X 24 25, M 25 7] <|
 r [M 4 26, ⟨.build [e0, z0, .nils, z0, .nils, .nils] [(0, 1, (t 26))], (some 27), none⟩, J [e0, z0, .nils, z0, .nils, .nils] 8, W 6 8 27] <|
 r [M 7 28, C n_ref21_reader_num [t 28] 29, A 1 8 30, W 1 30 29] <|
 r [M 7 31, C n_ref21_reader_row [t 31] 32, A 2 8 33, W 1 33 32] <|
 r [M 7 34, C n_ref21_reader_num [t 34] 35, A 3 8 36, A 0 36 37, W 1 37 35] <|
 q (r [M 7 38, C n_ref21_reader_num [t 38] 39, M 39 9] <|
 .block 0 (.loop (q (r [A 3 8 40, A 1 40 41, K 41 42, N 42 43, M 9 44, B .lss 43 44 45, M 45 46, MT 7 47 46, ZT 47 48 46, AT 1 48 49 46, KT 49 50 46, UT 50 51 46, P 46 51 52] <|
 c 52 k (.exit 0)) <|
 .block 1 (r [M 7 53, C n_ref21_reader_num [t 53] 54, M 54 10] <|
 R [A 3 8 55, A 1 55 56, K 56 57, M 10 58, ⟨.bslice false ⟨false, 1⟩ z0 1 [(0, (t 58))], (some 59), none⟩, ⟨.app none ⟨false, 1⟩ (t 57) (t 59), (some 60), none⟩, A 3 8 61, A 1 61 62, W 1 62 60])))) <|
 q (r [M 7 63, C n_ref21_reader_num [t 63] 64, M 64 11] <|
 .block 2 (.loop (q (r [A 3 8 65, A 2 65 66, K 66 67, N 67 68, M 11 69, B .lss 68 69 70, M 70 71, MT 7 72 71, ZT 72 73 71, AT 1 73 74 71, KT 74 75 71, UT 75 76 71, P 71 76 77] <|
 c 77 k (.exit 2)) <|
 .block 3 (r [M 7 78, C n_ref21_reader_row [t 78] 79, M 79 12] <|
 R [A 3 8 80, A 2 80 81, K 81 82, M 12 83, ⟨.bslice false ⟨false, 1⟩ .nils 1 [(0, (t 83))], (some 84), none⟩, ⟨.app none ⟨false, 1⟩ (t 82) (t 84), (some 85), none⟩, A 3 8 86, A 2 86 87, W 1 87 85])))) <|
 q (r [M 7 88, Z 88 89, A 1 89 90, K 90 91] <|
 c 91 (r [⟨.build [e0, z0, .nils, z0, .nils, .nils] [], (some 92), none⟩, W 6 2 92, V (i6 4) 3] <|
 .ret) k) <|
 q (r [L 6 8 94, C n_ref21_Bytes [t 94] 95, M 95 93, E 93 0 96, E 93 1 97, M 96 13, M 97 14] <|
 r [M 14 98, D .neq 98 0 99, M 99 100, MF 13 101 100, MF 0 102 100, BF .neq 101 102 103 100, O 100 103 104] <|
 c 104 (r [⟨.build [e0, z0, .nils, z0, .nils, .nils] [], (some 105), none⟩, W 6 2 105, V (i6 4) 3] <|
 .ret) k) <|
 r [L 6 8 106, W 6 2 106, V z0 3] <|
 .ret
theorem of_ref21_Parse : Of Tryz.prog n_ref21_Parse 107 [.cell 2 true 6, .tmp 3] b_ref21_Parse := of_ {} Tryz.func12
def b_entry_Check : ACode := r [X 0 1, V z0 2] <|
 q (.block 0 (r [L 6 1 4, C n_entry_right [t 4] 5, U 5 6, M 6 3] <|
 c 3 (r [V (i6 2) 2] <|
 .ret) (r [L 6 1 8, C n_entry_text [t 8] 9, S 9 10, D .gtr 10 1400 11, M 11 7] <|
 c 7 (r [V (i6 5) 2] <|
 .ret) k))) <|
 r [V z0 2] <|
 .ret
theorem of_entry_Check : Of Tryz.prog n_entry_Check 12 [.tmp 2] b_entry_Check := of_ {} Tryz.func13
def b_ref21_Same : ACode := r [X 0 2, X 1 3, V (.bool false) 4] <|
 r [A 0 2 5, K 5 6, A 0 3 7, K 7 8, B .eql 6 8 9, M 9 10, AT 1 2 11 10, KT 11 12 10, AT 1 3 13 10, KT 13 14 10, BT .eql 12 14 15 10, P 10 15 16, M 16 17, AT 2 2 18 17, KT 18 19 17, AT 2 3 20 17, KT 20 21 17, CT n_ref12_SameRow [t 19, t 21] 22 17, P 17 22 23, M 23 24, AT 3 2 25 24, LT 3 25 26 24, AT 3 3 27 24, LT 3 27 28 24, CT n_ref20_Same [t 26, t 28] 29 24, P 24 29 30, M 30 4] <|
 .ret
theorem of_ref21_Same : Of Tryz.prog n_ref21_Same 31 [.tmp 4] b_ref21_Same := of_ {} Tryz.func14
def b_law16_Row_Few : ACode := r [V (.bool false) 2] <|
 q (r [M 0 4, N 4 5, D .gtr 5 12 6] <|
 c 6 (r [V (.bool false) 2] <|
 .ret) k) <|
 q (r [V z0 3] <|
 .block 0 (.loop (q (r [M 3 7, M 0 8, N 8 9, B .lss 7 9 10] <|
 c 10 k (.exit 0)) <|
 q (.block 1 (r [M 0 13, M 3 14, I true 3 13 14 15, A 2 15 16, K 16 17, S 17 18, D .gtr 18 300 19] <|
 c 19 (r [V (.bool false) 2] <|
 .ret) k)) <|
 R [M 3 11, D .add 11 1 12, M 12 3]))) <|
 r [V (.bool true) 2] <|
 .ret
theorem of_law16_Row_Few : Of Tryz.prog n_law16_Row_Few 20 [.tmp 2] b_law16_Row_Few := of_ {} Tryz.func16
def b_entry_text : ACode := r [X 0 1, V e0 2] <|
 q (.draw [A 0 1 9, K 9 10, Q n_octet_Text [t 10] 11, A 1 1 12, K 12 13, Q n_octet_Num [t 13] 14, B .add 11 14 15, J [e0] 3, W 1 3 15] []) <|
 r [⟨.mkfn (.func n_entry_text_1) [] [(t 3)], (some 16), none⟩, M 16 4] <|
 r [M 4 17, A 2 1 18, K 18 19, ⟨.call false (t 17) [(t 19)], (some 20), none⟩] <|
 q (.draw [K 3 21, A 3 1 22, A 0 22 23, K 23 24, Q n_octet_Num [t 24] 25, A 3 1 26, A 1 26 27, K 27 28, N 28 29, Q n_octet_Num [t 29] 30, B .add 25 30 31, B .add 21 31 32, W 1 3 32] []) <|
 q (r [A 3 1 33, A 1 33 34, K 34 35, N 35 36, V z0 37] <|
 .block 0 (.loop (r [B .lss 37 36 38] <|
 q (c 38 k (.exit 0)) <|
 q (.block 1 (r [I false 1 35 37 39, K 39 40, M 40 6] <|
 .draw [K 3 41, M 6 42, Q n_octet_Num [t 42] 43, B .add 41 43 44, W 1 3 44] [])) <|
 R [D .add 37 1 45, M 45 37]))) <|
 q (.draw [K 3 46, A 3 1 47, A 2 47 48, K 48 49, N 49 50, Q n_octet_Num [t 50] 51, B .add 46 51 52, W 1 3 52] []) <|
 q (r [A 3 1 53, A 2 53 54, K 54 55, N 55 56, V z0 57] <|
 .block 2 (.loop (r [B .lss 57 56 58] <|
 q (c 58 k (.exit 2)) <|
 q (.block 3 (r [I false 1 55 57 59, K 59 60, M 60 8] <|
 R [M 4 61, M 8 62, ⟨.call false (t 61) [(t 62)], (some 63), none⟩])) <|
 R [D .add 57 1 64, M 64 57]))) <|
 r [K 3 65, M 65 2] <|
 .ret
theorem of_entry_text : Of Tryz.prog n_entry_text 66 [.tmp 2] b_entry_text := of_ {} Tryz.func24
def b_ref21_Check : ACode := r [X 0 1, V z0 2] <|
 q (.block 0 (r [L 6 1 4, C n_ref21_Right [t 4] 5, U 5 6, M 6 3] <|
 c 3 (r [V (i6 2) 2] <|
 .ret) (r [L 6 1 8, C n_ref21_text [t 8] 9, S 9 10, D .gtr 10 1400 11, M 11 7] <|
 c 7 (r [V (i6 5) 2] <|
 .ret) k))) <|
 r [V z0 2] <|
 .ret
theorem of_ref21_Check : Of Tryz.prog n_ref21_Check 12 [.tmp 2] b_ref21_Check := of_ {} Tryz.func25
def b_ref21_text : ACode := r [X 0 1, V e0 2] <|
 q (.draw [A 0 1 6, K 6 7, Q n_ref01_Text [t 7] 8, A 1 1 9, K 9 10, Q n_ref01_Num [t 10] 11, B .add 8 11 12, A 2 1 13, K 13 14, Q n_ref12_Row [t 14] 15, B .add 12 15 16, A 3 1 17, A 0 17 18, K 18 19, Q n_ref01_Num [t 19] 20, B .add 16 20 21, A 3 1 22, A 1 22 23, K 23 24, N 24 25, Q n_ref01_Num [t 25] 26, B .add 21 26 27, M 27 3] []) <|
 q (r [V z0 4] <|
 .block 0 (.loop (q (r [M 4 28, A 3 1 29, A 1 29 30, K 30 31, N 31 32, B .lss 28 32 33] <|
 c 33 k (.exit 0)) <|
 q (.block 1 (R [M 3 36, A 3 1 37, A 1 37 38, K 38 39, M 4 40, I false 1 39 40 41, K 41 42, C n_ref01_Num [t 42] 43, B .add 36 43 44, M 44 3])) <|
 R [M 4 34, D .add 34 1 35, M 35 4]))) <|
 r [M 3 45, A 3 1 46, A 2 46 47, K 47 48, N 48 49, C n_ref01_Num [t 49] 50, B .add 45 50 51, M 51 3] <|
 q (r [V z0 5] <|
 .block 2 (.loop (q (r [M 5 52, A 3 1 53, A 2 53 54, K 54 55, N 55 56, B .lss 52 56 57] <|
 c 57 k (.exit 2)) <|
 q (.block 3 (R [M 3 60, A 3 1 61, A 2 61 62, K 62 63, M 5 64, I false 1 63 64 65, K 65 66, C n_ref12_Row [t 66] 67, B .add 60 67 68, M 68 3])) <|
 R [M 5 58, D .add 58 1 59, M 59 5]))) <|
 r [M 3 69, M 69 2] <|
 .ret
theorem of_ref21_text : Of Tryz.prog n_ref21_text 70 [.tmp 2] b_ref21_text := of_ {} Tryz.func26
def b_octet_TakeText : ACode := r [V e0 4, V e0 5, V z0 6] <|
 r [M 0 11, M 1 12, C n_octet_size [t 11, t 12] 13, M 13 10, E 10 0 14, E 10 1 15, E 10 2 16, M 14 7, M 15 8, M 16 9] <|
 q (.block 0 (r [M 9 18, D .neq 18 0 19, M 19 17] <|
 c 17 (r [M 9 20, V e0 4, V e0 5, M 20 6] <|
 .ret) (r [M 7 22, M 8 23, S 23 24, B .gtr 22 24 25, M 25 21] <|
 c 21 (r [V e0 4, V e0 5, V (i6 3) 6] <|
 .ret) k))) <|
 q (.draw [M 8 26, M 7 27, ⟨.slS (t 26) none (some (t 27)), (some 28), none⟩, M 8 29, M 7 30, ⟨.slS (t 29) (some (t 30)) none, (some 31), none⟩, M 28 4, M 31 5, V z0 6] []) <|
 .ret
theorem of_octet_TakeText : Of Tryz.prog n_octet_TakeText 32 [.tmp 4, .tmp 5, .tmp 6] b_octet_TakeText := of_ {} Tryz.func27
def b_entry_reader_num : ACode := r [V z0 2] <|
 r [M 0 7, Z 7 8, A 0 8 9, K 9 10, C n_octet_TakeNum [t 10] 11, M 11 6, E 6 0 12, E 6 1 13, E 6 2 14, M 12 3, M 13 4, M 14 5] <|
 r [M 0 15, M 4 16, Z 15 17, A 0 17 18, W 1 18 16] <|
 q (r [M 5 19, D .neq 19 0 20] <|
 c 20 (R [M 0 21, M 5 22, Z 21 23, A 1 23 24, W 1 24 22]) k) <|
 r [M 3 25, M 25 2] <|
 .ret
theorem of_entry_reader_num : Of Tryz.prog n_entry_reader_num 26 [.tmp 2] b_entry_reader_num := of_ {} Tryz.func28
def b_entry_reader_row : ACode := r [V .nils 2] <|
 r [M 0 7, Z 7 8, A 0 8 9, K 9 10, ⟨.call false (.c (.fn (.func n_value_TakeRow) [] [])) [(t 10), (.c (i6 6))], (some 11), none⟩, M 11 6, E 6 0 12, E 6 1 13, E 6 2 14, M 12 3, M 13 4, M 14 5] <|
 r [M 0 15, M 4 16, Z 15 17, A 0 17 18, W 1 18 16] <|
 q (r [M 5 19, D .neq 19 0 20] <|
 c 20 (R [M 0 21, M 5 22, Z 21 23, A 1 23 24, W 1 24 22]) k) <|
 r [M 3 25, M 25 2] <|
 .ret
theorem of_entry_reader_row : Of Tryz.prog n_entry_reader_row 26 [.tmp 2] b_entry_reader_row := of_ {} Tryz.func29
def b_entry_list_int : ACode := r [V .nils 4] <|
 r [⟨.mkvec ⟨false, 1⟩, (some 5), none⟩] <|
 q (r [M 0 8, C n_entry_reader_num [t 8] 9, M 9 6] <|
 .block 0 (.loop (q (r [M 5 10, N 10 11, M 6 12, B .lss 11 12 13, M 13 14, MT 0 15 14, ZT 15 16 14, AT 1 16 17 14, KT 17 18 14, DT .eql 18 0 19 14, P 14 19 20] <|
 c 20 k (.exit 0)) <|
 .block 1 (r [M 1 21, ⟨.call false (t 21) [], (some 22), none⟩, M 22 7] <|
 R [M 5 23, M 7 24, ⟨.bslice false ⟨false, 1⟩ z0 1 [(0, (t 24))], (some 25), none⟩, ⟨.app none ⟨false, 1⟩ (t 23) (t 25), (some 26), none⟩, M 26 5])))) <|
 r [M 5 27, M 27 4] <|
 .ret
theorem of_entry_list_int : Of Tryz.prog n_entry_list_int 28 [.tmp 4] b_entry_list_int := of_ ⟨[], [], [(5, ⟨false, 1⟩)], [], [], []⟩ Tryz.func30
def b_entry_list_LValue : ACode := r [V .nils 4] <|
 r [⟨.mkvec ⟨false, 1⟩, (some 5), none⟩] <|
 q (r [M 0 8, C n_entry_reader_num [t 8] 9, M 9 6] <|
 .block 0 (.loop (q (r [M 5 10, N 10 11, M 6 12, B .lss 11 12 13, M 13 14, MT 0 15 14, ZT 15 16 14, AT 1 16 17 14, KT 17 18 14, DT .eql 18 0 19 14, P 14 19 20] <|
 c 20 k (.exit 0)) <|
 .block 1 (r [M 1 21, ⟨.call false (t 21) [], (some 22), none⟩, M 22 7] <|
 R [M 5 23, M 7 24, ⟨.bslice false ⟨false, 1⟩ .nils 1 [(0, (t 24))], (some 25), none⟩, ⟨.app none ⟨false, 1⟩ (t 23) (t 25), (some 26), none⟩, M 26 5])))) <|
 r [M 5 27, M 27 4] <|
 .ret
theorem of_entry_list_LValue : Of Tryz.prog n_entry_list_LValue 28 [.tmp 4] b_entry_list_LValue := of_ ⟨[], [], [(5, ⟨false, 1⟩)], [], [], []⟩ Tryz.func31
def b_ref01_TakeText : ACode := r [V e0 4, V e0 5, V z0 6] <|
 r [M 0 11, C n_ref01_TakeNum [t 11] 12, M 12 10, E 10 0 13, E 10 1 14, E 10 2 15, M 13 7, M 14 8, M 15 9] <|
 q (.block 0 (r [M 9 17, D .neq 17 0 18, M 18 16] <|
 c 16 (r [M 9 19, V e0 4, V e0 5, M 19 6] <|
 .ret) (r [M 7 21, D .lss 21 0 22, M 22 20] <|
 c 20 (r [V e0 4, V e0 5, V (i6 4) 6] <|
 .ret) (r [M 7 24, M 1 25, B .gtr 24 25 26, M 26 23] <|
 c 23 (r [V e0 4, V e0 5, V (i6 5) 6] <|
 .ret) (r [M 7 28, M 8 29, S 29 30, B .gtr 28 30 31, M 31 27] <|
 c 27 (r [V e0 4, V e0 5, V (i6 3) 6] <|
 .ret) k))))) <|
 q (.draw [M 8 32, M 7 33, ⟨.slS (t 32) none (some (t 33)), (some 34), none⟩, M 8 35, M 7 36, ⟨.slS (t 35) (some (t 36)) none, (some 37), none⟩, M 34 4, M 37 5, V z0 6] []) <|
 .ret
theorem of_ref01_TakeText : Of Tryz.prog n_ref01_TakeText 38 [.tmp 4, .tmp 5, .tmp 6] b_ref01_TakeText := of_ {} Tryz.func32
def b_ref21_reader_num : ACode := r [V z0 2] <|
 r [M 0 7, Z 7 8, A 0 8 9, K 9 10, C n_ref01_TakeNum [t 10] 11, M 11 6, E 6 0 12, E 6 1 13, E 6 2 14, M 12 3, M 13 4, M 14 5] <|
 r [M 0 15, M 4 16, Z 15 17, A 0 17 18, W 1 18 16] <|
 r [M 0 19, M 0 20, Z 20 21, A 1 21 22, K 22 23, M 23 24, MF 5 25 24, DF .neq 25 0 26 24, O 24 26 27, Z 19 28, A 1 28 29, W 1 29 27] <|
 r [M 3 30, M 30 2] <|
 .ret
theorem of_ref21_reader_num : Of Tryz.prog n_ref21_reader_num 31 [.tmp 2] b_ref21_reader_num := of_ {} Tryz.func33
def b_ref21_reader_row : ACode := r [V .nils 2] <|
 r [M 0 7, Z 7 8, A 0 8 9, K 9 10, ⟨.call false (.c (.fn (.func n_ref12_TakeRow) [] [])) [(t 10), (.c (i6 6))], (some 11), none⟩, M 11 6, E 6 0 12, E 6 1 13, E 6 2 14, M 12 3, M 13 4, M 14 5] <|
 r [M 0 15, M 4 16, Z 15 17, A 0 17 18, W 1 18 16] <|
 r [M 0 19, M 0 20, Z 20 21, A 1 21 22, K 22 23, M 23 24, MF 5 25 24, DF .neq 25 0 26 24, O 24 26 27, Z 19 28, A 1 28 29, W 1 29 27] <|
 r [M 3 30, M 30 2] <|
 .ret
theorem of_ref21_reader_row : Of Tryz.prog n_ref21_reader_row 31 [.tmp 2] b_ref21_reader_row := of_ {} Tryz.func34
def b_entry_right : ACode := r [X 0 1, V (.bool false) 2] <|
 q (.block 0 (r [A 0 1 4, K 4 5, C n_lex_Name [t 5] 6, U 6 7, M 7 8, AF 1 1 9 8, KF 9 10 8, DF .lss 10 1 11 8, O 8 11 12, M 12 13, AF 1 1 14 13, KF 14 15 13, DF .gtr 15 2147483648 16 13, O 13 16 17, M 17 3] <|
 c 3 (r [V (.bool false) 2] <|
 .ret) (r [A 3 1 19, A 0 19 20, K 20 21, D .lss 21 0 22, M 22 23, AF 3 1 24 23, AF 0 24 25 23, KF 25 26 23, DF .gtr 26 99 27 23, O 23 27 28, M 28 29, AF 3 1 30 29, AF 1 30 31 29, KF 31 32 29, CF n_entry_rising [t 32] 33 29, UF 33 34 29, O 29 34 35, M 35 36, AF 3 1 37 36, AF 2 37 38 36, KF 38 39 36, NF 39 40 36, DF .gtr 40 24 41 36, O 36 41 42, M 42 18] <|
 c 18 (r [V (.bool false) 2] <|
 .ret) k))) <|
 r [A 2 1 43, K 43 44, C n_entry_plain [t 44] 45, M 45 46, AT 3 1 47 46, AT 2 47 48 46, KT 48 49 46, ⟨.call false (.c (.fn (.func n_slices_ContainsFunc_LValue) [] [])) [(t 49), (.c (.fn (.func n_entry_right_1) [] []))], (some 50), some (46, true)⟩, UT 50 51 46, P 46 51 52, M 52 2] <|
 .ret
theorem of_entry_right : Of Tryz.prog n_entry_right 53 [.tmp 2] b_entry_right := of_ {} Tryz.func35
def b_ref12_SameRow : ACode := r [V (.bool false) 4] <|
 q (r [M 0 6, N 6 7, M 1 8, N 8 9, B .neq 7 9 10] <|
 c 10 (r [V (.bool false) 4] <|
 .ret) k) <|
 q (r [V z0 5] <|
 .block 0 (.loop (q (r [M 5 11, M 0 12, N 12 13, B .lss 11 13 14] <|
 c 14 k (.exit 0)) <|
 q (.block 1 (q (.draw [M 0 17, M 5 18, I true 3 17 18 19, L 3 19 20, M 1 21, M 5 22, I true 3 21 22 23, L 3 23 24, ⟨.eqf true true [.i, .i, .s] (t 20) (t 24), (some 25), none⟩] []) <|
 c 25 (r [V (.bool false) 4] <|
 .ret) k)) <|
 R [M 5 15, D .add 15 1 16, M 16 5]))) <|
 r [V (.bool true) 4] <|
 .ret
theorem of_ref12_SameRow : Of Tryz.prog n_ref12_SameRow 26 [.tmp 4] b_ref12_SameRow := of_ {} Tryz.func36
def b_ref20_Same : ACode := r [X 0 2, X 1 3, V (.bool false) 4] <|
 r [A 0 2 5, K 5 6, A 0 3 7, K 7 8, B .eql 6 8 9, M 9 10, AT 1 2 11 10, KT 11 12 10, AT 1 3 13 10, KT 13 14 10, CT n_ref01_SameInts [t 12, t 14] 15 10, P 10 15 16, M 16 17, AT 2 2 18 17, KT 18 19 17, AT 2 3 20 17, KT 20 21 17, CT n_ref20_SameRows [t 19, t 21] 22 17, P 17 22 23, M 23 4] <|
 .ret
theorem of_ref20_Same : Of Tryz.prog n_ref20_Same 24 [.tmp 4] b_ref20_Same := of_ {} Tryz.func37
def b_octet_Text : ACode := r [V e0 2] <|
 r [M 0 3, S 3 4, C n_octet_Num [t 4] 5, M 0 6, B .add 5 6 7, M 7 2] <|
 .ret
theorem of_octet_Text : Of Tryz.prog n_octet_Text 8 [.tmp 2] b_octet_Text := of_ {} Tryz.func46
def b_octet_Num : ACode := r [V e0 2] <|
 r [M 0 5, C n_octet_code [t 5] 6, M 6 3] <|
 r [⟨.mkslice ⟨false, 1⟩ (.int .u8 0) (.c z0) (.c (i6 10)), (some 7), none⟩, M 7 4] <|
 q (.block 0 (.loop (q (r [M 3 8, ⟨.bin .geq (t 8) (.c (.int .u64 128)), (some 9), none⟩] <|
 c 9 k (.exit 0)) <|
 .block 1 (r [M 4 10, M 3 11, C n_octet_low_uint64 [t 11] 12, ⟨.bin .or (t 12) (.c (.int .u8 128)), (some 13), none⟩, ⟨.bslice false ⟨false, 1⟩ (.int .u8 0) 1 [(0, (t 13))], (some 14), none⟩, ⟨.app none ⟨false, 1⟩ (t 10) (t 14), (some 15), none⟩, M 15 4] <|
 R [M 3 16, ⟨.bin .shr (t 16) (.c (.int .u64 7)), (some 17), none⟩, M 17 3])))) <|
 r [M 4 18, M 3 19, C n_octet_low_uint64 [t 19] 20, ⟨.bslice false ⟨false, 1⟩ (.int .u8 0) 1 [(0, (t 20))], (some 21), none⟩, ⟨.app none ⟨false, 1⟩ (t 18) (t 21), (some 22), none⟩, ⟨.b2s (t 22), (some 23), none⟩, M 23 2] <|
 .ret
theorem of_octet_Num : Of Tryz.prog n_octet_Num 24 [.tmp 2] b_octet_Num := of_ {} Tryz.func47
def b_entry_text_1 : ACode := r [M 0 6, C n_value_Row [t 6] 7, M 7 5, E 5 0 8, E 5 1 9, M 8 3, M 9 4] <|
 R [K 1 10, M 3 11, B .add 10 11 12, W 1 1 12]
theorem of_entry_text_1 : Of Tryz.prog n_entry_text_1 13 [] b_entry_text_1 := of_ {} Tryz.func48
def b_value_Row : ACode := r [V e0 2, V z0 3] <|
 r [M 0 9, N 9 10, C n_octet_Num [t 10] 11, M 11 4] <|
 q (r [M 0 12, N 12 13, V z0 14] <|
 .block 0 (.loop (r [B .lss 14 13 15] <|
 q (c 15 k (.exit 0)) <|
 q (.block 1 (r [I true 3 12 14 16, L 3 16 17, J [z0, z0, e0] 6, W 3 6 17] <|
 r [L 3 6 19, C n_value_Bytes [t 19] 20, M 20 18, E 18 0 21, E 18 1 22, M 21 7, M 22 8] <|
 q (r [M 8 23, D .neq 23 0 24] <|
 c 24 (r [M 8 25, V e0 2, M 25 3] <|
 .ret) k) <|
 R [M 4 26, M 7 27, B .add 26 27 28, M 28 4])) <|
 R [D .add 14 1 29, M 29 14]))) <|
 r [M 4 30, M 30 2, V z0 3] <|
 .ret
theorem of_value_Row : Of Tryz.prog n_value_Row 31 [.tmp 2, .tmp 3] b_value_Row := of_ {} Tryz.func49
def b_ref21_Right : ACode := r [X 0 1, V (.bool false) 2] <|
 q (r [A 0 1 5, K 5 6, C n_ref13_Name [t 6] 7, U 7 8, M 8 9, AF 1 1 10 9, KF 10 11 9, DF .lss 11 1 12 9, O 9 12 13, M 13 14, AF 1 1 15 14, KF 15 16 14, DF .gtr 16 2147483648 17 14, O 14 17 18, M 18 19, AF 2 1 20 19, KF 20 21 19, NF 21 22 19, DF .gtr 22 6 23 19, O 19 23 24, M 24 25, AF 2 1 26 25, KF 26 27 25, CF n_ref12_RightRow [t 27] 28 25, UF 28 29 25, O 25 29 30, M 30 31, AF 3 1 32 31, AF 0 32 33 31, KF 33 34 31, DF .lss 34 0 35 31, O 31 35 36, M 36 37, AF 3 1 38 37, AF 0 38 39 37, KF 39 40 37, DF .gtr 40 99 41 37, O 37 41 42, M 42 43, AF 3 1 44 43, AF 1 44 45 43, KF 45 46 43, NF 46 47 43, DF .gtr 47 24 48 43, O 43 48 49, M 49 50, AF 3 1 51 50, AF 2 51 52 50, KF 52 53 50, NF 53 54 50, DF .gtr 54 24 55 50, O 50 55 56] <|
 c 56 (r [V (.bool false) 2] <|
 .ret) k) <|
 q (r [V z0 3] <|
 .block 0 (.loop (q (r [M 3 57, A 3 1 58, A 1 58 59, K 59 60, N 60 61, B .lss 57 61 62] <|
 c 62 k (.exit 0)) <|
 q (.block 1 (q (.draw [A 3 1 65, A 1 65 66, K 66 67, M 3 68, I false 1 67 68 69, K 69 70, D .lss 70 0 71, M 71 72, AF 3 1 73 72, AF 1 73 74 72, KF 74 75 72, MF 3 76 72, IF false 1 75 76 77 72, KF 77 78 72, DF .gtr 78 23 79 72, O 72 79 80, M 80 81, MF 3 82 81, DF .gtr 82 0 83 81, MF 83 84 81, AT 3 1 85 84, AT 1 85 86 84, KT 86 87 84, MT 3 88 84, DT .sub 88 1 89 84, IT false 1 87 89 90 84, KT 90 91 84, AT 3 1 92 84, AT 1 92 93 84, KT 93 94 84, MT 3 95 84, IT false 1 94 95 96 84, KT 96 97 84, BT .geq 91 97 98 84, PF 84 98 99 81, O 81 99 100] []) <|
 c 100 (r [V (.bool false) 2] <|
 .ret) k)) <|
 R [M 3 63, D .add 63 1 64, M 64 3]))) <|
 q (r [V z0 4] <|
 .block 2 (.loop (q (r [M 4 101, A 3 1 102, A 2 102 103, K 103 104, N 104 105, B .lss 101 105 106] <|
 c 106 k (.exit 2)) <|
 q (.block 3 (r [A 3 1 109, A 2 109 110, K 110 111, M 4 112, I false 1 111 112 113, K 113 114, N 114 115, D .gtr 115 6 116, M 116 117, AF 3 1 118 117, AF 2 118 119 117, KF 119 120 117, MF 4 121 117, IF false 1 120 121 122 117, KF 122 123 117, CF n_ref12_RightRow [t 123] 124 117, UF 124 125 117, O 117 125 126] <|
 c 126 (r [V (.bool false) 2] <|
 .ret) k)) <|
 R [M 4 107, D .add 107 1 108, M 108 4]))) <|
 r [V (.bool true) 2] <|
 .ret
theorem of_ref21_Right : Of Tryz.prog n_ref21_Right 127 [.tmp 2] b_ref21_Right := of_ {} Tryz.func50
def b_ref01_Text : ACode := r [V e0 2] <|
 r [M 0 3, S 3 4, C n_ref01_Num [t 4] 5, M 0 6, B .add 5 6 7, M 7 2] <|
 .ret
theorem of_ref01_Text : Of Tryz.prog n_ref01_Text 8 [.tmp 2] b_ref01_Text := of_ {} Tryz.func51
def b_ref01_Num : ACode := r [V e0 2] <|
 r [M 0 5, C n_ref01_code [t 5] 6, M 6 3] <|
 r [⟨.mkvec ⟨false, 1⟩, (some 4), none⟩] <|
 q (.block 0 (.loop (q (r [M 3 7, ⟨.bin .geq (t 7) (.c (.int .u64 128)), (some 8), none⟩] <|
 c 8 k (.exit 0)) <|
 .block 1 (r [M 4 9, M 3 10, ⟨.bin .rem (t 10) (.c (.int .u64 128)), (some 11), none⟩, ⟨.bin .add (.c (.int .u64 128)) (t 11), (some 12), none⟩, ⟨.cint .u8 (t 12), (some 13), none⟩, ⟨.bslice false ⟨false, 1⟩ (.int .u8 0) 1 [(0, (t 13))], (some 14), none⟩, ⟨.app none ⟨false, 1⟩ (t 9) (t 14), (some 15), none⟩, M 15 4] <|
 R [M 3 16, ⟨.bin .quo (t 16) (.c (.int .u64 128)), (some 17), none⟩, M 17 3])))) <|
 r [M 4 18, M 3 19, ⟨.cint .u8 (t 19), (some 20), none⟩, ⟨.bslice false ⟨false, 1⟩ (.int .u8 0) 1 [(0, (t 20))], (some 21), none⟩, ⟨.app none ⟨false, 1⟩ (t 18) (t 21), (some 22), none⟩, ⟨.b2s (t 22), (some 23), none⟩, M 23 2] <|
 .ret
theorem of_ref01_Num : Of Tryz.prog n_ref01_Num 24 [.tmp 2] b_ref01_Num := of_ ⟨[], [], [(4, ⟨false, 1⟩)], [], [], []⟩ Tryz.func52
def b_ref12_Row : ACode := r [V e0 2] <|
 r [M 0 5, N 5 6, C n_ref01_Num [t 6] 7, M 7 3] <|
 q (r [V z0 4] <|
 .block 0 (.loop (q (r [M 4 8, M 0 9, N 9 10, B .lss 8 10 11] <|
 c 11 k (.exit 0)) <|
 q (.block 1 (R [M 3 14, M 0 15, M 4 16, I true 3 15 16 17, L 3 17 18, C n_ref12_Bytes [t 18] 19, B .add 14 19 20, M 20 3])) <|
 R [M 4 12, D .add 12 1 13, M 13 4]))) <|
 r [M 3 21, M 21 2] <|
 .ret
theorem of_ref12_Row : Of Tryz.prog n_ref12_Row 22 [.tmp 2] b_ref12_Row := of_ {} Tryz.func53
def b_octet_size : ACode := r [V z0 4, V e0 5, V z0 6] <|
 r [M 0 11, C n_octet_TakeNum [t 11] 12, M 12 10, E 10 0 13, E 10 1 14, E 10 2 15, M 13 7, M 14 8, M 15 9] <|
 q (.block 0 (r [M 9 17, D .neq 17 0 18, M 18 16] <|
 c 16 (r [M 9 19, V z0 4, V e0 5, M 19 6] <|
 .ret) (r [M 7 21, D .lss 21 0 22, M 22 20] <|
 c 20 (r [V z0 4, V e0 5, V (i6 4) 6] <|
 .ret) (r [M 7 24, M 1 25, B .gtr 24 25 26, M 26 23] <|
 c 23 (r [V z0 4, V e0 5, V (i6 5) 6] <|
 .ret) k)))) <|
 r [M 7 27, M 8 28, M 27 4, M 28 5, V z0 6] <|
 .ret
theorem of_octet_size : Of Tryz.prog n_octet_size 29 [.tmp 4, .tmp 5, .tmp 6] b_octet_size := of_ {} Tryz.func54
def b_octet_TakeNum : ACode := r [V z0 2, V e0 3, V z0 4] <|
 r [V (.int .u64 0) 5] <|
 q (r [M 0 8, S 8 9, ⟨.min (t 9) [(.c (i6 10))], (some 10), none⟩, V z0 11] <|
 .block 0 (.loop (r [B .lss 11 10 12] <|
 q (c 12 k (.exit 0)) <|
 q (.block 1 (r [M 11 13, M 13 6] <|
 r [M 0 14, M 6 15, ⟨.idxS (t 14) (t 15), (some 16), none⟩, M 16 7] <|
 q (r [M 6 17, D .gtr 17 0 18, M 18 19, MT 7 20 19, ⟨.bin .eql (t 20) (.c (.int .u8 0)), (some 21), some (19, true)⟩, P 19 21 22, M 22 23, MF 6 24 23, DF .eql 24 9 25 23, MF 25 26 23, MT 7 27 26, ⟨.bin .gtr (t 27) (.c (.int .u8 1)), (some 28), some (26, true)⟩, PF 26 28 29 23, O 23 29 30] <|
 c 30 (r [V z0 2, V e0 3, V (i6 4) 4] <|
 .ret) k) <|
 r [M 5 31, M 7 32, ⟨.cint .i64 (t 32), (some 33), none⟩, C n_octet_low_int [t 33] 34, ⟨.cint .u64 (t 34), (some 35), none⟩, M 6 36, ⟨.bin .mul (.c (i6 7)) (t 36), (some 37), none⟩, B .shl 35 37 38, B .or 31 38 39, M 39 5] <|
 r [M 7 40, ⟨.bin .lss (t 40) (.c (.int .u8 128)), (some 41), none⟩] <|
 c 41 (q (.draw [M 5 42, Q n_octet_number [t 42] 43, M 0 44, M 6 45, D .add 45 1 46, ⟨.slS (t 44) (some (t 46)) none, (some 47), none⟩, M 43 2, M 47 3, V z0 4] []) <|
 .ret) k)) <|
 R [D .add 11 1 48, M 48 11]))) <|
 r [V z0 2, V e0 3, V (i6 3) 4] <|
 .ret
theorem of_octet_TakeNum : Of Tryz.prog n_octet_TakeNum 49 [.tmp 2, .tmp 3, .tmp 4] b_octet_TakeNum := of_ {} Tryz.func55
def b_value_TakeRow : ACode := r [V .nils 4, V e0 5, V z0 6] <|
 r [M 0 13, C n_octet_TakeNum [t 13] 14, M 14 12, E 12 0 15, E 12 1 16, E 12 2 17, M 15 7, M 16 8, M 17 9] <|
 q (.block 0 (r [M 9 19, D .neq 19 0 20, M 20 18] <|
 c 18 (r [M 9 21, V .nils 4, V e0 5, M 21 6] <|
 .ret) (r [M 7 23, D .lss 23 0 24, M 24 22] <|
 c 22 (r [V .nils 4, V e0 5, V (i6 4) 6] <|
 .ret) (r [M 7 26, M 1 27, B .gtr 26 27 28, M 28 25] <|
 c 25 (r [V .nils 4, V e0 5, V (i6 5) 6] <|
 .ret) k)))) <|
 r [⟨.mkvec ⟨true, 3⟩, (some 10), none⟩] <|
 q (.block 1 (.loop (q (r [M 10 29, N 29 30, M 7 31, B .lss 30 31 32] <|
 c 32 k (.exit 1)) <|
 .block 2 (r [J [z0, z0, e0] 11] <|
 q (r [M 8 34, C n_value_Take [t 34] 35, M 35 33, E 33 0 36, E 33 1 37, E 33 2 38, W 3 11 36, M 37 8, M 38 9] <|
 r [M 9 39, D .neq 39 0 40] <|
 c 40 (r [M 9 41, V .nils 4, V e0 5, M 41 6] <|
 .ret) k) <|
 R [M 10 42, L 3 11 43, ⟨.bslice false ⟨true, 3⟩ (.agg [z0, z0, e0]) 1 [(0, (t 43))], (some 44), none⟩, ⟨.app none ⟨true, 3⟩ (t 42) (t 44), (some 45), none⟩, M 45 10])))) <|
 r [M 10 46, M 8 47, M 46 4, M 47 5, V z0 6] <|
 .ret
theorem of_value_TakeRow : Of Tryz.prog n_value_TakeRow 48 [.tmp 4, .tmp 5, .tmp 6] b_value_TakeRow := of_ ⟨[], [], [(10, ⟨true, 3⟩)], [], [], []⟩ Tryz.func56
def b_ref01_TakeNum : ACode := r [V z0 2, V e0 3, V z0 4] <|
 r [V (.int .u64 0) 5, V (.int .u64 1) 6] <|
 q (r [V z0 7] <|
 .block 0 (.loop (q (r [M 7 9, M 0 10, S 10 11, B .lss 9 11 12] <|
 c 12 k (.exit 0)) <|
 q (.block 1 (r [M 0 15, M 7 16, ⟨.idxS (t 15) (t 16), (some 17), none⟩, ⟨.bin .rem (t 17) (.c (.int .u8 128)), (some 18), none⟩, ⟨.cint .u64 (t 18), (some 19), none⟩, M 19 8] <|
 q (r [M 7 20, D .eql 20 9 21, M 21 22, MT 0 23 22, MT 7 24 22, ⟨.idxS (t 23) (t 24), (some 25), some (22, true)⟩, ⟨.bin .gtr (t 25) (.c (.int .u8 1)), (some 26), some (22, true)⟩, P 22 26 27, M 27 28, MF 7 29 28, DF .gtr 29 0 30 28, MF 30 31 28, MT 0 32 31, MT 7 33 31, ⟨.idxS (t 32) (t 33), (some 34), some (31, true)⟩, ⟨.bin .eql (t 34) (.c (.int .u8 0)), (some 35), some (31, true)⟩, PF 31 35 36 28, O 28 36 37] <|
 c 37 (r [V z0 2, V e0 3, V (i6 4) 4] <|
 .ret) k) <|
 r [M 5 38, M 8 39, M 6 40, B .mul 39 40 41, B .add 38 41 42, M 42 5] <|
 r [M 6 43, ⟨.bin .mul (t 43) (.c (.int .u64 128)), (some 44), none⟩, M 44 6] <|
 r [M 0 45, M 7 46, ⟨.idxS (t 45) (t 46), (some 47), none⟩, ⟨.bin .lss (t 47) (.c (.int .u8 128)), (some 48), none⟩] <|
 c 48 (q (.draw [M 5 49, Q n_ref01_number [t 49] 50, M 0 51, M 7 52, D .add 52 1 53, ⟨.slS (t 51) (some (t 53)) none, (some 54), none⟩, M 50 2, M 54 3, V z0 4] []) <|
 .ret) k)) <|
 R [M 7 13, D .add 13 1 14, M 14 7]))) <|
 r [V z0 2, V e0 3, V (i6 3) 4] <|
 .ret
theorem of_ref01_TakeNum : Of Tryz.prog n_ref01_TakeNum 55 [.tmp 2, .tmp 3, .tmp 4] b_ref01_TakeNum := of_ {} Tryz.func57
def b_ref12_TakeRow : ACode := r [V .nils 4, V e0 5, V z0 6] <|
 r [M 0 15, C n_ref01_TakeNum [t 15] 16, M 16 14, E 14 0 17, E 14 1 18, E 14 2 19, M 17 7, M 18 8, M 19 9] <|
 q (.block 0 (r [M 9 21, D .neq 21 0 22, M 22 20] <|
 c 20 (r [M 9 23, V .nils 4, V e0 5, M 23 6] <|
 .ret) (r [M 7 25, D .lss 25 0 26, M 26 24] <|
 c 24 (r [V .nils 4, V e0 5, V (i6 4) 6] <|
 .ret) (r [M 7 28, M 1 29, B .gtr 28 29 30, M 30 27] <|
 c 27 (r [V .nils 4, V e0 5, V (i6 5) 6] <|
 .ret) k)))) <|
 r [⟨.mkvec ⟨true, 3⟩, (some 10), none⟩] <|
 q (.block 1 (.loop (q (r [M 10 31, N 31 32, M 7 33, B .lss 32 33 34] <|
 c 34 k (.exit 1)) <|
 .block 2 (r [M 8 36, C n_ref12_Take [t 36] 37, M 37 35, E 35 0 38, E 35 1 39, E 35 2 40, J [z0, z0, e0] 11, W 3 11 38, M 39 12, M 40 13] <|
 q (r [M 13 41, D .neq 41 0 42] <|
 c 42 (r [M 13 43, V .nils 4, V e0 5, M 43 6] <|
 .ret) k) <|
 r [M 10 44, L 3 11 45, ⟨.bslice false ⟨true, 3⟩ (.agg [z0, z0, e0]) 1 [(0, (t 45))], (some 46), none⟩, ⟨.app none ⟨true, 3⟩ (t 44) (t 46), (some 47), none⟩, M 47 10] <|
 R [M 12 48, M 48 8])))) <|
 r [M 10 49, M 8 50, M 49 4, M 50 5, V z0 6] <|
 .ret
theorem of_ref12_TakeRow : Of Tryz.prog n_ref12_TakeRow 51 [.tmp 4, .tmp 5, .tmp 6] b_ref12_TakeRow := of_ ⟨[], [], [(10, ⟨true, 3⟩)], [], [], []⟩ Tryz.func58
def b_lex_Name : ACode := r [V (.bool false) 2] <|
 r [M 0 3, ⟨.bin .neq (t 3) (.c e0), (some 4), none⟩, M 4 5, MT 0 6 5, CT n_lex_word [t 6] 7 5, MT 0 8 5, ST 8 9 5, BT .eql 7 9 10 5, P 5 10 11, M 11 12, MT 0 13 12, ST 13 14 12, DT .leq 14 16 15 12, P 12 15 16, M 16 17, MT 0 18 17, CT n_lex_reserved [t 18] 19 17, UT 19 20 17, P 17 20 21, M 21 2] <|
 .ret
theorem of_lex_Name : Of Tryz.prog n_lex_Name 22 [.tmp 2] b_lex_Name := of_ {} Tryz.func59
def b_entry_rising : ACode := r [V (.bool false) 2] <|
 r [V (i6 (-1)) 3] <|
 q (r [M 0 6, N 6 7, V z0 8] <|
 .block 0 (.loop (r [B .lss 8 7 9] <|
 q (c 9 k (.exit 0)) <|
 q (.block 1 (r [I false 1 6 8 10, K 10 11, M 11 5] <|
 q (r [M 5 12, M 3 13, B .leq 12 13 14, M 14 15, MF 5 16 15, DF .geq 16 24 17 15, O 15 17 18] <|
 c 18 (r [V (.bool false) 2] <|
 .ret) k) <|
 R [M 5 19, M 19 3])) <|
 R [D .add 8 1 20, M 20 8]))) <|
 r [V (.bool true) 2] <|
 .ret
theorem of_entry_rising : Of Tryz.prog n_entry_rising 21 [.tmp 2] b_entry_rising := of_ {} Tryz.func60
def b_entry_plain : ACode := r [V (.bool false) 2] <|
 r [M 0 3, N 3 4, D .leq 4 6 5, M 5 6, MT 0 7 6, ⟨.call false (.c (.fn (.func n_slices_ContainsFunc_Value) [] [])) [(t 7), (.c (.fn (.func n_entry_plain_1) [] []))], (some 8), some (6, true)⟩, UT 8 9 6, P 6 9 10, M 10 2] <|
 .ret
theorem of_entry_plain : Of Tryz.prog n_entry_plain 11 [.tmp 2] b_entry_plain := of_ {} Tryz.func61
def b_slices_ContainsFunc_LValue : ACode := r [V (.bool false) 4] <|
 r [M 0 5, M 1 6, C n_slices_IndexFunc_LValue [t 5, t 6] 7, D .geq 7 0 8, M 8 4] <|
 .ret
theorem of_slices_ContainsFunc_LValue : Of Tryz.prog n_slices_ContainsFunc_LValue 9 [.tmp 4] b_slices_ContainsFunc_LValue := of_ {} Tryz.func62
def b_entry_right_1 : ACode := r [V (.bool false) 2] <|
 r [M 0 3, C n_entry_plain [t 3] 4, U 4 5, M 5 2] <|
 .ret
theorem of_entry_right_1 : Of Tryz.prog n_entry_right_1 6 [.tmp 2] b_entry_right_1 := of_ {} Tryz.func63
def b_ref01_SameInts : ACode := r [V (.bool false) 4] <|
 q (r [M 0 6, N 6 7, M 1 8, N 8 9, B .neq 7 9 10] <|
 c 10 (r [V (.bool false) 4] <|
 .ret) k) <|
 q (r [V z0 5] <|
 .block 0 (.loop (q (r [M 5 11, M 0 12, N 12 13, B .lss 11 13 14] <|
 c 14 k (.exit 0)) <|
 q (.block 1 (q (.draw [M 0 17, M 5 18, I false 1 17 18 19, K 19 20, M 1 21, M 5 22, I false 1 21 22 23, K 23 24, B .neq 20 24 25] []) <|
 c 25 (r [V (.bool false) 4] <|
 .ret) k)) <|
 R [M 5 15, D .add 15 1 16, M 16 5]))) <|
 r [V (.bool true) 4] <|
 .ret
theorem of_ref01_SameInts : Of Tryz.prog n_ref01_SameInts 26 [.tmp 4] b_ref01_SameInts := of_ {} Tryz.func64
def b_ref20_SameRows : ACode := r [V (.bool false) 4] <|
 q (r [M 0 6, N 6 7, M 1 8, N 8 9, B .neq 7 9 10] <|
 c 10 (r [V (.bool false) 4] <|
 .ret) k) <|
 q (r [V z0 5] <|
 .block 0 (.loop (q (r [M 5 11, M 0 12, N 12 13, B .lss 11 13 14] <|
 c 14 k (.exit 0)) <|
 q (.block 1 (q (.draw [M 0 17, M 5 18, I false 1 17 18 19, K 19 20, M 1 21, M 5 22, I false 1 21 22 23, K 23 24, Q n_ref12_SameRow [t 20, t 24] 25, U 25 26] []) <|
 c 26 (r [V (.bool false) 4] <|
 .ret) k)) <|
 R [M 5 15, D .add 15 1 16, M 16 5]))) <|
 r [V (.bool true) 4] <|
 .ret
theorem of_ref20_SameRows : Of Tryz.prog n_ref20_SameRows 27 [.tmp 4] b_ref20_SameRows := of_ {} Tryz.func65
end Go.Proofs.YtmbgnaoilncbnaaGreat
