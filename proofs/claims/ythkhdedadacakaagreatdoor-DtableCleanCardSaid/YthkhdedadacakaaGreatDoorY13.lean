/- Part of a proof: see Root. -/
import Derived.Test.YthkhdedadacakaaGreatDoorY12
import Derived.KernelRfl
set_option linter.unnecessarySimpa false
set_option linter.unusedSimpArgs false
set_option linter.unusedVariables false
namespace Go.Proofs.YthkhdedadacakaaGreatDoor
open Go.AM Go.AM.W
set_option maxRecDepth 10000
def b_law18_DtableClean : ACode := r [X 0 1, V (.bool false) 2] <|
 q (r [L 6 1 19, C n_law18_T_Small [t 19] 20, U 20 21] <|
 c 21 (r [C n_law18_lives [] 22, M 22 2] <|
 .ret) k) <|
 r [L 6 1 24, C n_dtable_Clean [t 24] 25, M 25 23, E 23 0 26, E 23 1 27, E 23 2 28, E 23 3 29, J [e0, .nils, .nils, z0, z0, .nils] 3, W 6 3 26, M 27 4, M 28 5, M 29 6] <|
 r [L 6 1 31, C n_dtable_Make [t 31] 32, M 32 30, E 30 0 33, E 30 1 34, E 30 2 35, E 30 3 36, J [e0, .nils, .nils, z0, z0, .nils, .nils] 7, W 7 7 33, M 34 8, M 35 9, M 36 10] <|
 q (r [M 6 37, D .neq 37 0 38] <|
 c 38 (r [M 10 39, M 6 40, B .eql 39 40 41, M 41 42, MF 10 43 42, DF .eql 43 0 44 42, MF 44 45 42, MT 6 46 45, DT .eql 46 5 47 45, PF 45 47 48 42, O 42 48 49, M 49 50, LT 6 3 51 50, ⟨.build [e0, .nils, .nils, z0, z0, .nils] [], (some 52), some (50, true)⟩, CT n_ref18_Same [t 51, t 52] 53 50, P 50 53 54, M 54 55, CT n_law18_lives [] 56 55, P 55 56 57, M 57 2] <|
 .ret) k) <|
 r [L 6 3 59, C n_dtable_Make [t 59] 60, M 60 58, E 58 0 61, E 58 1 62, E 58 2 63, E 58 3 64, J [e0, .nils, .nils, z0, z0, .nils, .nils] 11, W 7 11 61, M 62 12, M 63 13, M 64 14] <|
 r [L 6 3 66, C n_dtable_Clean [t 66] 67, M 67 65, E 65 0 68, E 65 1 69, E 65 2 70, E 65 3 71, J [e0, .nils, .nils, z0, z0, .nils] 15, W 6 15 68, M 69 16, M 70 17, M 71 18] <|
 r [M 10 72, D .eql 72 0 73, M 73 74, MT 14 75 74, DT .eql 75 0 76 74, P 74 76 77, M 77 78, MT 18 79 78, DT .eql 79 0 80 78, P 78 80 81, M 81 82, AT 6 7 83 82, KT 83 84 82, AT 6 11 85 82, KT 85 86 82, CT n_ref18_SameLines [t 84, t 86] 87 82, P 82 87 88, M 88 89, LT 6 3 90 89, LT 6 15 91 89, CT n_ref18_Same [t 90, t 91] 92 89, P 89 92 93, M 93 94, AT 0 11 95 94, LT 6 95 96 94, LT 6 3 97 94, CT n_ref18_Same [t 96, t 97] 98 94, P 94 98 99, M 99 100, AT 0 7 101 100, LT 6 101 102 100, LT 6 1 103 100, CT n_ref18_Same [t 102, t 103] 104 100, P 100 104 105, M 105 106, CT n_law18_lives [] 107 106, P 106 107 108, M 108 2] <|
 .ret
theorem of_law18_DtableClean : Of Tryz.prog n_law18_DtableClean 109 [.tmp 2] b_law18_DtableClean := of_ {} Tryz.func5
def b_law18_DtableRule : ACode := r [X 0 2, V (.bool false) 4] <|
 q (r [L 6 2 20, C n_law18_T_Small [t 20] 21, U 21 22] <|
 c 22 (r [C n_law18_lives [] 23, M 23 4] <|
 .ret) k) <|
 r [L 6 2 25, C n_dtable_Make [t 25] 26, M 26 24, E 24 0 27, E 24 1 28, E 24 2 29, E 24 3 30, J [e0, .nils, .nils, z0, z0, .nils, .nils] 5, W 7 5 27, M 28 6, M 29 7, M 30 8] <|
 q (r [M 8 31, D .neq 31 0 32, M 32 33, AF 5 2 34 33, KF 34 35 33, NF 35 36 33, DF .eql 36 0 37 33, O 33 37 38] <|
 c 38 (r [C n_law18_lives [] 39, M 39 4] <|
 .ret) k) <|
 r [M 1 40, ⟨.cint .u64 (t 40), (some 41), none⟩, A 5 2 42, K 42 43, N 43 44, ⟨.cint .u64 (t 44), (some 45), none⟩, B .rem 41 45 46, ⟨.cint .i64 (t 46), (some 47), none⟩, M 47 9] <|
 q (.draw [⟨.hold, (some 173), none⟩, ⟨.hold, (some 174), none⟩, L 6 2 48, L 6 2 49, ⟨.allocAt 173 none [e0, .nils, .nils, z0, z0, .nils], (some 10), none⟩, ⟨.allocAt 174 none [e0, .nils, .nils, z0, z0, .nils], (some 11), none⟩, W 6 10 48, W 6 11 49] [((t 2), (t 173)), ((t 2), (t 173)), ((t 2), (t 174)), ((t 2), (t 174)), ((t 2), (t 10))]) <|
 q (.draw [⟨.hold, (some 173), none⟩, ⟨.bslice false ⟨true, 2⟩ (.agg [.nils, .nils]) 0 [], (some 50), none⟩, A 5 2 51, K 51 52, M 9 53, ⟨.slL ⟨true, 2⟩ (t 52) none (some (t 53)), (some 54), none⟩, ⟨.appAt 173 none ⟨true, 2⟩ (t 50) (t 54), (some 55), none⟩, A 5 2 56, K 56 57, M 9 58, D .add 58 1 59, ⟨.slL ⟨true, 2⟩ (t 57) (some (t 59)) none, (some 60), none⟩, ⟨.app none ⟨true, 2⟩ (t 55) (t 60), (some 61), none⟩, A 5 10 62, W 1 62 61] [((t 56), (t 173)), ((t 57), (t 173))]) <|
 q (.draw [⟨.hold, (some 173), none⟩, ⟨.bslice false ⟨true, 2⟩ (.agg [.nils, .nils]) 0 [], (some 63), none⟩, A 5 2 64, K 64 65, ⟨.appAt 173 none ⟨true, 2⟩ (t 63) (t 65), (some 66), none⟩, A 5 2 67, K 67 68, M 9 69, I true 2 68 69 70, L 2 70 71, ⟨.bslice false ⟨true, 2⟩ (.agg [.nils, .nils]) 1 [(0, (t 71))], (some 72), none⟩, ⟨.app none ⟨true, 2⟩ (t 66) (t 72), (some 73), none⟩, A 5 11 74, W 1 74 73] [((t 67), (t 173)), ((t 68), (t 173)), ((t 70), (t 173))]) <|
 r [L 6 10 76, C n_dtable_Make [t 76] 77, M 77 75, E 75 0 78, E 75 1 79, E 75 2 80, E 75 3 81, J [e0, .nils, .nils, z0, z0, .nils, .nils] 12, W 7 12 78, M 79 13, M 80 14, M 81 15] <|
 r [L 6 11 83, C n_dtable_Make [t 83] 84, M 84 82, E 82 0 85, E 82 1 86, E 82 2 87, E 82 3 88, J [e0, .nils, .nils, z0, z0, .nils, .nils] 16, W 7 16 85, M 86 17, M 87 18, M 88 19] <|
 q (q (.draw [A 6 5 89, K 89 90, N 90 91, A 5 2 92, K 92 93, N 93 94, B .neq 91 94 95, M 95 96, MF 15 97 96, DF .neq 97 0 98 96, O 96 98 99, M 99 100, AF 6 12 101 100, KF 101 102 100, NF 102 103 100, AF 5 2 104 100, KF 104 105 100, NF 105 106 100, DF .sub 106 1 107 100, BF .neq 103 107 108 100, O 100 108 109, M 109 110, AF 6 12 111 110, KF 111 112 110, MF 9 113 110, ⟨.slL ⟨true, 2⟩ (t 112) none (some (t 113)), (some 114), some (110, false)⟩, AF 6 5 115 110, KF 115 116 110, MF 9 117 110, ⟨.slL ⟨true, 2⟩ (t 116) none (some (t 117)), (some 118), some (110, false)⟩, QF n_ref18_SameLines [t 114, t 118] 119 110, UF 119 120 110, O 110 120 121, M 121 122, AF 6 12 123 122, KF 123 124 122, MF 9 125 122, ⟨.slL ⟨true, 2⟩ (t 124) (some (t 125)) none, (some 126), some (122, false)⟩, AF 6 5 127 122, KF 127 128 122, MF 9 129 122, DF .add 129 1 130 122, ⟨.slL ⟨true, 2⟩ (t 128) (some (t 130)) none, (some 131), some (122, false)⟩, QF n_ref18_SameLines [t 126, t 131] 132 122, UF 132 133 122, O 122 133 134] []) <|
 c 134 (r [V (.bool false) 4] <|
 .ret) k) <|
 q (r [A 5 2 135, K 135 136, N 136 137, D .eql 137 24 138] <|
 c 138 (r [M 19 139, D .eql 139 24 140, M 140 141, MT 17 142 141, DT .eql 142 (-1) 143 141, P 141 143 144, M 144 145, MT 18 146 145, DT .eql 146 0 147 145, P 145 147 148, M 148 149, CT n_law18_lives [] 150 149, P 149 150 151, M 151 4] <|
 .ret) k) <|
 q (.draw [⟨.hold, (some 173), none⟩, M 19 152, D .eql 152 0 153, M 153 154, AT 6 16 155 154, KT 155 156 154, ⟨.bslice false ⟨true, 2⟩ (.agg [.nils, .nils]) 0 [], (some 157), some (154, true)⟩, AT 6 5 158 154, KT 158 159 154, ⟨.appAt 173 none ⟨true, 2⟩ (t 157) (t 159), (some 160), some (154, true)⟩, AT 6 5 161 154, KT 161 162 154, MT 9 163 154, IT true 2 162 163 164 154, LT 2 164 165 154, ⟨.bslice false ⟨true, 2⟩ (.agg [.nils, .nils]) 1 [(0, (t 165))], (some 166), some (154, true)⟩, ⟨.app none ⟨true, 2⟩ (t 160) (t 166), (some 167), some (154, true)⟩, QT n_ref18_SameLines [t 156, t 167] 168 154, P 154 168 169, M 169 170, QT n_law18_lives [] 171 170, P 170 171 172, M 172 4] [((t 155), (t 173)), ((t 161), (t 173)), ((t 162), (t 173)), ((t 164), (t 173)), ((t 155), (t 160))]) <|
 .ret
theorem of_law18_DtableRule : Of Tryz.prog n_law18_DtableRule 173 [.tmp 4] b_law18_DtableRule := of_ ⟨[], [], [], [], [], [(10, 0), (11, 1), (55, 0), (66, 0), (160, 0)]⟩ Tryz.func6
def b_law18_DtableSame : ACode := r [X 0 2, X 1 3, V (.bool false) 4] <|
 q (r [L 7 2 5, C n_law18_ready [t 5] 6, U 6 7, M 7 8, LF 7 3 9 8, CF n_law18_ready [t 9] 10 8, UF 10 11 8, O 8 11 12] <|
 c 12 (r [C n_law18_lives [] 13, M 13 4] <|
 .ret) k) <|
 q (.draw [A 0 2 14, L 6 14 15, A 0 3 16, L 6 16 17, Q n_dtable_Same [t 15, t 17] 18, A 0 2 19, L 6 19 20, A 0 3 21, L 6 21 22, Q n_ref18_Same [t 20, t 22] 23, ⟨.eqf false false [.b] (t 18) (t 23), (some 24), none⟩, M 24 25, LT 7 2 26 25, LT 7 3 27 25, QT n_dtable_SameReady [t 26, t 27] 28 25, LT 7 2 29 25, LT 7 3 30 25, QT n_ref18_SameReady [t 29, t 30] 31 25, ⟨.eqf false false [.b] (t 28) (t 31), (some 32), some (25, true)⟩, P 25 32 33, M 33 34, LT 7 2 35 34, LT 7 2 36 34, QT n_dtable_SameReady [t 35, t 36] 37 34, P 34 37 38, M 38 39, QT n_law18_lives [] 40 39, P 39 40 41, M 41 4] []) <|
 .ret
theorem of_law18_DtableSame : Of Tryz.prog n_law18_DtableSame 42 [.tmp 4] b_law18_DtableSame := of_ {} Tryz.func7
def b_law18_T_Small : ACode := r [X 0 1, V (.bool false) 2] <|
 q (r [A 0 1 4, K 4 5, S 5 6, D .gtr 6 300 7, M 7 8, AF 5 1 9 8, KF 9 10 8, NF 10 11 8, DF .gtr 11 26 12 8, O 8 12 13, M 13 14, AF 1 1 15 14, KF 15 16 14, CF n_law18_order [t 16] 17 14, UF 17 18 14, O 14 18 19, M 19 20, AF 2 1 21 20, KF 21 22 20, CF n_law18_order [t 22] 23 20, UF 23 24 20, O 20 24 25] <|
 c 25 (r [V (.bool false) 2] <|
 .ret) k) <|
 q (r [V z0 3] <|
 .block 0 (.loop (q (r [M 3 26, A 5 1 27, K 27 28, N 28 29, B .lss 26 29 30] <|
 c 30 k (.exit 0)) <|
 q (.block 1 (r [A 5 1 33, K 33 34, M 3 35, I true 2 34 35 36, A 0 36 37, K 37 38, C n_law18_texts [t 38] 39, U 39 40, M 40 41, AF 5 1 42 41, KF 42 43 41, MF 3 44 41, IF true 2 43 44 45 41, AF 1 45 46 41, KF 46 47 41, CF n_law18_texts [t 47] 48 41, UF 48 49 41, O 41 49 50] <|
 c 50 (r [V (.bool false) 2] <|
 .ret) k)) <|
 R [M 3 31, D .add 31 1 32, M 32 3]))) <|
 r [V (.bool true) 2] <|
 .ret
theorem of_law18_T_Small : Of Tryz.prog n_law18_T_Small 51 [.tmp 2] b_law18_T_Small := of_ {} Tryz.func8
def b_law18_lives : ACode := r [V (.bool false) 0] <|
 r [C n_law18_example [] 10, C n_dtable_Make [t 10] 11, M 11 9, E 9 0 12, E 9 1 13, E 9 2 14, E 9 3 15, J [e0, .nils, .nils, z0, z0, .nils, .nils] 1, W 7 1 12, M 13 2, M 14 3, M 15 4] <|
 r [C n_law18_example [] 17, C n_dtable_Clean [t 17] 18, M 18 16, E 16 0 19, E 16 1 20, E 16 2 21, E 16 3 22, J [e0, .nils, .nils, z0, z0, .nils] 5, W 6 5 19, M 20 6, M 21 7, M 22 8] <|
 r [A 6 1 23, K 23 24, N 24 25, D .eql 25 1 26, M 26 27, MT 2 28 27, DT .eql 28 0 29 27, P 27 29 30, M 30 31, MT 3 32 31, DT .eql 32 0 33 31, P 31 33 34, M 34 35, MT 4 36 35, DT .eql 36 0 37 35, P 35 37 38, M 38 39, MT 6 40 39, DT .eql 40 0 41 39, P 39 41 42, M 42 43, MT 7 44 43, DT .eql 44 0 45 43, P 43 45 46, M 46 47, MT 8 48 47, DT .eql 48 0 49 47, P 47 49 50, M 50 51, AT 5 5 52 51, KT 52 53 51, NT 53 54 51, DT .eql 54 1 55 51, P 51 55 56, M 56 57, AT 5 5 58 57, KT 58 59 57, ⟨.iaddr ⟨true, 2⟩ none (t 59) (.c z0), (some 60), some (57, true)⟩, AT 0 60 61 57, KT 61 62 57, NT 62 63 57, DT .eql 63 1 64 57, P 57 64 65, M 65 66, AT 5 5 67 66, KT 67 68 66, ⟨.iaddr ⟨true, 2⟩ none (t 68) (.c z0), (some 69), some (66, true)⟩, AT 0 69 70 66, KT 70 71 66, ⟨.iaddr ⟨false, 1⟩ none (t 71) (.c z0), (some 72), some (66, true)⟩, KT 72 73 66, ⟨.bin .eql (t 73) (.c (.str [60, 32, 53])), (some 74), some (66, true)⟩, P 66 74 75, M 75 0] <|
 .ret
theorem of_law18_lives : Of Tryz.prog n_law18_lives 76 [.tmp 0] b_law18_lives := of_ {} Tryz.func9
def b_dtable_Make : ACode := r [X 0 1, J [e0, .nils, .nils, z0, z0, .nils, .nils] 2, V z0 3, V z0 4, V z0 5] <|
 q (r [L 6 1 13, C n_dtable_frame [t 13] 14, M 14 6] <|
 r [M 6 15, D .neq 15 0 16] <|
 c 16 (r [⟨.build [e0, .nils, .nils, z0, z0, .nils, .nils] [], (some 17), none⟩, M 6 18, W 7 2 17, V (i6 (-1)) 3, V z0 4, M 18 5] <|
 .ret) k) <|
 r [L 6 1 19, ⟨.build [e0, .nils, .nils, z0, z0, .nils, .nils] [(0, 6, (t 19))], (some 20), none⟩, J [e0, .nils, .nils, z0, z0, .nils, .nils] 7, W 7 7 20] <|
 q (r [A 5 1 21, K 21 22, N 22 23, V z0 24] <|
 .block 0 (.loop (r [B .lss 24 23 25] <|
 q (c 25 k (.exit 0)) <|
 q (.block 1 (r [M 24 26, I true 2 22 24 27, L 2 27 28, J [.nils, .nils] 9, M 26 8, W 2 9 28] <|
 r [L 6 1 30, L 2 9 31, C n_dtable_line [t 30, t 31] 32, M 32 29, E 29 0 33, E 29 1 34, E 29 2 35, J [.nils, .nils] 10, W 2 10 33, M 34 11, M 35 12] <|
 q (r [M 12 36, D .neq 36 0 37] <|
 c 37 (r [⟨.build [e0, .nils, .nils, z0, z0, .nils, .nils] [], (some 38), none⟩, M 8 39, M 11 40, M 12 41, W 7 2 38, M 39 3, M 40 4, M 41 5] <|
 .ret) k) <|
 R [A 6 7 42, K 42 43, L 2 10 44, ⟨.bslice false ⟨true, 2⟩ (.agg [.nils, .nils]) 1 [(0, (t 44))], (some 45), none⟩, ⟨.app none ⟨true, 2⟩ (t 43) (t 45), (some 46), none⟩, A 6 7 47, W 1 47 46])) <|
 R [D .add 24 1 48, M 48 24]))) <|
 r [L 7 7 49, W 7 2 49, V z0 3, V z0 4, V z0 5] <|
 .ret
theorem of_dtable_Make : Of Tryz.prog n_dtable_Make 50 [.cell 2 true 7, .tmp 3, .tmp 4, .tmp 5] b_dtable_Make := of_ {} Tryz.func10
def b_ref18_SameReady : ACode := r [X 0 2, X 1 3, V (.bool false) 4] <|
 r [A 0 2 5, L 6 5 6, A 0 3 7, L 6 7 8, C n_ref18_Same [t 6, t 8] 9, M 9 10, AT 6 2 11 10, KT 11 12 10, AT 6 3 13 10, KT 13 14 10, CT n_ref18_SameLines [t 12, t 14] 15 10, P 10 15 16, M 16 4] <|
 .ret
theorem of_ref18_SameReady : Of Tryz.prog n_ref18_SameReady 17 [.tmp 4] b_ref18_SameReady := of_ {} Tryz.func12
def b_dtable_Clean : ACode := r [X 0 1, J [e0, .nils, .nils, z0, z0, .nils] 2, V z0 3, V z0 4, V z0 5] <|
 .scope 0 (r [L 6 1 22, C n_dtable_Make [t 22] 23, M 23 21, E 21 0 24, E 21 1 25, E 21 2 26, E 21 3 27, J [e0, .nils, .nils, z0, z0, .nils, .nils] 6, W 7 6 24, M 25 7, M 26 8, M 27 9] <|
 q (r [M 9 28, D .neq 28 0 29] <|
 c 29 (r [⟨.build [e0, .nils, .nils, z0, z0, .nils] [], (some 30), none⟩, M 7 31, M 8 32, M 9 33, W 6 2 30, M 31 3, M 32 4, M 33 5] <|
 .ret) k) <|
 r [L 6 1 34, J [e0, .nils, .nils, z0, z0, .nils] 10, W 6 10 34] <|
 r [A 5 10 35, ⟨.store 1 (t 35) (.c .nils), none, none⟩] <|
 r [J [.nils, .nils] 11] <|
 r [V (.fn (.func n_dtable_Clean_1) [] []) 12] <|
 q (.label 0) <|
 q (r [A 6 6 36, K 36 37, N 37 38, V z0 39] <|
 .block 0 (.loop (r [B .lss 39 38 40] <|
 q (c 40 k (.exit 0)) <|
 q (.block 1 (r [M 39 41, I true 2 37 39 42, L 2 42 43, J [.nils, .nils] 14, M 41 13, W 2 14 43] <|
 r [⟨.build [.nils, .nils] [], (some 44), none⟩, M 13 45, W 2 11 44, M 45 7] <|
 q (r [A 0 14 46, K 46 47, N 47 48, V z0 49] <|
 .block 2 (.loop (r [B .lss 49 48 50] <|
 q (c 50 k (.exit 2)) <|
 q (.block 3 (r [M 49 51, I true 3 47 49 52, L 3 52 53, J [(.bool false), (.bool false), .nils] 16, M 51 15, W 3 16 53] <|
 r [V e0 17] <|
 r [L 3 16 55, C n_cell_Text [t 55] 56, M 56 54, E 54 0 57, E 54 1 58, M 57 17, M 58 9] <|
 r [M 15 59, M 59 8] <|
 r [M 12 60, A 0 11 61, M 17 62, M 9 63, ⟨.call false (t 60) [(t 61), (t 62), (t 63)], (some 64), none⟩, U 64 65] <|
 c 65 (.exit 0) k)) <|
 R [D .add 49 1 66, M 66 49]))) <|
 q (r [A 1 14 67, K 67 68, N 68 69, V z0 70] <|
 .block 4 (.loop (r [B .lss 70 69 71] <|
 q (c 71 k (.exit 4)) <|
 q (.block 5 (r [M 70 72, I true 6 68 70 73, L 6 73 74, J [z0, z0, z0, e0, e0, .nils] 19, M 72 18, W 6 19 74] <|
 r [V e0 20] <|
 r [L 6 19 76, C n_syntax_Text [t 76] 77, M 77 75, E 75 0 78, E 75 1 79, M 78 20, M 79 9] <|
 r [A 1 1 80, K 80 81, N 81 82, M 18 83, B .add 82 83 84, M 84 8] <|
 r [M 12 85, A 1 11 86, M 20 87, M 9 88, ⟨.call false (t 85) [(t 86), (t 87), (t 88)], (some 89), none⟩, U 89 90] <|
 c 90 (.exit 0) k)) <|
 R [D .add 70 1 91, M 91 70]))) <|
 R [A 5 10 92, K 92 93, L 2 11 94, ⟨.bslice false ⟨true, 2⟩ (.agg [.nils, .nils]) 1 [(0, (t 94))], (some 95), none⟩, ⟨.app none ⟨true, 2⟩ (t 93) (t 95), (some 96), none⟩, A 5 10 97, W 1 97 96])) <|
 R [D .add 39 1 98, M 98 39]))) <|
 q (r [M 9 99, D .neq 99 0 100] <|
 c 100 (r [⟨.build [e0, .nils, .nils, z0, z0, .nils] [], (some 101), none⟩, M 7 102, M 8 103, M 9 104, W 6 2 101, M 102 3, M 103 4, M 104 5] <|
 .ret) k) <|
 r [L 6 10 105, W 6 2 105, V z0 3, V z0 4, V z0 5] <|
 .ret) (.seq k <|
 q (r [A 6 6 36, K 36 37, N 37 38, V z0 39] <|
 .block 0 (.loop (r [B .lss 39 38 40] <|
 q (c 40 k (.exit 0)) <|
 q (.block 1 (r [M 39 41, I true 2 37 39 42, L 2 42 43, J [.nils, .nils] 14, M 41 13, W 2 14 43] <|
 r [⟨.build [.nils, .nils] [], (some 44), none⟩, M 13 45, W 2 11 44, M 45 7] <|
 q (r [A 0 14 46, K 46 47, N 47 48, V z0 49] <|
 .block 2 (.loop (r [B .lss 49 48 50] <|
 q (c 50 k (.exit 2)) <|
 q (.block 3 (r [M 49 51, I true 3 47 49 52, L 3 52 53, J [(.bool false), (.bool false), .nils] 16, M 51 15, W 3 16 53] <|
 r [V e0 17] <|
 r [L 3 16 55, C n_cell_Text [t 55] 56, M 56 54, E 54 0 57, E 54 1 58, M 57 17, M 58 9] <|
 r [M 15 59, M 59 8] <|
 r [M 12 60, A 0 11 61, M 17 62, M 9 63, ⟨.call false (t 60) [(t 61), (t 62), (t 63)], (some 64), none⟩, U 64 65] <|
 c 65 (.exit 0) k)) <|
 R [D .add 49 1 66, M 66 49]))) <|
 q (r [A 1 14 67, K 67 68, N 68 69, V z0 70] <|
 .block 4 (.loop (r [B .lss 70 69 71] <|
 q (c 71 k (.exit 4)) <|
 q (.block 5 (r [M 70 72, I true 6 68 70 73, L 6 73 74, J [z0, z0, z0, e0, e0, .nils] 19, M 72 18, W 6 19 74] <|
 r [V e0 20] <|
 r [L 6 19 76, C n_syntax_Text [t 76] 77, M 77 75, E 75 0 78, E 75 1 79, M 78 20, M 79 9] <|
 r [A 1 1 80, K 80 81, N 81 82, M 18 83, B .add 82 83 84, M 84 8] <|
 r [M 12 85, A 1 11 86, M 20 87, M 9 88, ⟨.call false (t 85) [(t 86), (t 87), (t 88)], (some 89), none⟩, U 89 90] <|
 c 90 (.exit 0) k)) <|
 R [D .add 70 1 91, M 91 70]))) <|
 R [A 5 10 92, K 92 93, L 2 11 94, ⟨.bslice false ⟨true, 2⟩ (.agg [.nils, .nils]) 1 [(0, (t 94))], (some 95), none⟩, ⟨.app none ⟨true, 2⟩ (t 93) (t 95), (some 96), none⟩, A 5 10 97, W 1 97 96])) <|
 R [D .add 39 1 98, M 98 39]))) <|
 q (r [M 9 99, D .neq 99 0 100] <|
 c 100 (r [⟨.build [e0, .nils, .nils, z0, z0, .nils] [], (some 101), none⟩, M 7 102, M 8 103, M 9 104, W 6 2 101, M 102 3, M 103 4, M 104 5] <|
 .ret) k) <|
 r [L 6 10 105, W 6 2 105, V z0 3, V z0 4, V z0 5] <|
 .ret)
theorem of_dtable_Clean : Of Tryz.prog n_dtable_Clean 106 [.cell 2 true 6, .tmp 3, .tmp 4, .tmp 5] b_dtable_Clean := of_ {} Tryz.func13
def b_ref18_Same : ACode := r [X 0 2, X 1 3, V (.bool false) 4] <|
 q (r [A 0 2 6, K 6 7, A 0 3 8, K 8 9, B .neq 7 9 10, M 10 11, AF 3 2 12 11, KF 12 13 11, AF 3 3 14 11, KF 14 15 11, BF .neq 13 15 16 11, O 11 16 17, M 17 18, AF 4 2 19 18, KF 19 20 18, AF 4 3 21 18, KF 21 22 18, BF .neq 20 22 23 18, O 18 23 24, M 24 25, AF 5 2 26 25, KF 26 27 25, NF 27 28 25, AF 5 3 29 25, KF 29 30 25, NF 30 31 25, BF .neq 28 31 32 25, O 25 32 33] <|
 c 33 (r [V (.bool false) 4] <|
 .ret) k) <|
 q (r [V z0 5] <|
 .block 0 (.loop (q (r [M 5 34, A 5 2 35, K 35 36, N 36 37, B .lss 34 37 38] <|
 c 38 k (.exit 0)) <|
 q (.block 1 (q (.draw [A 5 2 41, K 41 42, M 5 43, I true 2 42 43 44, A 0 44 45, K 45 46, A 5 3 47, K 47 48, M 5 49, I true 2 48 49 50, A 0 50 51, K 51 52, Q n_ref01_SameTexts [t 46, t 52] 53, U 53 54, M 54 55, AF 5 2 56 55, KF 56 57 55, MF 5 58 55, IF true 2 57 58 59 55, AF 1 59 60 55, KF 60 61 55, AF 5 3 62 55, KF 62 63 55, MF 5 64 55, IF true 2 63 64 65 55, AF 1 65 66 55, KF 66 67 55, QF n_ref01_SameTexts [t 61, t 67] 68 55, UF 68 69 55, O 55 69 70] []) <|
 c 70 (r [V (.bool false) 4] <|
 .ret) k)) <|
 R [M 5 39, D .add 39 1 40, M 40 5]))) <|
 r [A 1 2 71, K 71 72, A 1 3 73, K 73 74, C n_ref18_sameColumns [t 72, t 74] 75, M 75 76, AT 2 2 77 76, KT 77 78 76, AT 2 3 79 76, KT 79 80 76, CT n_ref18_sameColumns [t 78, t 80] 81 76, P 76 81 82, M 82 4] <|
 .ret
theorem of_ref18_Same : Of Tryz.prog n_ref18_Same 83 [.tmp 4] b_ref18_Same := of_ {} Tryz.func15
def b_ref18_SameLines : ACode := r [V (.bool false) 4] <|
 q (r [M 0 6, N 6 7, M 1 8, N 8 9, B .neq 7 9 10] <|
 c 10 (r [V (.bool false) 4] <|
 .ret) k) <|
 q (r [V z0 5] <|
 .block 0 (.loop (q (r [M 5 11, M 0 12, N 12 13, B .lss 11 13 14] <|
 c 14 k (.exit 0)) <|
 q (.block 1 (q (.draw [M 0 17, M 5 18, I true 2 17 18 19, L 2 19 20, M 1 21, M 5 22, I true 2 21 22 23, L 2 23 24, Q n_ref18_sameLine [t 20, t 24] 25, U 25 26] []) <|
 c 26 (r [V (.bool false) 4] <|
 .ret) k)) <|
 R [M 5 15, D .add 15 1 16, M 16 5]))) <|
 r [V (.bool true) 4] <|
 .ret
theorem of_ref18_SameLines : Of Tryz.prog n_ref18_SameLines 27 [.tmp 4] b_ref18_SameLines := of_ {} Tryz.func16
def b_law18_ready : ACode := r [X 0 1, V (.bool false) 2] <|
 q (r [A 0 1 7, L 6 7 8, C n_law18_T_Small [t 8] 9, U 9 10, M 10 11, AF 6 1 12 11, KF 12 13 11, NF 13 14 11, DF .gtr 14 26 15 11, O 11 15 16] <|
 c 16 (r [V (.bool false) 2] <|
 .ret) k) <|
 q (r [V z0 3] <|
 .block 0 (.loop (q (r [M 3 17, A 6 1 18, K 18 19, N 19 20, B .lss 17 20 21] <|
 c 21 k (.exit 0)) <|
 q (.block 1 (r [A 6 1 24, K 24 25, M 3 26, I true 2 25 26 27, L 2 27 28, J [.nils, .nils] 4, W 2 4 28] <|
 q (r [A 0 4 29, K 29 30, N 30 31, D .gtr 31 10 32, M 32 33, AF 1 4 34 33, KF 34 35 33, NF 35 36 33, DF .gtr 36 10 37 33, O 33 37 38] <|
 c 38 (r [V (.bool false) 2] <|
 .ret) k) <|
 q (r [V z0 5] <|
 .block 2 (.loop (q (r [M 5 39, A 0 4 40, K 40 41, N 41 42, B .lss 39 42 43] <|
 c 43 k (.exit 2)) <|
 q (.block 3 (r [A 0 4 46, K 46 47, M 5 48, I true 3 47 48 49, L 3 49 50, C n_law17_C_Small [t 50] 51, U 51 52] <|
 c 52 (r [V (.bool false) 2] <|
 .ret) k)) <|
 R [M 5 44, D .add 44 1 45, M 45 5]))) <|
 r [V z0 6] <|
 .block 4 (.loop (q (r [M 6 53, A 1 4 54, K 54 55, N 55 56, B .lss 53 56 57] <|
 c 57 k (.exit 4)) <|
 q (.block 5 (r [A 1 4 60, K 60 61, M 6 62, I true 6 61 62 63, L 6 63 64, ⟨.build [z0, z0, z0, z0, e0, e0, .nils, z0, z0, z0, e0, e0, .nils, (.bool false), (.bool false)] [(1, 6, (t 64))], (some 65), none⟩, ⟨.bslice false ⟨true, 15⟩ (.agg [z0, z0, z0, z0, e0, e0, .nils, z0, z0, z0, e0, e0, .nils, (.bool false), (.bool false)]) 1 [(0, (t 65))], (some 66), none⟩, ⟨.build [(.bool false), (.bool false), .nils] [(2, 1, (t 66))], (some 67), none⟩, C n_law17_C_Small [t 67] 68, U 68 69] <|
 c 69 (r [V (.bool false) 2] <|
 .ret) k)) <|
 R [M 6 58, D .add 58 1 59, M 59 6])))) <|
 R [M 3 22, D .add 22 1 23, M 23 3]))) <|
 r [V (.bool true) 2] <|
 .ret
theorem of_law18_ready : Of Tryz.prog n_law18_ready 70 [.tmp 2] b_law18_ready := of_ {} Tryz.func17
def b_dtable_Same : ACode := r [X 0 2, X 1 3, V (.bool false) 4] <|
 r [A 0 2 5, K 5 6, A 0 3 7, K 7 8, B .eql 6 8 9, M 9 10, AT 3 2 11 10, KT 11 12 10, AT 3 3 13 10, KT 13 14 10, BT .eql 12 14 15 10, P 10 15 16, M 16 17, AT 4 2 18 17, KT 18 19 17, AT 4 3 20 17, KT 20 21 17, BT .eql 19 21 22 17, P 17 22 23, M 23 24, AT 1 2 25 24, KT 25 26 24, AT 1 3 27 24, KT 27 28 24, ⟨.call false (.c (.fn (.func n_slices_EqualFunc_Column) [] [])) [(t 26), (t 28), (.c (.fn (.func n_dtable_sameColumn) [] []))], (some 29), some (24, true)⟩, P 24 29 30, M 30 31, AT 2 2 32 31, KT 32 33 31, AT 2 3 34 31, KT 34 35 31, ⟨.call false (.c (.fn (.func n_slices_EqualFunc_Column) [] [])) [(t 33), (t 35), (.c (.fn (.func n_dtable_sameColumn) [] []))], (some 36), some (31, true)⟩, P 31 36 37, M 37 38, AT 5 2 39 38, KT 39 40 38, AT 5 3 41 38, KT 41 42 38, ⟨.call false (.c (.fn (.func n_slices_EqualFunc_Rule) [] [])) [(t 40), (t 42), (.c (.fn (.func n_dtable_sameRule) [] []))], (some 43), some (38, true)⟩, P 38 43 44, M 44 4] <|
 .ret
theorem of_dtable_Same : Of Tryz.prog n_dtable_Same 45 [.tmp 4] b_dtable_Same := of_ {} Tryz.func18
def b_dtable_SameReady : ACode := r [X 0 2, X 1 3, V (.bool false) 4] <|
 r [A 0 2 5, L 6 5 6, A 0 3 7, L 6 7 8, C n_dtable_Same [t 6, t 8] 9, M 9 10, AT 6 2 11 10, KT 11 12 10, AT 6 3 13 10, KT 13 14 10, ⟨.call false (.c (.fn (.func n_slices_EqualFunc_Line) [] [])) [(t 12), (t 14), (.c (.fn (.func n_dtable_SameReady_1) [] []))], (some 15), some (10, true)⟩, P 10 15 16, M 16 4] <|
 .ret
theorem of_dtable_SameReady : Of Tryz.prog n_dtable_SameReady 17 [.tmp 4] b_dtable_SameReady := of_ {} Tryz.func19
def b_law18_order : ACode := r [V (.bool false) 2] <|
 q (r [M 0 5, C n_law15_Cols_Few [t 5] 6, U 6 7] <|
 c 7 (r [V (.bool false) 2] <|
 .ret) k) <|
 q (r [V z0 3] <|
 .block 0 (.loop (q (r [M 3 8, M 0 9, N 9 10, B .lss 8 10 11] <|
 c 11 k (.exit 0)) <|
 q (.block 1 (q (r [M 0 14, M 3 15, I true 3 14 15 16, A 2 16 17, K 17 18, N 18 19, D .gtr 19 12 20] <|
 c 20 (r [V (.bool false) 2] <|
 .ret) k) <|
 r [V z0 4] <|
 .block 2 (.loop (q (r [M 4 21, M 0 22, M 3 23, I true 3 22 23 24, A 2 24 25, K 25 26, N 26 27, B .lss 21 27 28] <|
 c 28 k (.exit 2)) <|
 q (.block 3 (r [M 0 31, M 3 32, I true 3 31 32 33, A 2 33 34, K 34 35, M 4 36, I true 3 35 36 37, A 2 37 38, K 38 39, S 39 40, D .gtr 40 300 41] <|
 c 41 (r [V (.bool false) 2] <|
 .ret) k)) <|
 R [M 4 29, D .add 29 1 30, M 30 4])))) <|
 R [M 3 12, D .add 12 1 13, M 13 3]))) <|
 r [V (.bool true) 2] <|
 .ret
theorem of_law18_order : Of Tryz.prog n_law18_order 42 [.tmp 2] b_law18_order := of_ {} Tryz.func20
def b_law18_texts : ACode := r [V (.bool false) 2] <|
 q (r [M 0 4, N 4 5, D .gtr 5 10 6] <|
 c 6 (r [V (.bool false) 2] <|
 .ret) k) <|
 q (r [V z0 3] <|
 .block 0 (.loop (q (r [M 3 7, M 0 8, N 8 9, B .lss 7 9 10] <|
 c 10 k (.exit 0)) <|
 q (.block 1 (r [M 0 13, M 3 14, I false 1 13 14 15, K 15 16, S 16 17, D .gtr 17 300 18] <|
 c 18 (r [V (.bool false) 2] <|
 .ret) k)) <|
 R [M 3 11, D .add 11 1 12, M 12 3]))) <|
 r [V (.bool true) 2] <|
 .ret
theorem of_law18_texts : Of Tryz.prog n_law18_texts 19 [.tmp 2] b_law18_texts := of_ {} Tryz.func21
def b_law18_example : ACode := r [J [e0, .nils, .nils, z0, z0, .nils] 0] <|
 r [⟨.build [e0, z0, .nils] [(0, 1, (.c (.str [97]))), (1, 1, (.c (i6 1)))], (some 1), none⟩, ⟨.bslice false ⟨true, 3⟩ (.agg [e0, z0, .nils]) 1 [(0, (t 1))], (some 2), none⟩, ⟨.build [e0, z0, .nils] [(0, 1, (.c (.str [111]))), (1, 1, (.c (i6 2)))], (some 3), none⟩, ⟨.bslice false ⟨true, 3⟩ (.agg [e0, z0, .nils]) 1 [(0, (t 3))], (some 4), none⟩, ⟨.bslice false ⟨false, 1⟩ e0 1 [(0, (.c (.str [60, 53])))], (some 5), none⟩, ⟨.bslice false ⟨false, 1⟩ e0 1 [(0, (.c (.str [34, 120, 34])))], (some 6), none⟩, ⟨.build [.nils, .nils] [(0, 1, (t 5)), (1, 1, (t 6))], (some 7), none⟩, ⟨.bslice false ⟨true, 2⟩ (.agg [.nils, .nils]) 1 [(0, (t 7))], (some 8), none⟩, ⟨.build [e0, .nils, .nils, z0, z0, .nils] [(0, 1, (.c (.str [116]))), (1, 1, (t 2)), (2, 1, (t 4)), (3, 1, (.c (i6 2))), (5, 1, (t 8))], (some 9), none⟩, W 6 0 9] <|
 .ret
theorem of_law18_example : Of Tryz.prog n_law18_example 10 [.cell 0 true 6] b_law18_example := of_ {} Tryz.func22
def b_dtable_frame : ACode := r [X 0 1, V z0 2] <|
 q (r [A 0 1 5, K 5 6, C n_lex_Name [t 6] 7, U 7 8] <|
 c 8 (r [V (i6 13) 2] <|
 .ret) k) <|
 q (r [A 1 1 9, K 9 10, ⟨.call false (.c (.fn (.func n_dtable_columns) [] [])) [(t 10), (.c (.bool false))], (some 11), none⟩, M 11 3] <|
 r [M 3 12, D .neq 12 0 13] <|
 c 13 (r [M 3 14, M 14 2] <|
 .ret) k) <|
 q (r [A 2 1 15, K 15 16, A 3 1 17, K 17 18, D .eql 18 3 19, C n_dtable_columns [t 16, t 19] 20, M 20 4] <|
 r [M 4 21, D .neq 21 0 22] <|
 c 22 (r [M 4 23, M 23 2] <|
 .ret) k) <|
 q (.block 0 (r [L 6 1 25, C n_dtable_policy [t 25] 26, U 26 27, M 27 24] <|
 c 24 (r [V (i6 17) 2] <|
 .ret) (r [A 5 1 29, K 29 30, N 30 31, D .gtr 31 24 32, M 32 28] <|
 c 28 (r [V (i6 24) 2] <|
 .ret) k))) <|
 r [V z0 2] <|
 .ret
theorem of_dtable_frame : Of Tryz.prog n_dtable_frame 33 [.tmp 2] b_dtable_frame := of_ {} Tryz.func23
def b_dtable_line : ACode := r [X 0 2, X 1 3, J [.nils, .nils] 4, V z0 5, V z0 6] <|
 q (r [A 0 3 15, K 15 16, N 16 17, A 1 2 18, K 18 19, N 19 20, B .neq 17 20 21, M 21 22, AF 1 3 23 22, KF 23 24 22, NF 24 25 22, AF 2 2 26 22, KF 26 27 22, NF 27 28 22, BF .neq 25 28 29 22, O 22 29 30] <|
 c 30 (r [L 2 4 31, W 2 4 31, V z0 5, V (i6 17) 6] <|
 .ret) k) <|
 q (r [A 0 3 32, K 32 33, N 33 34, V z0 35] <|
 .block 0 (.loop (r [B .lss 35 34 36] <|
 q (c 36 k (.exit 0)) <|
 q (.block 1 (r [M 35 37, I false 1 33 35 38, K 38 39, M 37 7, M 39 8] <|
 r [L 6 2 41, M 7 42, M 8 43, C n_dtable_ask [t 41, t 42, t 43] 44, M 44 40, E 40 0 45, E 40 1 46, J [(.bool false), (.bool false), .nils] 9, W 3 9 45, M 46 10] <|
 q (r [M 10 47, D .neq 47 0 48] <|
 c 48 (r [L 2 4 49, M 7 50, M 10 51, W 2 4 49, M 50 5, M 51 6] <|
 .ret) k) <|
 R [A 0 4 52, K 52 53, L 3 9 54, ⟨.bslice false ⟨true, 3⟩ (.agg [(.bool false), (.bool false), .nils]) 1 [(0, (t 54))], (some 55), none⟩, ⟨.app none ⟨true, 3⟩ (t 53) (t 55), (some 56), none⟩, A 0 4 57, W 1 57 56])) <|
 R [D .add 35 1 58, M 58 35]))) <|
 q (r [A 1 3 59, K 59 60, N 60 61, V z0 62] <|
 .block 2 (.loop (r [B .lss 62 61 63] <|
 q (c 63 k (.exit 2)) <|
 q (.block 3 (r [M 62 64, I false 1 60 62 65, K 65 66, M 64 11, M 66 12] <|
 r [L 6 2 68, M 11 69, M 12 70, C n_dtable_tell [t 68, t 69, t 70] 71, M 71 67, E 67 0 72, E 67 1 73, J [z0, z0, z0, e0, e0, .nils] 13, W 6 13 72, M 73 14] <|
 q (r [M 14 74, D .neq 74 0 75] <|
 c 75 (q (.draw [L 2 4 76, A 1 2 77, K 77 78, N 78 79, M 11 80, B .add 79 80 81, M 14 82, W 2 4 76, M 81 5, M 82 6] [((t 77), (t 4))]) <|
 .ret) k) <|
 R [A 1 4 83, K 83 84, L 6 13 85, ⟨.bslice false ⟨true, 6⟩ (.agg [z0, z0, z0, e0, e0, .nils]) 1 [(0, (t 85))], (some 86), none⟩, ⟨.app none ⟨true, 6⟩ (t 84) (t 86), (some 87), none⟩, A 1 4 88, W 1 88 87])) <|
 R [D .add 62 1 89, M 89 62]))) <|
 r [L 2 4 90, W 2 4 90, V z0 5, V z0 6] <|
 .ret
theorem of_dtable_line : Of Tryz.prog n_dtable_line 91 [.cell 4 true 2, .tmp 5, .tmp 6] b_dtable_line := of_ {} Tryz.func24
def b_dtable_Clean_1 : ACode := r [V (.bool false) 6] <|
 r [M 0 7, M 0 8, Z 8 9, K 9 10, M 1 11, ⟨.bslice false ⟨false, 1⟩ e0 1 [(0, (t 11))], (some 12), none⟩, ⟨.app none ⟨false, 1⟩ (t 10) (t 12), (some 13), none⟩, Z 7 14, W 1 14 13] <|
 r [M 2 15, D .eql 15 0 16, M 16 6] <|
 .ret
theorem of_dtable_Clean_1 : Of Tryz.prog n_dtable_Clean_1 17 [.tmp 6] b_dtable_Clean_1 := of_ {} Tryz.func27
def b_cell_Text : ACode := r [X 0 1, V e0 2, V z0 3] <|
 q (r [L 3 1 11, C n_cell_Check [t 11] 12, M 12 4] <|
 r [M 4 13, D .neq 13 0 14] <|
 c 14 (r [M 4 15, V e0 2, M 15 3] <|
 .ret) k) <|
 q (r [A 0 1 16, K 16 17] <|
 c 17 (r [V (.str [45]) 2, V z0 3] <|
 .ret) k) <|
 r [⟨.mkvec ⟨false, 1⟩, (some 5), none⟩] <|
 q (r [A 2 1 18, K 18 19, N 19 20, V z0 21] <|
 .block 0 (.loop (r [B .lss 21 20 22] <|
 q (c 22 k (.exit 0)) <|
 q (.block 1 (r [I true 15 19 21 23, L 15 23 24, J [z0, z0, z0, z0, e0, e0, .nils, z0, z0, z0, e0, e0, .nils, (.bool false), (.bool false)] 7, W 15 7 24] <|
 r [L 15 7 26, C n_cell_text [t 26] 27, M 27 25, E 25 0 28, E 25 1 29, M 28 8, M 29 9] <|
 q (r [M 9 30, D .neq 30 0 31] <|
 c 31 (r [M 9 32, V e0 2, M 32 3] <|
 .ret) k) <|
 R [M 5 33, M 8 34, ⟨.bslice false ⟨false, 1⟩ e0 1 [(0, (t 34))], (some 35), none⟩, ⟨.app none ⟨false, 1⟩ (t 33) (t 35), (some 36), none⟩, M 36 5])) <|
 R [D .add 21 1 37, M 37 21]))) <|
 r [M 5 38, ⟨.call false (.c (.fn (.func n_strings_Join) [] [])) [(t 38), (.c (.str [44, 32]))], (some 39), none⟩, M 39 10] <|
 q (r [A 1 1 40, K 40 41] <|
 c 41 (R [M 10 42, ⟨.bin .add (.c (.str [110, 111, 116, 40])) (t 42), (some 43), none⟩, ⟨.bin .add (t 43) (.c (.str [41])), (some 44), none⟩, M 44 10]) k) <|
 q (r [M 10 45, S 45 46, D .gtr 46 200 47] <|
 c 47 (r [V e0 2, V (i6 5) 3] <|
 .ret) k) <|
 r [M 10 48, M 48 2, V z0 3] <|
 .ret
theorem of_cell_Text : Of Tryz.prog n_cell_Text 49 [.tmp 2, .tmp 3] b_cell_Text := of_ ⟨[], [], [(5, ⟨false, 1⟩)], [], [], []⟩ Tryz.func28
def b_syntax_Text : ACode := r [X 0 1, V e0 2, V z0 3] <|
 q (.block 0 (r [L 6 1 6, C n_syntax_right [t 6] 7, U 7 8, M 8 5] <|
 c 5 (r [V e0 2, V (i6 2) 3] <|
 .ret) (r [L 6 1 10, C n_syntax_Deep [t 10] 11, D .gtr 11 12 12, M 12 9] <|
 c 9 (r [V e0 2, V (i6 12) 3] <|
 .ret) k))) <|
 r [⟨.build [.nilp, .nils] [], (some 13), none⟩, ⟨.boxT 128 (t 13), (some 14), none⟩, M 14 4] <|
 r [M 4 15, L 6 1 16, ⟨.call false (.c (.fn (.func n_syntax_writer_put) [] [])) [(t 15), (t 16), (.c z0)], (some 17), none⟩] <|
 q (r [M 4 18, Z 18 19, A 0 19 20, C n_strings_Builder_Len [t 20] 21, D .gtr 21 200 22] <|
 c 22 (r [V e0 2, V (i6 5) 3] <|
 .ret) k) <|
 r [M 4 23, Z 23 24, A 0 24 25, C n_strings_Builder_String [t 25] 26, M 26 2, V z0 3] <|
 .ret
theorem of_syntax_Text : Of Tryz.prog n_syntax_Text 27 [.tmp 2, .tmp 3] b_syntax_Text := of_ ⟨[], [], [], [14], [], []⟩ Tryz.func29
def b_ref01_SameTexts : ACode := r [V (.bool false) 4] <|
 q (r [M 0 6, N 6 7, M 1 8, N 8 9, B .neq 7 9 10] <|
 c 10 (r [V (.bool false) 4] <|
 .ret) k) <|
 q (r [V z0 5] <|
 .block 0 (.loop (q (r [M 5 11, M 0 12, N 12 13, B .lss 11 13 14] <|
 c 14 k (.exit 0)) <|
 q (.block 1 (q (.draw [M 0 17, M 5 18, I false 1 17 18 19, K 19 20, M 1 21, M 5 22, I false 1 21 22 23, K 23 24, B .neq 20 24 25] []) <|
 c 25 (r [V (.bool false) 4] <|
 .ret) k)) <|
 R [M 5 15, D .add 15 1 16, M 16 5]))) <|
 r [V (.bool true) 4] <|
 .ret
theorem of_ref01_SameTexts : Of Tryz.prog n_ref01_SameTexts 26 [.tmp 4] b_ref01_SameTexts := of_ {} Tryz.func32
def b_ref18_sameColumns : ACode := r [V (.bool false) 4] <|
 q (r [M 0 6, N 6 7, M 1 8, N 8 9, B .neq 7 9 10] <|
 c 10 (r [V (.bool false) 4] <|
 .ret) k) <|
 q (r [V z0 5] <|
 .block 0 (.loop (q (r [M 5 11, M 0 12, N 12 13, B .lss 11 13 14] <|
 c 14 k (.exit 0)) <|
 q (.block 1 (q (.draw [M 0 17, M 5 18, I true 3 17 18 19, A 0 19 20, K 20 21, M 1 22, M 5 23, I true 3 22 23 24, A 0 24 25, K 25 26, B .neq 21 26 27, M 27 28, MF 0 29 28, MF 5 30 28, IF true 3 29 30 31 28, AF 1 31 32 28, KF 32 33 28, MF 1 34 28, MF 5 35 28, IF true 3 34 35 36 28, AF 1 36 37 28, KF 37 38 28, BF .neq 33 38 39 28, O 28 39 40, M 40 41, MF 0 42 41, MF 5 43 41, IF true 3 42 43 44 41, AF 2 44 45 41, KF 45 46 41, MF 1 47 41, MF 5 48 41, IF true 3 47 48 49 41, AF 2 49 50 41, KF 50 51 41, QF n_ref12_SameRow [t 46, t 51] 52 41, UF 52 53 41, O 41 53 54] []) <|
 c 54 (r [V (.bool false) 4] <|
 .ret) k)) <|
 R [M 5 15, D .add 15 1 16, M 16 5]))) <|
 r [V (.bool true) 4] <|
 .ret
theorem of_ref18_sameColumns : Of Tryz.prog n_ref18_sameColumns 55 [.tmp 4] b_ref18_sameColumns := of_ {} Tryz.func33
def b_ref18_sameLine : ACode := r [X 0 2, X 1 3, V (.bool false) 4] <|
 q (r [A 0 2 7, K 7 8, N 8 9, A 0 3 10, K 10 11, N 11 12, B .neq 9 12 13, M 13 14, AF 1 2 15 14, KF 15 16 14, NF 16 17 14, AF 1 3 18 14, KF 18 19 14, NF 19 20 14, BF .neq 17 20 21 14, O 14 21 22] <|
 c 22 (r [V (.bool false) 4] <|
 .ret) k) <|
 q (r [V z0 5] <|
 .block 0 (.loop (q (r [M 5 23, A 0 2 24, K 24 25, N 25 26, B .lss 23 26 27] <|
 c 27 k (.exit 0)) <|
 q (.block 1 (q (.draw [A 0 2 30, K 30 31, M 5 32, I true 3 31 32 33, L 3 33 34, A 0 3 35, K 35 36, M 5 37, I true 3 36 37 38, L 3 38 39, Q n_ref17_Same [t 34, t 39] 40, U 40 41] []) <|
 c 41 (r [V (.bool false) 4] <|
 .ret) k)) <|
 R [M 5 28, D .add 28 1 29, M 29 5]))) <|
 q (r [V z0 6] <|
 .block 2 (.loop (q (r [M 6 42, A 1 2 43, K 43 44, N 44 45, B .lss 42 45 46] <|
 c 46 k (.exit 2)) <|
 q (.block 3 (q (.draw [A 1 2 49, K 49 50, M 6 51, I true 6 50 51 52, L 6 52 53, A 1 3 54, K 54 55, M 6 56, I true 6 55 56 57, L 6 57 58, Q n_ref14_Same [t 53, t 58] 59, U 59 60] []) <|
 c 60 (r [V (.bool false) 4] <|
 .ret) k)) <|
 R [M 6 47, D .add 47 1 48, M 48 6]))) <|
 r [V (.bool true) 4] <|
 .ret
theorem of_ref18_sameLine : Of Tryz.prog n_ref18_sameLine 61 [.tmp 4] b_ref18_sameLine := of_ {} Tryz.func34
def b_law17_C_Small : ACode := r [X 0 1, V (.bool false) 2] <|
 q (r [A 2 1 4, K 4 5, N 5 6, D .gtr 6 14 7] <|
 c 7 (r [V (.bool false) 2] <|
 .ret) k) <|
 q (r [V z0 3] <|
 .block 0 (.loop (q (r [M 3 8, A 2 1 9, K 9 10, N 10 11, B .lss 8 11 12] <|
 c 12 k (.exit 0)) <|
 q (.block 1 (r [A 2 1 15, K 15 16, M 3 17, I true 15 16 17 18, A 1 18 19, L 6 19 20, C n_law14_X_Small [t 20] 21, U 21 22, M 22 23, AF 2 1 24 23, KF 24 25 23, MF 3 26 23, IF true 15 25 26 27 23, AF 7 27 28 23, LF 6 28 29 23, CF n_law14_X_Small [t 29] 30 23, UF 30 31 23, O 23 31 32] <|
 c 32 (r [V (.bool false) 2] <|
 .ret) k)) <|
 R [M 3 13, D .add 13 1 14, M 14 3]))) <|
 r [V (.bool true) 2] <|
 .ret
theorem of_law17_C_Small : Of Tryz.prog n_law17_C_Small 33 [.tmp 2] b_law17_C_Small := of_ {} Tryz.func35
def b_slices_EqualFunc_Column : ACode := r [V (.bool false) 6] <|
 q (r [M 0 10, N 10 11, M 1 12, N 12 13, B .neq 11 13 14] <|
 c 14 (r [V (.bool false) 6] <|
 .ret) k) <|
 q (r [M 0 15, N 15 16, V z0 17] <|
 .block 0 (.loop (r [B .lss 17 16 18] <|
 q (c 18 k (.exit 0)) <|
 q (.block 1 (r [M 17 19, I true 3 15 17 20, L 3 20 21, J [e0, z0, .nils] 8, M 19 7, W 3 8 21] <|
 r [M 1 22, M 7 23, I true 3 22 23 24, L 3 24 25, J [e0, z0, .nils] 9, W 3 9 25] <|
 r [M 2 26, L 3 8 27, L 3 9 28, ⟨.call false (t 26) [(t 27), (t 28)], (some 29), none⟩, U 29 30] <|
 c 30 (r [V (.bool false) 6] <|
 .ret) k)) <|
 R [D .add 17 1 31, M 31 17]))) <|
 r [V (.bool true) 6] <|
 .ret
theorem of_slices_EqualFunc_Column : Of Tryz.prog n_slices_EqualFunc_Column 32 [.tmp 6] b_slices_EqualFunc_Column := of_ {} Tryz.func36
def b_dtable_sameColumn : ACode := r [X 0 2, X 1 3, V (.bool false) 4] <|
 r [A 0 2 5, K 5 6, A 0 3 7, K 7 8, B .eql 6 8 9, M 9 10, AT 1 2 11 10, KT 11 12 10, AT 1 3 13 10, KT 13 14 10, BT .eql 12 14 15 10, P 10 15 16, M 16 17, AT 2 2 18 17, KT 18 19 17, AT 2 3 20 17, KT 20 21 17, CT n_slices_Equal_Value [t 19, t 21] 22 17, P 17 22 23, M 23 4] <|
 .ret
theorem of_dtable_sameColumn : Of Tryz.prog n_dtable_sameColumn 24 [.tmp 4] b_dtable_sameColumn := of_ {} Tryz.func37
def b_slices_EqualFunc_Rule : ACode := r [V (.bool false) 6] <|
 q (r [M 0 10, N 10 11, M 1 12, N 12 13, B .neq 11 13 14] <|
 c 14 (r [V (.bool false) 6] <|
 .ret) k) <|
 q (r [M 0 15, N 15 16, V z0 17] <|
 .block 0 (.loop (r [B .lss 17 16 18] <|
 q (c 18 k (.exit 0)) <|
 q (.block 1 (r [M 17 19, I true 2 15 17 20, L 2 20 21, J [.nils, .nils] 8, M 19 7, W 2 8 21] <|
 r [M 1 22, M 7 23, I true 2 22 23 24, L 2 24 25, J [.nils, .nils] 9, W 2 9 25] <|
 r [M 2 26, L 2 8 27, L 2 9 28, ⟨.call false (t 26) [(t 27), (t 28)], (some 29), none⟩, U 29 30] <|
 c 30 (r [V (.bool false) 6] <|
 .ret) k)) <|
 R [D .add 17 1 31, M 31 17]))) <|
 r [V (.bool true) 6] <|
 .ret
theorem of_slices_EqualFunc_Rule : Of Tryz.prog n_slices_EqualFunc_Rule 32 [.tmp 6] b_slices_EqualFunc_Rule := of_ {} Tryz.func38
def b_dtable_sameRule : ACode := r [X 0 2, X 1 3, V (.bool false) 4] <|
 r [A 0 2 5, K 5 6, A 0 3 7, K 7 8, C n_slices_Equal_string [t 6, t 8] 9, M 9 10, AT 1 2 11 10, KT 11 12 10, AT 1 3 13 10, KT 13 14 10, CT n_slices_Equal_string [t 12, t 14] 15 10, P 10 15 16, M 16 4] <|
 .ret
theorem of_dtable_sameRule : Of Tryz.prog n_dtable_sameRule 17 [.tmp 4] b_dtable_sameRule := of_ {} Tryz.func39
def b_slices_EqualFunc_Line : ACode := r [V (.bool false) 6] <|
 q (r [M 0 10, N 10 11, M 1 12, N 12 13, B .neq 11 13 14] <|
 c 14 (r [V (.bool false) 6] <|
 .ret) k) <|
 q (r [M 0 15, N 15 16, V z0 17] <|
 .block 0 (.loop (r [B .lss 17 16 18] <|
 q (c 18 k (.exit 0)) <|
 q (.block 1 (r [M 17 19, I true 2 15 17 20, L 2 20 21, J [.nils, .nils] 8, M 19 7, W 2 8 21] <|
 r [M 1 22, M 7 23, I true 2 22 23 24, L 2 24 25, J [.nils, .nils] 9, W 2 9 25] <|
 r [M 2 26, L 2 8 27, L 2 9 28, ⟨.call false (t 26) [(t 27), (t 28)], (some 29), none⟩, U 29 30] <|
 c 30 (r [V (.bool false) 6] <|
 .ret) k)) <|
 R [D .add 17 1 31, M 31 17]))) <|
 r [V (.bool true) 6] <|
 .ret
theorem of_slices_EqualFunc_Line : Of Tryz.prog n_slices_EqualFunc_Line 32 [.tmp 6] b_slices_EqualFunc_Line := of_ {} Tryz.func40
def b_dtable_SameReady_1 : ACode := r [X 0 2, X 1 3, V (.bool false) 4] <|
 r [A 0 2 5, K 5 6, A 0 3 7, K 7 8, ⟨.call false (.c (.fn (.func n_slices_EqualFunc_Cell) [] [])) [(t 6), (t 8), (.c (.fn (.func n_cell_Same) [] []))], (some 9), none⟩, M 9 10, AT 1 2 11 10, KT 11 12 10, AT 1 3 13 10, KT 13 14 10, ⟨.call false (.c (.fn (.func n_slices_EqualFunc_Expr) [] [])) [(t 12), (t 14), (.c (.fn (.func n_syntax_Same) [] []))], (some 15), some (10, true)⟩, P 10 15 16, M 16 4] <|
 .ret
theorem of_dtable_SameReady_1 : Of Tryz.prog n_dtable_SameReady_1 17 [.tmp 4] b_dtable_SameReady_1 := of_ {} Tryz.func41
def b_slices_EqualFunc_Cell : ACode := r [V (.bool false) 6] <|
 q (r [M 0 10, N 10 11, M 1 12, N 12 13, B .neq 11 13 14] <|
 c 14 (r [V (.bool false) 6] <|
 .ret) k) <|
 q (r [M 0 15, N 15 16, V z0 17] <|
 .block 0 (.loop (r [B .lss 17 16 18] <|
 q (c 18 k (.exit 0)) <|
 q (.block 1 (r [M 17 19, I true 3 15 17 20, L 3 20 21, J [(.bool false), (.bool false), .nils] 8, M 19 7, W 3 8 21] <|
 r [M 1 22, M 7 23, I true 3 22 23 24, L 3 24 25, J [(.bool false), (.bool false), .nils] 9, W 3 9 25] <|
 r [M 2 26, L 3 8 27, L 3 9 28, ⟨.call false (t 26) [(t 27), (t 28)], (some 29), none⟩, U 29 30] <|
 c 30 (r [V (.bool false) 6] <|
 .ret) k)) <|
 R [D .add 17 1 31, M 31 17]))) <|
 r [V (.bool true) 6] <|
 .ret
theorem of_slices_EqualFunc_Cell : Of Tryz.prog n_slices_EqualFunc_Cell 32 [.tmp 6] b_slices_EqualFunc_Cell := of_ {} Tryz.func42
def b_cell_Same : ACode := r [X 0 2, X 1 3, V (.bool false) 4] <|
 r [A 0 2 5, K 5 6, A 0 3 7, K 7 8, ⟨.eqf false false [.b] (t 6) (t 8), (some 9), none⟩, M 9 10, AT 1 2 11 10, KT 11 12 10, AT 1 3 13 10, KT 13 14 10, ⟨.eqf false false [.b] (t 12) (t 14), (some 15), some (10, true)⟩, P 10 15 16, M 16 17, AT 2 2 18 17, KT 18 19 17, AT 2 3 20 17, KT 20 21 17, ⟨.call false (.c (.fn (.func n_slices_EqualFunc_Test) [] [])) [(t 19), (t 21), (.c (.fn (.func n_cell_Same_1) [] []))], (some 22), some (17, true)⟩, P 17 22 23, M 23 4] <|
 .ret
theorem of_cell_Same : Of Tryz.prog n_cell_Same 24 [.tmp 4] b_cell_Same := of_ {} Tryz.func43
def b_slices_EqualFunc_Expr : ACode := r [V (.bool false) 6] <|
 q (r [M 0 10, N 10 11, M 1 12, N 12 13, B .neq 11 13 14] <|
 c 14 (r [V (.bool false) 6] <|
 .ret) k) <|
 q (r [M 0 15, N 15 16, V z0 17] <|
 .block 0 (.loop (r [B .lss 17 16 18] <|
 q (c 18 k (.exit 0)) <|
 q (.block 1 (r [M 17 19, I true 6 15 17 20, L 6 20 21, J [z0, z0, z0, e0, e0, .nils] 8, M 19 7, W 6 8 21] <|
 r [M 1 22, M 7 23, I true 6 22 23 24, L 6 24 25, J [z0, z0, z0, e0, e0, .nils] 9, W 6 9 25] <|
 r [M 2 26, L 6 8 27, L 6 9 28, ⟨.call false (t 26) [(t 27), (t 28)], (some 29), none⟩, U 29 30] <|
 c 30 (r [V (.bool false) 6] <|
 .ret) k)) <|
 R [D .add 17 1 31, M 31 17]))) <|
 r [V (.bool true) 6] <|
 .ret
theorem of_slices_EqualFunc_Expr : Of Tryz.prog n_slices_EqualFunc_Expr 32 [.tmp 6] b_slices_EqualFunc_Expr := of_ {} Tryz.func44
def b_syntax_Same : ACode := r [X 0 2, X 1 3, V (.bool false) 4] <|
 r [A 0 2 5, K 5 6, A 0 3 7, K 7 8, B .eql 6 8 9, M 9 10, AT 1 2 11 10, LT 3 11 12 10, AT 1 3 13 10, LT 3 13 14 10, ⟨.eqf false true [.i, .i, .s] (t 12) (t 14), (some 15), some (10, true)⟩, P 10 15 16, M 16 17, AT 4 2 18 17, KT 18 19 17, AT 4 3 20 17, KT 20 21 17, BT .eql 19 21 22 17, P 17 22 23, M 23 24, AT 5 2 25 24, KT 25 26 24, AT 5 3 27 24, KT 27 28 24, ⟨.call false (.c (.fn (.func n_slices_EqualFunc_Expr) [] [])) [(t 26), (t 28), (.c (.fn (.func n_syntax_Same) [] []))], (some 29), some (24, true)⟩, P 24 29 30, M 30 4] <|
 .ret
theorem of_syntax_Same : Of Tryz.prog n_syntax_Same 31 [.tmp 4] b_syntax_Same := of_ {} Tryz.func45
def b_law15_Cols_Few : ACode := r [V (.bool false) 2] <|
 q (r [M 0 4, N 4 5, D .gtr 5 12 6] <|
 c 6 (r [V (.bool false) 2] <|
 .ret) k) <|
 q (r [V z0 3] <|
 .block 0 (.loop (q (r [M 3 7, M 0 8, N 8 9, B .lss 7 9 10] <|
 c 10 k (.exit 0)) <|
 q (.block 1 (r [M 0 13, M 3 14, I true 3 13 14 15, A 0 15 16, K 16 17, S 17 18, D .gtr 18 300 19] <|
 c 19 (r [V (.bool false) 2] <|
 .ret) k)) <|
 R [M 3 11, D .add 11 1 12, M 12 3]))) <|
 r [V (.bool true) 2] <|
 .ret
theorem of_law15_Cols_Few : Of Tryz.prog n_law15_Cols_Few 20 [.tmp 2] b_law15_Cols_Few := of_ {} Tryz.func46
def b_lex_Name : ACode := r [V (.bool false) 2] <|
 r [M 0 3, ⟨.bin .neq (t 3) (.c e0), (some 4), none⟩, M 4 5, MT 0 6 5, CT n_lex_word [t 6] 7 5, MT 0 8 5, ST 8 9 5, BT .eql 7 9 10 5, P 5 10 11, M 11 12, MT 0 13 12, ST 13 14 12, DT .leq 14 16 15 12, P 12 15 16, M 16 17, MT 0 18 17, CT n_lex_reserved [t 18] 19 17, UT 19 20 17, P 17 20 21, M 21 2] <|
 .ret
theorem of_lex_Name : Of Tryz.prog n_lex_Name 22 [.tmp 2] b_lex_Name := of_ {} Tryz.func47
def b_dtable_columns : ACode := r [X 1 3, V z0 4] <|
 q (r [M 0 6, C n_typing_Columns [t 6] 7, M 7 5] <|
 r [M 5 8, D .neq 8 0 9] <|
 c 9 (r [M 5 10, M 10 4] <|
 .ret) k) <|
 q (r [M 0 11, N 11 12, D .eql 12 0 13, M 13 14, MF 0 15 14, ⟨.mkfn (.func n_dtable_columns_1) [] [(t 3)], (some 16), some (14, false)⟩, CF n_slices_ContainsFunc_Column [t 15, t 16] 17 14, O 14 17 18] <|
 c 18 (r [V (i6 17) 4] <|
 .ret) k) <|
 r [V z0 4] <|
 .ret
theorem of_dtable_columns : Of Tryz.prog n_dtable_columns 19 [.tmp 4] b_dtable_columns := of_ {} Tryz.func48
def b_dtable_policy : ACode := r [X 0 1, V (.bool false) 2] <|
 q (.block 0 (r [A 3 1 5, K 5 6, D .lss 6 1 7, M 7 8, AF 3 1 9 8, KF 9 10 8, DF .gtr 10 6 11 8, O 8 11 12, M 12 4] <|
 c 4 (r [V (.bool false) 2] <|
 .ret) (r [A 4 1 14, K 14 15, D .eql 15 0 16, M 16 13] <|
 c 13 (r [V (.bool true) 2] <|
 .ret) (r [A 3 1 18, K 18 19, D .neq 19 5 20, M 20 21, AF 2 1 22 21, KF 22 23 21, NF 23 24 21, DF .neq 24 1 25 21, O 21 25 26, M 26 17] <|
 c 17 (r [V (.bool false) 2] <|
 .ret) k)))) <|
 q (r [A 2 1 27, K 27 28, ⟨.iaddr ⟨true, 3⟩ none (t 28) (.c z0), (some 29), none⟩, A 1 29 30, K 30 31, M 31 3] <|
 r [A 4 1 32, K 32 33] <|
 .block 1 (r [D .eql 33 1 35, M 35 34] <|
 c 34 (r [M 3 36, D .eql 36 1 37, M 37 2] <|
 .ret) (q (r [D .eql 33 2 39, M 39 38] <|
 c 38 k (R [D .eql 33 3 40, M 40 38])) <|
 c 38 (r [M 3 41, D .neq 41 3 42, M 42 2] <|
 .ret) (r [D .eql 33 4 44, M 44 43] <|
 c 43 (r [V (.bool true) 2] <|
 .ret) k)))) <|
 r [V (.bool false) 2] <|
 .ret
theorem of_dtable_policy : Of Tryz.prog n_dtable_policy 45 [.tmp 2] b_dtable_policy := of_ {} Tryz.func49
def b_dtable_ask : ACode := r [X 0 3, J [(.bool false), (.bool false), .nils] 6, V z0 7] <|
 r [M 2 12, C n_cell_Parse [t 12] 13, M 13 11, E 11 0 14, E 11 1 15, E 11 2 16, J [(.bool false), (.bool false), .nils] 8, W 3 8 14, M 15 9, M 16 10] <|
 q (r [M 10 17, D .eql 17 0 18] <|
 c 18 (.draw [L 3 8 19, A 1 3 20, K 20 21, M 1 22, I true 3 21 22 23, A 1 23 24, K 24 25, A 1 3 26, K 26 27, Q n_cell_Typed [t 19, t 25, t 27] 28, M 28 10] []) k) <|
 r [L 3 8 29, M 10 30, W 3 6 29, M 30 7] <|
 .ret
theorem of_dtable_ask : Of Tryz.prog n_dtable_ask 31 [.cell 6 true 3, .tmp 7] b_dtable_ask := of_ {} Tryz.func50
def b_dtable_tell : ACode := r [X 0 3, J [z0, z0, z0, e0, e0, .nils] 6, V z0 7] <|
 r [M 2 13, C n_syntax_Parse [t 13] 14, M 14 12, E 12 0 15, E 12 1 16, E 12 2 17, J [z0, z0, z0, e0, e0, .nils] 8, W 6 8 15, M 16 9, M 17 10] <|
 q (r [M 10 18, D .neq 18 0 19] <|
 c 19 (r [L 6 8 20, M 10 21, W 6 6 20, M 21 7] <|
 .ret) k) <|
 r [L 6 8 23, A 1 3 24, K 24 25, C n_typing_Kind [t 23, t 25] 26, M 26 22, E 22 0 27, E 22 1 28, M 27 11, M 28 10] <|
 q (r [M 10 29, D .eql 29 0 30, M 30 31, MT 11 32 31, AT 2 3 33 31, KT 33 34 31, MT 1 35 31, IT true 3 34 35 36 31, AT 1 36 37 31, KT 37 38 31, CT n_typing_Fits [t 32, t 38] 39 31, UT 39 40 31, P 31 40 41] <|
 c 41 (R [V (i6 14) 10]) k) <|
 r [L 6 8 42, M 10 43, W 6 6 42, M 43 7] <|
 .ret
theorem of_dtable_tell : Of Tryz.prog n_dtable_tell 44 [.cell 6 true 6, .tmp 7] b_dtable_tell := of_ {} Tryz.func51
def b_ref15_Fits : ACode := r [V (.bool false) 4] <|
 r [M 0 5, M 1 6, B .eql 5 6 7, M 7 8, MF 0 9 8, DF .eql 9 0 10 8, O 8 10 11, M 11 12, MF 1 13 12, DF .eql 13 0 14 12, O 12 14 15, M 15 4] <|
 .ret
theorem of_ref15_Fits : Of Tryz.prog n_ref15_Fits 16 [.tmp 4] b_ref15_Fits := of_ {} Tryz.func59
def b_cell_Check : ACode := r [X 0 1, V z0 2] <|
 q (.block 0 (r [A 0 1 4, K 4 5, M 5 6, AT 1 1 7 6, KT 7 8 6, UT 8 9 6, P 6 9 10, M 10 11, AT 2 1 12 11, KT 12 13 11, NT 13 14 11, DT .eql 14 0 15 11, P 11 15 16, M 16 3] <|
 c 3 (r [V z0 2] <|
 .ret) (r [A 0 1 18, K 18 19, M 19 20, AF 2 1 21 20, KF 21 22 20, NF 22 23 20, DF .eql 23 0 24 20, O 20 24 25, M 25 26, AF 2 1 27 26, KF 27 28 26, NF 28 29 26, DF .gtr 29 12 30 26, O 26 30 31, M 31 17] <|
 c 17 (r [V (i6 2) 2] <|
 .ret) (r [A 2 1 33, K 33 34, ⟨.call false (.c (.fn (.func n_slices_ContainsFunc_Test) [] [])) [(t 34), (.c (.fn (.func n_cell_Check_1) [] []))], (some 35), none⟩, M 35 32] <|
 c 32 (r [V (i6 2) 2] <|
 .ret) k)))) <|
 r [V z0 2] <|
 .ret
theorem of_cell_Check : Of Tryz.prog n_cell_Check 36 [.tmp 2] b_cell_Check := of_ {} Tryz.func60
def b_cell_text : ACode := r [X 0 1, V e0 2, V z0 3] <|
 r [A 1 1 10, L 6 10 11, C n_cell_write [t 11] 12, M 12 9, E 9 0 13, E 9 1 14, M 13 4, M 14 5] <|
 q (r [M 5 15, D .neq 15 0 16] <|
 c 16 (r [M 5 17, V e0 2, M 17 3] <|
 .ret) k) <|
 q (r [A 0 1 18, K 18 19] <|
 .block 0 (r [D .eql 19 1 21, M 21 20] <|
 c 20 (r [M 4 22, M 22 2, V z0 3] <|
 .ret) (q (r [D .eql 19 2 24, M 24 23] <|
 c 23 k (r [D .eql 19 3 25, M 25 23] <|
 c 23 k (r [D .eql 19 4 26, M 26 23] <|
 c 23 k (R [D .eql 19 5 27, M 27 23])))) <|
 c 23 (r [A 0 1 28, K 28 29, C n_cell_sign [t 29] 30, ⟨.bin .add (t 30) (.c (.str [32])), (some 31), none⟩, M 4 32, B .add 31 32 33, M 33 2, V z0 3] <|
 .ret) k))) <|
 r [A 7 1 35, L 6 35 36, C n_cell_write [t 36] 37, M 37 34, E 34 0 38, E 34 1 39, M 38 6, M 39 5] <|
 q (r [M 5 40, D .neq 40 0 41] <|
 c 41 (r [M 5 42, V e0 2, M 42 3] <|
 .ret) k) <|
 r [V (.str [91]) 7, V (.str [93]) 8] <|
 q (r [A 13 1 43, K 43 44] <|
 c 44 (R [V (.str [93]) 7]) k) <|
 q (r [A 14 1 45, K 45 46] <|
 c 46 (R [V (.str [91]) 8]) k) <|
 r [M 7 47, M 4 48, B .add 47 48 49, ⟨.bin .add (t 49) (.c (.str [46, 46])), (some 50), none⟩, M 6 51, B .add 50 51 52, M 8 53, B .add 52 53 54, M 54 2, V z0 3] <|
 .ret
theorem of_cell_text : Of Tryz.prog n_cell_text 55 [.tmp 2, .tmp 3] b_cell_text := of_ {} Tryz.func61
def b_syntax_right : ACode := r [X 0 1, V (.bool false) 2] <|
 q (q (.draw [A 5 1 3, K 3 4, N 4 5, A 0 1 6, K 6 7, Q n_syntax_count [t 7] 8, B .neq 5 8 9] []) <|
 c 9 (r [V (.bool false) 2] <|
 .ret) k) <|
 q (r [A 0 1 10, K 10 11] <|
 .block 0 (r [D .eql 11 1 13, M 13 12] <|
 c 12 (r [A 4 1 14, K 14 15, ⟨.bin .eql (t 15) (.c e0), (some 16), none⟩, M 16 17, AT 1 1 18 17, LT 3 18 19 17, CT n_value_Check [t 19] 20 17, DT .eql 20 0 21 17, P 17 21 22, M 22 23, AT 1 1 24 23, AT 0 24 25 23, KT 25 26 23, DT .neq 26 1 27 23, MT 27 28 23, AF 1 1 29 28, AF 1 29 30 28, KF 30 31 28, DF .geq 31 0 32 28, OT 28 32 33 23, P 23 33 34, M 34 2] <|
 .ret) (r [D .eql 11 2 36, M 36 35] <|
 c 35 (r [A 1 1 37, L 3 37 38, ⟨.build [z0, z0, e0] [], (some 39), none⟩, ⟨.eqf false true [.i, .i, .s] (t 38) (t 39), (some 40), none⟩, M 40 41, AT 4 1 42 41, KT 42 43 41, CT n_lex_Name [t 43] 44 41, P 41 44 45, M 45 2] <|
 .ret) k))) <|
 r [A 1 1 46, L 3 46 47, ⟨.build [z0, z0, e0] [], (some 48), none⟩, ⟨.eqf false true [.i, .i, .s] (t 47) (t 48), (some 49), none⟩, M 49 50, AT 4 1 51 50, KT 51 52 50, ⟨.bin .eql (t 52) (.c e0), (some 53), some (50, true)⟩, P 50 53 54, M 54 55, AT 5 1 56 55, KT 56 57 55, ⟨.call false (.c (.fn (.func n_slices_ContainsFunc_Expr) [] [])) [(t 57), (.c (.fn (.func n_syntax_right_1) [] []))], (some 58), some (55, true)⟩, UT 58 59 55, P 55 59 60, M 60 2] <|
 .ret
theorem of_syntax_right : Of Tryz.prog n_syntax_right 61 [.tmp 2] b_syntax_right := of_ {} Tryz.func63
def b_syntax_Deep : ACode := r [X 0 1, V z0 2] <|
 r [V z0 3] <|
 q (r [A 5 1 6, K 6 7, N 7 8, V z0 9] <|
 .block 0 (.loop (r [B .lss 9 8 10] <|
 q (c 10 k (.exit 0)) <|
 q (.block 1 (r [I true 6 7 9 11, L 6 11 12, J [z0, z0, z0, e0, e0, .nils] 5, W 6 5 12] <|
 R [M 3 13, L 6 5 14, C n_syntax_Deep [t 14] 15, ⟨.max (t 13) [(t 15)], (some 16), none⟩, M 16 3])) <|
 R [D .add 9 1 17, M 17 9]))) <|
 r [M 3 18, D .add 18 1 19, M 19 2] <|
 .ret
theorem of_syntax_Deep : Of Tryz.prog n_syntax_Deep 20 [.tmp 2] b_syntax_Deep := of_ {} Tryz.func64
def b_syntax_writer_put : ACode := r [X 1 4] <|
 q (r [L 6 4 12, C n_syntax_level [t 12] 13, M 2 14, B .lss 13 14 15] <|
 c 15 (r [M 0 16, Z 16 17, A 0 17 18, ⟨.call false (.c (.fn (.func n_strings_Builder_WriteByte) [] [])) [(t 18), (.c (.int .u8 40))], (some 19), none⟩] <|
 r [M 0 20, L 6 4 21, ⟨.call false (.c (.fn (.func n_syntax_writer_put) [] [])) [(t 20), (t 21), (.c z0)], (some 22), none⟩] <|
 r [M 0 23, Z 23 24, A 0 24 25, ⟨.call false (.c (.fn (.func n_strings_Builder_WriteByte) [] [])) [(t 25), (.c (.int .u8 41))], (some 26), none⟩] <|
 .ret) k) <|
 r [A 0 4 27, K 27 28] <|
 .block 0 (r [D .eql 28 1 63, M 63 62] <|
 c 62 (r [A 1 4 65, L 3 65 66, C n_value_Text [t 66] 67, M 67 64, E 64 0 68, E 64 1 69, M 68 6, M 69 7] <|
 R [M 0 70, Z 70 71, A 0 71 72, M 6 73, C n_strings_Builder_WriteString [t 72, t 73] 74]) (r [D .eql 28 2 76, M 76 75] <|
 c 75 (.draw [M 0 77, Z 77 78, A 0 78 79, A 4 4 80, K 80 81, C n_strings_Builder_WriteString [t 79, t 81] 82] []) (r [D .eql 28 3 84, M 84 83] <|
 c 83 (r [M 0 85, Z 85 86, A 0 86 87, ⟨.call false (.c (.fn (.func n_strings_Builder_WriteByte) [] [])) [(t 87), (.c (.int .u8 45))], (some 88), none⟩] <|
 R [M 0 89, A 5 4 90, K 90 91, ⟨.iaddr ⟨true, 6⟩ none (t 91) (.c z0), (some 92), none⟩, L 6 92 93, ⟨.call false (.c (.fn (.func n_syntax_writer_put) [] [])) [(t 89), (t 93), (.c (i6 6))], (some 94), none⟩]) (r [D .eql 28 16 96, M 96 95] <|
 c 95 (r [⟨.build [e0, e0, e0] [(0, 1, (.c (.str [105, 102, 32]))), (1, 1, (.c (.str [32, 116, 104, 101, 110, 32]))), (2, 1, (.c (.str [32, 101, 108, 115, 101, 32])))], (some 97), none⟩, V z0 98] <|
 .block 1 (.loop (r [D .lss 98 3 99] <|
 q (c 99 k (.exit 1)) <|
 q (.block 2 (r [M 98 100, ⟨.idxA ⟨false, 1⟩ 3 (t 97) (t 98), (some 101), none⟩, M 100 8, M 101 9] <|
 r [M 0 102, Z 102 103, A 0 103 104, M 9 105, C n_strings_Builder_WriteString [t 104, t 105] 106] <|
 R [M 0 107, A 5 4 108, K 108 109, M 8 110, I true 6 109 110 111, L 6 111 112, ⟨.call false (.c (.fn (.func n_syntax_writer_put) [] [])) [(t 107), (t 112), (.c z0)], (some 113), none⟩])) <|
 R [D .add 98 1 114, M 114 98]))) (r [A 0 4 29, K 29 30, C n_syntax_find [t 30] 31, J [z0, e0, z0] 10, W 3 10 31] <|
 r [A 2 10 32, K 32 33, M 33 11] <|
 q (r [M 11 34, D .eql 34 3 35] <|
 c 35 (R [M 11 36, D .add 36 1 37, M 37 11]) k) <|
 r [M 0 38, A 5 4 39, K 39 40, ⟨.iaddr ⟨true, 6⟩ none (t 40) (.c z0), (some 41), none⟩, L 6 41 42, M 11 43, C n_syntax_writer_put [t 38, t 42, t 43] 44] <|
 q (.draw [M 0 45, Z 45 46, A 0 46 47, A 1 10 48, K 48 49, ⟨.bin .add (.c (.str [32])) (t 49), (some 50), none⟩, ⟨.bin .add (t 50) (.c (.str [32])), (some 51), none⟩, C n_strings_Builder_WriteString [t 47, t 51] 52] []) <|
 .draw [M 0 53, A 5 4 54, K 54 55, ⟨.iaddr ⟨true, 6⟩ none (t 55) (.c (i6 1)), (some 56), none⟩, L 6 56 57, A 2 10 58, K 58 59, D .add 59 1 60, C n_syntax_writer_put [t 53, t 57, t 60] 61] [])))))
theorem of_syntax_writer_put : Of Tryz.prog n_syntax_writer_put 115 [] b_syntax_writer_put := of_ ⟨[], [52, 61, 82], [], [], [], []⟩ Tryz.func65
def b_strings_Builder_Len : ACode := r [V z0 2] <|
 r [M 0 3, Z 3 4, A 1 4 5, K 5 6, N 6 7, M 7 2] <|
 .ret
theorem of_strings_Builder_Len : Of Tryz.prog n_strings_Builder_Len 8 [.tmp 2] b_strings_Builder_Len := of_ {} Tryz.func66
def b_strings_Builder_String : ACode := r [V e0 2] <|
 q (.draw [M 0 3, Z 3 4, A 1 4 5, K 5 6, ⟨.usd ⟨false, 1⟩ (t 6), (some 7), none⟩, M 0 8, Z 8 9, A 1 9 10, K 10 11, N 11 12, ⟨.ustr 5 (t 7) (t 12), (some 13), none⟩, M 13 2] []) <|
 .ret
theorem of_strings_Builder_String : Of Tryz.prog n_strings_Builder_String 14 [.tmp 2] b_strings_Builder_String := of_ {} Tryz.func67
end Go.Proofs.YthkhdedadacakaaGreatDoor
