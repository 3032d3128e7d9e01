/- Part of a proof: see Root. -/
import Derived.Test.YtmbgnaoilncbnaaGreatW13
import Derived.KernelRfl
set_option linter.unnecessarySimpa false
set_option linter.unusedSimpArgs false
set_option linter.unusedVariables false
namespace Go.Proofs.YtmbgnaoilncbnaaGreat
open Go.AM Go.AM.W
set_option maxRecDepth 10000
def b_octet_code : ACode := r [V (.int .u64 0) 2] <|
 r [M 0 3, ⟨.cint .u64 (t 3), (some 4), none⟩, ⟨.bin .shl (t 4) (.c (.int .u64 1)), (some 5), none⟩, M 0 6, ⟨.bin .shr (t 6) (.c (.int .u64 63)), (some 7), none⟩, ⟨.cint .u64 (t 7), (some 8), none⟩, B .xor 5 8 9, M 9 2] <|
 .ret
theorem of_octet_code : Of Tryz.prog n_octet_code 10 [.tmp 2] b_octet_code := of_ {} Tryz.func82
def b_octet_low_uint64 : ACode := r [V (.int .u8 0) 2] <|
 r [M 0 3, ⟨.cint .u8 (t 3), (some 4), none⟩, ⟨.bin .and (t 4) (.c (.int .u8 127)), (some 5), none⟩, M 5 2] <|
 .ret
theorem of_octet_low_uint64 : Of Tryz.prog n_octet_low_uint64 6 [.tmp 2] b_octet_low_uint64 := of_ {} Tryz.func83
def b_value_Bytes : ACode := r [X 0 1, V e0 2, V z0 3] <|
 q (r [L 3 1 6, C n_value_Check [t 6] 7, M 7 4] <|
 r [M 4 8, D .neq 8 0 9] <|
 c 9 (r [M 4 10, V e0 2, M 10 3] <|
 .ret) k) <|
 r [A 0 1 11, K 11 12, C n_octet_Num [t 12] 13, M 13 5] <|
 q (r [A 0 1 14, K 14 15] <|
 .block 0 (r [D .eql 15 2 17, M 17 16] <|
 c 16 (R [M 5 18, A 2 1 19, K 19 20, C n_octet_Text [t 20] 21, B .add 18 21 22, M 22 5]) (q (r [D .eql 15 1 24, M 24 23] <|
 c 23 k (R [D .eql 15 3 25, M 25 23])) <|
 c 23 (R [M 5 26, A 1 1 27, K 27 28, C n_octet_Num [t 28] 29, B .add 26 29 30, M 30 5]) k))) <|
 r [M 5 31, M 31 2, V z0 3] <|
 .ret
theorem of_value_Bytes : Of Tryz.prog n_value_Bytes 32 [.tmp 2, .tmp 3] b_value_Bytes := of_ {} Tryz.func84
def b_ref13_Name : ACode := r [V (.bool false) 2] <|
 r [M 0 3, ⟨.bin .neq (t 3) (.c e0), (some 4), none⟩, M 4 5, MT 0 6 5, CT n_ref13_word [t 6] 7 5, MT 0 8 5, ST 8 9 5, BT .eql 7 9 10 5, P 5 10 11, M 11 12, MT 0 13 12, ST 13 14 12, DT .leq 14 16 15 12, P 12 15 16, M 16 17, MT 0 18 17, CT n_ref13_Reserved [t 18] 19 17, UT 19 20 17, P 17 20 21, M 21 2] <|
 .ret
theorem of_ref13_Name : Of Tryz.prog n_ref13_Name 22 [.tmp 2] b_ref13_Name := of_ {} Tryz.func85
def b_ref12_RightRow : ACode := r [V (.bool false) 2] <|
 q (r [V z0 3] <|
 .block 0 (.loop (q (r [M 3 4, M 0 5, N 5 6, B .lss 4 6 7] <|
 c 7 k (.exit 0)) <|
 q (.block 1 (r [M 0 10, M 3 11, I true 3 10 11 12, L 3 12 13, C n_ref12_Right [t 13] 14, U 14 15] <|
 c 15 (r [V (.bool false) 2] <|
 .ret) k)) <|
 R [M 3 8, D .add 8 1 9, M 9 3]))) <|
 r [V (.bool true) 2] <|
 .ret
theorem of_ref12_RightRow : Of Tryz.prog n_ref12_RightRow 16 [.tmp 2] b_ref12_RightRow := of_ {} Tryz.func86
def b_ref01_code : ACode := r [V (.int .u64 0) 2] <|
 q (r [M 0 3, D .lss 3 0 4] <|
 c 4 (r [M 0 5, ⟨.bin .sub (.c (i6 (-1))) (t 5), (some 6), none⟩, ⟨.cint .u64 (t 6), (some 7), none⟩, ⟨.bin .mul (.c (.int .u64 2)) (t 7), (some 8), none⟩, ⟨.bin .add (t 8) (.c (.int .u64 1)), (some 9), none⟩, M 9 2] <|
 .ret) k) <|
 r [M 0 10, ⟨.cint .u64 (t 10), (some 11), none⟩, ⟨.bin .mul (.c (.int .u64 2)) (t 11), (some 12), none⟩, M 12 2] <|
 .ret
theorem of_ref01_code : Of Tryz.prog n_ref01_code 13 [.tmp 2] b_ref01_code := of_ {} Tryz.func87
def b_ref12_Bytes : ACode := r [X 0 1, V e0 2] <|
 r [A 0 1 4, K 4 5, C n_ref01_Num [t 5] 6, M 6 3] <|
 q (r [A 0 1 7, K 7 8] <|
 .block 0 (q (r [D .eql 8 1 10, M 10 9] <|
 c 9 k (R [D .eql 8 3 11, M 11 9])) <|
 c 9 (r [M 3 12, A 1 1 13, K 13 14, C n_ref01_Num [t 14] 15, B .add 12 15 16, M 16 2] <|
 .ret) (r [D .eql 8 2 18, M 18 17] <|
 c 17 (r [M 3 19, A 2 1 20, K 20 21, C n_ref01_Text [t 21] 22, B .add 19 22 23, M 23 2] <|
 .ret) k))) <|
 r [M 3 24, M 24 2] <|
 .ret
theorem of_ref12_Bytes : Of Tryz.prog n_ref12_Bytes 25 [.tmp 2] b_ref12_Bytes := of_ {} Tryz.func88
def b_octet_low_int : ACode := r [V (.int .u8 0) 2] <|
 r [M 0 3, ⟨.cint .u8 (t 3), (some 4), none⟩, ⟨.bin .and (t 4) (.c (.int .u8 127)), (some 5), none⟩, M 5 2] <|
 .ret
theorem of_octet_low_int : Of Tryz.prog n_octet_low_int 6 [.tmp 2] b_octet_low_int := of_ {} Tryz.func89
def b_octet_number : ACode := r [V z0 2] <|
 r [M 0 3, ⟨.bin .shr (t 3) (.c (.int .u64 1)), (some 4), none⟩, ⟨.cint .i64 (t 4), (some 5), none⟩, M 0 6, ⟨.bin .and (t 6) (.c (.int .u64 1)), (some 7), none⟩, ⟨.cint .i64 (t 7), (some 8), none⟩, ⟨.un .neg (t 8), (some 9), none⟩, B .xor 5 9 10, M 10 2] <|
 .ret
theorem of_octet_number : Of Tryz.prog n_octet_number 11 [.tmp 2] b_octet_number := of_ {} Tryz.func90
def b_value_Take : ACode := r [J [z0, z0, e0] 2, V e0 3, V z0 4] <|
 r [M 0 10, C n_octet_TakeNum [t 10] 11, M 11 9, E 9 0 12, E 9 1 13, E 9 2 14, M 12 5, M 13 6, M 14 7] <|
 r [M 5 15, ⟨.build [z0, z0, e0] [(0, 1, (t 15))], (some 16), none⟩, J [z0, z0, e0] 8, W 3 8 16] <|
 q (.block 0 (r [M 7 18, D .neq 18 0 19, M 19 17] <|
 c 17 k (r [A 0 8 21, K 21 22, D .eql 22 0 23, M 23 20] <|
 c 20 k (r [A 0 8 25, K 25 26, D .eql 26 1 27, M 27 28, AF 0 8 29 28, KF 29 30 28, DF .eql 30 3 31 28, O 28 31 32, M 32 24] <|
 c 24 (R [M 6 34, C n_octet_TakeNum [t 34] 35, M 35 33, E 33 0 36, E 33 1 37, E 33 2 38, A 1 8 39, W 1 39 36, M 37 6, M 38 7]) (r [A 0 8 41, K 41 42, D .eql 42 2 43, M 43 40] <|
 c 40 (R [M 6 45, ⟨.call false (.c (.fn (.func n_octet_TakeText) [] [])) [(t 45), (.c (i6 40))], (some 46), none⟩, M 46 44, E 44 0 47, E 44 1 48, E 44 2 49, A 2 8 50, W 1 50 47, M 48 6, M 49 7]) (R [V (i6 4) 7])))))) <|
 q (r [M 7 51, D .eql 51 0 52, M 52 53, LT 3 8 54 53, CT n_value_Check [t 54] 55 53, DT .neq 55 0 56 53, P 53 56 57] <|
 c 57 (R [V (i6 4) 7]) k) <|
 q (r [M 7 58, D .neq 58 0 59] <|
 c 59 (r [⟨.build [z0, z0, e0] [], (some 60), none⟩, M 7 61, W 3 2 60, V e0 3, M 61 4] <|
 .ret) k) <|
 r [L 3 8 62, M 6 63, W 3 2 62, M 63 3, V z0 4] <|
 .ret
theorem of_value_Take : Of Tryz.prog n_value_Take 64 [.cell 2 true 3, .tmp 3, .tmp 4] b_value_Take := of_ {} Tryz.func91
def b_ref01_number : ACode := r [V z0 2] <|
 q (r [M 0 3, ⟨.bin .rem (t 3) (.c (.int .u64 2)), (some 4), none⟩, ⟨.bin .eql (t 4) (.c (.int .u64 1)), (some 5), none⟩] <|
 c 5 (r [M 0 6, ⟨.bin .quo (t 6) (.c (.int .u64 2)), (some 7), none⟩, ⟨.cint .i64 (t 7), (some 8), none⟩, ⟨.bin .sub (.c (i6 (-1))) (t 8), (some 9), none⟩, M 9 2] <|
 .ret) k) <|
 r [M 0 10, ⟨.bin .quo (t 10) (.c (.int .u64 2)), (some 11), none⟩, ⟨.cint .i64 (t 11), (some 12), none⟩, M 12 2] <|
 .ret
theorem of_ref01_number : Of Tryz.prog n_ref01_number 13 [.tmp 2] b_ref01_number := of_ {} Tryz.func92
def b_ref12_Take : ACode := r [J [z0, z0, e0] 2, V e0 3, V z0 4] <|
 r [M 0 10, C n_ref01_TakeNum [t 10] 11, M 11 9, E 9 0 12, E 9 1 13, E 9 2 14, M 12 5, M 13 6, M 14 7] <|
 q (r [M 7 15, D .neq 15 0 16] <|
 c 16 (r [⟨.build [z0, z0, e0] [], (some 17), none⟩, M 7 18, W 3 2 17, V e0 3, M 18 4] <|
 .ret) k) <|
 r [M 5 19, ⟨.build [z0, z0, e0] [(0, 1, (t 19))], (some 20), none⟩, J [z0, z0, e0] 8, W 3 8 20] <|
 q (r [M 5 21] <|
 .block 0 (r [D .eql 21 0 24, M 24 23] <|
 c 23 k (q (r [D .eql 21 1 26, M 26 25] <|
 c 25 k (R [D .eql 21 3 27, M 27 25])) <|
 c 25 (R [M 6 29, C n_ref01_TakeNum [t 29] 30, M 30 28, E 28 0 31, E 28 1 32, E 28 2 33, A 1 8 34, W 1 34 31, M 32 6, M 33 7]) (r [D .eql 21 2 36, M 36 35] <|
 c 35 (R [M 6 38, ⟨.call false (.c (.fn (.func n_ref01_TakeText) [] [])) [(t 38), (.c (i6 40))], (some 39), none⟩, M 39 37, E 37 0 40, E 37 1 41, E 37 2 42, A 2 8 43, W 1 43 40, M 41 6, M 42 7]) (r [⟨.build [z0, z0, e0] [], (some 22), none⟩, W 3 2 22, V e0 3, V (i6 4) 4] <|
 .ret))))) <|
 q (r [M 7 44, D .neq 44 0 45] <|
 c 45 (r [⟨.build [z0, z0, e0] [], (some 46), none⟩, M 7 47, W 3 2 46, V e0 3, M 47 4] <|
 .ret) k) <|
 q (r [L 3 8 48, C n_ref12_Right [t 48] 49, U 49 50] <|
 c 50 (r [⟨.build [z0, z0, e0] [], (some 51), none⟩, W 3 2 51, V e0 3, V (i6 4) 4] <|
 .ret) k) <|
 r [L 3 8 52, M 6 53, W 3 2 52, M 53 3, V z0 4] <|
 .ret
theorem of_ref12_Take : Of Tryz.prog n_ref12_Take 54 [.cell 2 true 3, .tmp 3, .tmp 4] b_ref12_Take := of_ {} Tryz.func93
def b_lex_word : ACode := r [V z0 2] <|
 q (r [M 0 3, ⟨.bin .eql (t 3) (.c e0), (some 4), none⟩, M 4 5, MF 0 6 5, ⟨.idxS (t 6) (.c z0), (some 7), some (5, false)⟩, CF n_lex_letter [t 7] 8 5, UF 8 9 5, O 5 9 10] <|
 c 10 (r [V z0 2] <|
 .ret) k) <|
 r [M 0 11, ⟨.call false (.c (.fn (.func n_lex_run) [] [])) [(t 11), (.c (.fn (.func n_lex_word_1) [] []))], (some 12), none⟩, M 12 2] <|
 .ret
theorem of_lex_word : Of Tryz.prog n_lex_word 13 [.tmp 2] b_lex_word := of_ {} Tryz.func94
def b_lex_reserved : ACode := r [V (.bool false) 2] <|
 q (r [M 0 3] <|
 .block 0 (q (r [⟨.bin .eql (t 3) (.c (.str [97, 110, 100])), (some 5), none⟩, M 5 4] <|
 c 4 k (r [⟨.bin .eql (t 3) (.c (.str [111, 114])), (some 6), none⟩, M 6 4] <|
 c 4 k (r [⟨.bin .eql (t 3) (.c (.str [110, 111, 116])), (some 7), none⟩, M 7 4] <|
 c 4 k (r [⟨.bin .eql (t 3) (.c (.str [105, 102])), (some 8), none⟩, M 8 4] <|
 c 4 k (r [⟨.bin .eql (t 3) (.c (.str [116, 104, 101, 110])), (some 9), none⟩, M 9 4] <|
 c 4 k (r [⟨.bin .eql (t 3) (.c (.str [101, 108, 115, 101])), (some 10), none⟩, M 10 4] <|
 c 4 k (r [⟨.bin .eql (t 3) (.c (.str [116, 114, 117, 101])), (some 11), none⟩, M 11 4] <|
 c 4 k (r [⟨.bin .eql (t 3) (.c (.str [102, 97, 108, 115, 101])), (some 12), none⟩, M 12 4] <|
 c 4 k (R [⟨.bin .eql (t 3) (.c (.str [110, 117, 108, 108])), (some 13), none⟩, M 13 4]))))))))) <|
 c 4 (r [V (.bool true) 2] <|
 .ret) k)) <|
 r [V (.bool false) 2] <|
 .ret
theorem of_lex_reserved : Of Tryz.prog n_lex_reserved 14 [.tmp 2] b_lex_reserved := of_ {} Tryz.func95
def b_slices_ContainsFunc_Value : ACode := r [V (.bool false) 4] <|
 r [M 0 5, M 1 6, C n_slices_IndexFunc_Value [t 5, t 6] 7, D .geq 7 0 8, M 8 4] <|
 .ret
theorem of_slices_ContainsFunc_Value : Of Tryz.prog n_slices_ContainsFunc_Value 9 [.tmp 4] b_slices_ContainsFunc_Value := of_ {} Tryz.func96
def b_entry_plain_1 : ACode := r [X 0 1, V (.bool false) 2] <|
 r [L 3 1 3, C n_value_Check [t 3] 4, D .neq 4 0 5, M 5 2] <|
 .ret
theorem of_entry_plain_1 : Of Tryz.prog n_entry_plain_1 6 [.tmp 2] b_entry_plain_1 := of_ {} Tryz.func97
def b_value_Check : ACode := r [X 0 1, V z0 2] <|
 r [V (.bool false) 3] <|
 q (r [A 0 1 4, K 4 5] <|
 .block 0 (r [D .eql 5 0 7, M 7 6] <|
 c 6 (R [L 3 1 8, ⟨.build [z0, z0, e0] [], (some 9), none⟩, ⟨.eqf false true [.i, .i, .s] (t 8) (t 9), (some 10), none⟩, M 10 3]) (r [D .eql 5 1 12, M 12 11] <|
 c 11 (R [A 2 1 13, K 13 14, ⟨.bin .eql (t 14) (.c e0), (some 15), none⟩, M 15 3]) (r [D .eql 5 2 17, M 17 16] <|
 c 16 (R [A 1 1 18, K 18 19, D .eql 19 0 20, M 20 21, AT 2 1 22 21, KT 22 23 21, CT n_value_plain [t 23] 24 21, P 21 24 25, M 25 3]) (r [D .eql 5 3 27, M 27 26] <|
 c 26 (R [A 2 1 28, K 28 29, ⟨.bin .eql (t 29) (.c e0), (some 30), none⟩, M 30 31, AT 1 1 32 31, KT 32 33 31, DT .andNot 33 1 34 31, DT .eql 34 0 35 31, P 31 35 36, M 36 3]) k))))) <|
 q (r [M 3 37, U 37 38] <|
 c 38 (r [V (i6 2) 2] <|
 .ret) k) <|
 r [V z0 2] <|
 .ret
theorem of_value_Check : Of Tryz.prog n_value_Check 39 [.tmp 2] b_value_Check := of_ {} Tryz.func98
def b_slices_IndexFunc_LValue : ACode := r [V z0 4] <|
 q (r [M 0 6, N 6 7, V z0 8] <|
 .block 0 (.loop (r [B .lss 8 7 9] <|
 q (c 9 k (.exit 0)) <|
 q (.block 1 (r [M 8 10, M 10 5] <|
 r [M 1 11, M 0 12, M 5 13, I false 1 12 13 14, K 14 15, ⟨.call false (t 11) [(t 15)], (some 16), none⟩] <|
 c 16 (r [M 5 17, M 17 4] <|
 .ret) k)) <|
 R [D .add 8 1 18, M 18 8]))) <|
 r [V (i6 (-1)) 4] <|
 .ret
theorem of_slices_IndexFunc_LValue : Of Tryz.prog n_slices_IndexFunc_LValue 19 [.tmp 4] b_slices_IndexFunc_LValue := of_ {} Tryz.func99
def b_ref13_word : ACode := r [V z0 2] <|
 r [V z0 3] <|
 q (.block 0 (.loop (q (r [M 3 4, M 0 5, S 5 6, B .lss 4 6 7, M 7 8, MT 0 9 8, MT 3 10 8, ⟨.idxS (t 9) (t 10), (some 11), some (8, true)⟩, CT n_ref13_letter [t 11] 12 8, MT 12 13 8, MF 3 14 13, DF .gtr 14 0 15 13, MF 15 16 13, MT 0 17 16, MT 3 18 16, ⟨.idxS (t 17) (t 18), (some 19), some (16, true)⟩, CT n_ref13_digit [t 19] 20 16, PF 16 20 21 13, OT 13 21 22 8, P 8 22 23] <|
 c 23 k (.exit 0)) <|
 .block 1 (R [M 3 24, D .add 24 1 25, M 25 3])))) <|
 r [M 3 26, M 26 2] <|
 .ret
theorem of_ref13_word : Of Tryz.prog n_ref13_word 27 [.tmp 2] b_ref13_word := of_ {} Tryz.func124
def b_ref13_Reserved : ACode := r [V (.bool false) 2] <|
 r [⟨.bslice false ⟨false, 1⟩ e0 9 [(0, (.c (.str [97, 110, 100]))), (1, (.c (.str [111, 114]))), (2, (.c (.str [110, 111, 116]))), (3, (.c (.str [105, 102]))), (4, (.c (.str [116, 104, 101, 110]))), (5, (.c (.str [101, 108, 115, 101]))), (6, (.c (.str [116, 114, 117, 101]))), (7, (.c (.str [102, 97, 108, 115, 101]))), (8, (.c (.str [110, 117, 108, 108])))], (some 5), none⟩, M 5 3] <|
 q (r [V z0 4] <|
 .block 0 (.loop (q (r [M 4 6, M 3 7, N 7 8, B .lss 6 8 9] <|
 c 9 k (.exit 0)) <|
 q (.block 1 (r [M 3 12, M 4 13, I false 1 12 13 14, K 14 15, M 0 16, B .eql 15 16 17] <|
 c 17 (r [V (.bool true) 2] <|
 .ret) k)) <|
 R [M 4 10, D .add 10 1 11, M 11 4]))) <|
 r [V (.bool false) 2] <|
 .ret
theorem of_ref13_Reserved : Of Tryz.prog n_ref13_Reserved 18 [.tmp 2] b_ref13_Reserved := of_ {} Tryz.func125
def b_ref12_Right : ACode := r [X 0 1, V (.bool false) 2] <|
 q (r [A 0 1 3, K 3 4] <|
 .block 0 (r [D .eql 4 0 6, M 6 5] <|
 c 5 (r [A 1 1 7, K 7 8, D .eql 8 0 9, M 9 10, AT 2 1 11 10, KT 11 12 10, ⟨.bin .eql (t 12) (.c e0), (some 13), some (10, true)⟩, P 10 13 14, M 14 2] <|
 .ret) (r [D .eql 4 1 16, M 16 15] <|
 c 15 (r [A 2 1 17, K 17 18, ⟨.bin .eql (t 18) (.c e0), (some 19), none⟩, M 19 2] <|
 .ret) (r [D .eql 4 2 21, M 21 20] <|
 c 20 (r [A 1 1 22, K 22 23, D .eql 23 0 24, M 24 25, AT 2 1 26 25, KT 26 27 25, CT n_ref12_Plain [t 27] 28 25, P 25 28 29, M 29 2] <|
 .ret) (r [D .eql 4 3 31, M 31 30] <|
 c 30 (r [A 2 1 32, K 32 33, ⟨.bin .eql (t 33) (.c e0), (some 34), none⟩, M 34 35, AT 1 1 36 35, KT 36 37 35, DT .eql 37 0 38 35, MT 38 39 35, AF 1 1 40 39, KF 40 41 39, DF .eql 41 1 42 39, OT 39 42 43 35, P 35 43 44, M 44 2] <|
 .ret) k))))) <|
 r [V (.bool false) 2] <|
 .ret
theorem of_ref12_Right : Of Tryz.prog n_ref12_Right 45 [.tmp 2] b_ref12_Right := of_ {} Tryz.func126
def b_lex_letter : ACode := r [V (.bool false) 2] <|
 r [M 0 3, ⟨.bin .or (t 3) (.c (.int .u8 32)), (some 4), none⟩, ⟨.bin .geq (t 4) (.c (.int .u8 97)), (some 5), none⟩, M 5 6, MT 0 7 6, ⟨.bin .or (t 7) (.c (.int .u8 32)), (some 8), some (6, true)⟩, ⟨.bin .leq (t 8) (.c (.int .u8 122)), (some 9), some (6, true)⟩, P 6 9 10, M 10 11, MF 0 12 11, ⟨.bin .eql (t 12) (.c (.int .u8 95)), (some 13), some (11, false)⟩, O 11 13 14, M 14 2] <|
 .ret
theorem of_lex_letter : Of Tryz.prog n_lex_letter 15 [.tmp 2] b_lex_letter := of_ {} Tryz.func127
def b_lex_run : ACode := r [V z0 4] <|
 q (r [M 0 6, S 6 7, V z0 8] <|
 .block 0 (.loop (r [B .lss 8 7 9] <|
 q (c 9 k (.exit 0)) <|
 q (.block 1 (r [M 8 10, M 10 5] <|
 r [M 1 11, M 0 12, M 5 13, ⟨.idxS (t 12) (t 13), (some 14), none⟩, ⟨.call false (t 11) [(t 14)], (some 15), none⟩, U 15 16] <|
 c 16 (r [M 5 17, M 17 4] <|
 .ret) k)) <|
 R [D .add 8 1 18, M 18 8]))) <|
 r [M 0 19, S 19 20, M 20 4] <|
 .ret
theorem of_lex_run : Of Tryz.prog n_lex_run 21 [.tmp 4] b_lex_run := of_ {} Tryz.func128
def b_lex_word_1 : ACode := r [V (.bool false) 2] <|
 r [M 0 3, C n_lex_letter [t 3] 4, M 4 5, MF 0 6 5, CF n_lex_digit [t 6] 7 5, O 5 7 8, M 8 2] <|
 .ret
theorem of_lex_word_1 : Of Tryz.prog n_lex_word_1 9 [.tmp 2] b_lex_word_1 := of_ {} Tryz.func129
def b_lex_digit : ACode := r [V (.bool false) 2] <|
 r [M 0 3, ⟨.bin .geq (t 3) (.c (.int .u8 48)), (some 4), none⟩, M 4 5, MT 0 6 5, ⟨.bin .leq (t 6) (.c (.int .u8 57)), (some 7), some (5, true)⟩, P 5 7 8, M 8 2] <|
 .ret
theorem of_lex_digit : Of Tryz.prog n_lex_digit 9 [.tmp 2] b_lex_digit := of_ {} Tryz.func130
def b_slices_IndexFunc_Value : ACode := r [V z0 4] <|
 q (r [M 0 6, N 6 7, V z0 8] <|
 .block 0 (.loop (r [B .lss 8 7 9] <|
 q (c 9 k (.exit 0)) <|
 q (.block 1 (r [M 8 10, M 10 5] <|
 r [M 1 11, M 0 12, M 5 13, I true 3 12 13 14, L 3 14 15, ⟨.call false (t 11) [(t 15)], (some 16), none⟩] <|
 c 16 (r [M 5 17, M 17 4] <|
 .ret) k)) <|
 R [D .add 8 1 18, M 18 8]))) <|
 r [V (i6 (-1)) 4] <|
 .ret
theorem of_slices_IndexFunc_Value : Of Tryz.prog n_slices_IndexFunc_Value 19 [.tmp 4] b_slices_IndexFunc_Value := of_ {} Tryz.func131
def b_value_plain : ACode := r [V (.bool false) 2] <|
 q (r [M 0 5, S 5 6, D .gtr 6 40 7] <|
 c 7 (r [V (.bool false) 2] <|
 .ret) k) <|
 q (r [M 0 8, ⟨.rngS (t 8), (some 9), none⟩] <|
 .block 0 (.loop (r [⟨.nxtS (t 9), (some 10), none⟩, E 10 0 11] <|
 q (c 11 k (.exit 0)) <|
 .block 1 (r [E 10 2 12, M 12 4] <|
 r [M 4 13, ⟨.bin .lss (t 13) (.c (.int .i32 32)), (some 14), none⟩, M 14 15, MF 4 16 15, ⟨.bin .gtr (t 16) (.c (.int .i32 126)), (some 17), some (15, false)⟩, O 15 17 18] <|
 c 18 (r [V (.bool false) 2] <|
 .ret) k)))) <|
 r [V (.bool true) 2] <|
 .ret
theorem of_value_plain : Of Tryz.prog n_value_plain 19 [.tmp 2] b_value_plain := of_ {} Tryz.func132
end Go.Proofs.YtmbgnaoilncbnaaGreat
namespace Go.Proofs.YtmbgnaoilncbnaaGreat
open Go.AM Go.AM.W
set_option maxRecDepth 10000
def b_ref13_letter : ACode := r [V (.bool false) 2] <|
 r [M 0 3, ⟨.bin .geq (t 3) (.c (.int .u8 97)), (some 4), none⟩, M 4 5, MT 0 6 5, ⟨.bin .leq (t 6) (.c (.int .u8 122)), (some 7), some (5, true)⟩, P 5 7 8, M 8 9, MF 0 10 9, ⟨.bin .geq (t 10) (.c (.int .u8 65)), (some 11), some (9, false)⟩, MF 11 12 9, MT 0 13 12, ⟨.bin .leq (t 13) (.c (.int .u8 90)), (some 14), some (12, true)⟩, PF 12 14 15 9, O 9 15 16, M 16 17, MF 0 18 17, ⟨.bin .eql (t 18) (.c (.int .u8 95)), (some 19), some (17, false)⟩, O 17 19 20, M 20 2] <|
 .ret
theorem of_ref13_letter : Of Tryz.prog n_ref13_letter 21 [.tmp 2] b_ref13_letter := of_ {} Tryz.func169
def b_ref13_digit : ACode := r [V (.bool false) 2] <|
 r [M 0 3, ⟨.bin .geq (t 3) (.c (.int .u8 48)), (some 4), none⟩, M 4 5, MT 0 6 5, ⟨.bin .leq (t 6) (.c (.int .u8 57)), (some 7), some (5, true)⟩, P 5 7 8, M 8 2] <|
 .ret
theorem of_ref13_digit : Of Tryz.prog n_ref13_digit 9 [.tmp 2] b_ref13_digit := of_ {} Tryz.func170
def b_ref12_Plain : ACode := r [V (.bool false) 2] <|
 q (r [V z0 3] <|
 .block 0 (.loop (q (r [M 3 4, M 0 5, S 5 6, B .lss 4 6 7] <|
 c 7 k (.exit 0)) <|
 q (.block 1 (r [M 0 10, M 3 11, ⟨.idxS (t 10) (t 11), (some 12), none⟩, ⟨.bin .lss (t 12) (.c (.int .u8 32)), (some 13), none⟩, M 13 14, MF 0 15 14, MF 3 16 14, ⟨.idxS (t 15) (t 16), (some 17), some (14, false)⟩, ⟨.bin .gtr (t 17) (.c (.int .u8 126)), (some 18), some (14, false)⟩, O 14 18 19] <|
 c 19 (r [V (.bool false) 2] <|
 .ret) k)) <|
 R [M 3 8, D .add 8 1 9, M 9 3]))) <|
 r [M 0 20, S 20 21, D .leq 21 40 22, M 22 2] <|
 .ret
theorem of_ref12_Plain : Of Tryz.prog n_ref12_Plain 23 [.tmp 2] b_ref12_Plain := of_ {} Tryz.func171
end Go.Proofs.YtmbgnaoilncbnaaGreat
namespace Go.Proofs.YtmbgnaoilncbnaaGreat
open Go.AM Go.AM.W
set_option maxRecDepth 10000
def b_internal_stringslite_HasPrefix : ACode := r [V (.bool false) 4] <|
 r [M 0 5, S 5 6, M 1 7, S 7 8, B .geq 6 8 9, M 9 10, MT 0 11 10, MT 1 12 10, ST 12 13 10, ⟨.slS (t 11) none (some (t 13)), (some 14), some (10, true)⟩, MT 1 15 10, BT .eql 14 15 16 10, P 10 16 17, M 17 4] <|
 .ret
theorem of_internal_stringslite_HasPrefix : Of Tryz.prog n_internal_stringslite_HasPrefix 18 [.tmp 4] b_internal_stringslite_HasPrefix := of_ {} Tryz.func296
end Go.Proofs.YtmbgnaoilncbnaaGreat
namespace Go.AM
variable {P : Program}
theorem ab_ {p : Prop} (h : False := by first | omega | (simp_all; done) | (simp_all; omega)) : p := h.elim
theorem at_ {p : Prop} (h : p := by simp (disch := omega) only [at_nil, at_cons, and_true, go_sem, wrapK_i64, wrapK_u8, wrapK_u64, Nat.reduceAdd, Nat.reduceBEq, ↓reduceIte, Int.natCast_add, Int.cast_ofNat_Int] <;> (try trivial) <;> (try omega) <;> (try (repeat (first | trivial | (refine And.intro ?_ ?_) | (congr 1; omega))))) : p := h
theorem ou_ {p : Prop} (h : p := by repeat (first | exact out_ovl _ _ _ | refine out_upd rfl ?_ | refine out_ovl2 rfl ?_ | (simp only [puts_cons, puts_nil]))) : p := h
theorem vw_ {p : Prop} (h : p := by first | exact ViewL.refl (by simp) | (repeat (first | exact ViewL.nil _ | refine ViewL.cons ?_ ?_ | exact View.nils _ | exact View.refl _ (by simp) | exact View.weak _ _ _ (by simp) | exact View.cell _ _ rfl rfl (by simp) | refine View.fnL ?_ ?_ | exact View.vec rfl (by simp) (by simp) (by simp) | refine View.lstL ?_ | refine View.agg' ?_))) : p := h
theorem bs_ {K : AV → Prop} {xs : List AV} {m n : Nat} {s : List UInt8} (hk : K (.str s)) (hx : xs = s.map fun b => AV.int .u8 b.toNat) (hm : m = xs.length) (hn : n = xs.length) : b2sO (some (.vec ⟨false, 1⟩ xs)) m 0 n (.mk : Tg K) := b2sO_whole s hx hm hn hk
theorem go_ {G K : Prop} (k : K) (h : K → G := by
    first
    | (intro k; simp (disch := omega) only [go_sem, hQr, hQn, hQp, wrapK_i64, wrapK_u8, wrapK_u64, Nat.reduceAdd, Nat.reduceBEq, ↓reduceIte]; exact k)
    | (intro k; with_reducible refine req_d ?_ k; first | omega | (simp; done) | (simp; omega) | assumption)
    | (intro k; with_reducible exact scope_no k)
    | (intro k; with_reducible exact bs_ k rfl (by simp) (by simp))) : G := h k
theorem cc_ {t : Bool} {T E p q : Prop} (h : p → T) (h' : q → E) (hp : (t = true) = p) (hq : (t = false) = q) : condA (.bool t) (.mk : Tg (T, E)) := by
  subst hp hq; exact condA_i h h'
theorem gk_ {t b : Bool} {T E U p q : Prop} (h : p → T) (h' : q → E) (hp : (t = b) = p) (hq : (t = !b) = q) : guardK (.bool t) b (.mk : Tg (T, E, U)) := by
  subst hp hq; exact guardK_i h h'
theorem br_ {p q T E G : Prop} (h : p → T) (h' : q → E) (hg : (p → T) → (q → E) → G := by
    intro h h'
    with_reducible first | refine cc_ h h' ?_ ?_ | refine gk_ h h' ?_ ?_
    all_goals
      (try simp only [decide_eq_true_eq, decide_eq_false_iff_not, beq_iff_eq, beq_eq_false_iff_ne, Bool.not_eq_true', Bool.not_eq_false', Bool.not_true, Bool.not_false, Int.not_lt, Int.not_le, ne_eq, Int.ofNat_lt, Int.ofNat_le, not_true_eq_false, reduceCtorEq, Int.toNat_zero])
      exact rfl) : G := hg h h'
theorem cf_ {n : FuncId} {args : List AV} {r : AV} {K G : Prop} (h : CallF P n args r) (k : K) (hg : CallF P n args r → K → G := by
    intro h k; with_reducible first | exact callL_f h k | exact callD_f h k) : G := hg h k
theorem cv_ {n : FuncId} {args : List AV} {r : AV} {K G : Prop} (h : CallF P n args r) (k : K) (hg : CallF P n args r → K → G := by
    intro h k; with_reducible first | refine callL_v h ?_ ?_ k | refine callD_v h ?_ ?_ k
    · exact vw_
    · simp [AV.flat, AV.flatL]) : G := hg h k
theorem cm_ {f : FuncId} {off : Nat} {args cs ds : List AV} {r : AV} {K G : Prop} (h : CallM P f off args cs ds r) (k : K) (hg : CallM P f off args cs ds r → K → G := by
    intro h k; with_reducible first | exact callL_m h rfl k | exact methT_m h rfl k | exact callD_q h rfl k) : G := hg h k
end Go.AM
namespace Go.Proofs.YtmbgnaoilncbnaaGreat
open Go.AM
abbrev Str := List UInt8
structure Val where
  kind : Int
  n : Int
  s : Str
deriving DecidableEq, Inhabited
structure Tok where
  kind : Int
  s : Str
  n : Int
  pos : Int
deriving DecidableEq, Inhabited
inductive Expr where
  | mk (op : Int) (v : Val) (s : Str) (l : List Expr)
instance : Inhabited Expr := ⟨.mk 0 ⟨0, 0, []⟩ [] []⟩
def Expr.op : Expr → Int | .mk op _ _ _ => op
def Expr.v : Expr → Val | .mk _ v _ _ => v
def Expr.s : Expr → Str | .mk _ _ s _ => s
def Expr.l : Expr → List Expr | .mk _ _ _ l => l
structure Test where
  kind : Int
  a : Expr
  b : Expr
  lo : Bool
  hi : Bool
deriving Inhabited
structure Cell where
  any : Bool
  neg : Bool
  tests : List Test
deriving Inhabited
structure Col where
  name : Str
  kind : Int
  order : List Val
deriving Inhabited
structure Rule where
  cells : List Str
  outs : List Str
deriving Inhabited
structure Table where
  name : Str
  ins : List Col
  outs : List Col
  policy : Int
  agg : Int
  rules : List Rule
deriving Inhabited
structure Line where
  cells : List Cell
  outs : List Expr
deriving Inhabited
structure Ready where
  table : Table
  lines : List Line
deriving Inhabited
abbrev I (n : Int) : AV := .int .i64 n
abbrev E1 : El := ⟨false, 1⟩
abbrev EV : El := ⟨true, 3⟩
abbrev ET : El := ⟨true, 4⟩
abbrev EX : El := ⟨true, 6⟩
abbrev ES : El := ⟨true, 15⟩
abbrev EC : El := ⟨true, 3⟩
abbrev ER : El := ⟨true, 2⟩
def eVal (v : Val) : AV := .agg [I v.kind, I v.n, .str v.s]
def eTok (t : Tok) : AV := .agg [I t.kind, .str t.s, I t.n, I t.pos]
def eStr (s : Str) : AV := .str s
def eExpr : Expr → AV
  | .mk op v s l => .agg [I op, I v.kind, I v.n, .str v.s, .str s, .lst false EX (l.map eExpr)]
def eExprs (l : List Expr) : AV := .lst false EX (l.map eExpr)
def eTest (t : Test) : AV := .agg [I t.kind, I t.a.op, I t.a.v.kind, I t.a.v.n, .str t.a.v.s, .str t.a.s, eExprs t.a.l, I t.b.op, I t.b.v.kind, I t.b.v.n, .str t.b.v.s, .str t.b.s, eExprs t.b.l, .bool t.lo, .bool t.hi]
def eTests (l : List Test) : AV := .lst false ES (l.map eTest)
def eCell (c : Cell) : AV := .agg [.bool c.any, .bool c.neg, eTests c.tests]
def eVals (l : List Val) : AV := .lst false EV (l.map eVal)
def eToks (l : List Tok) : AV := .lst false ET (l.map eTok)
def eStrs (l : List Str) : AV := .lst false E1 (l.map eStr)
def eCol (c : Col) : AV := .agg [.str c.name, I c.kind, eVals c.order]
def eCols (l : List Col) : AV := .lst false EC (l.map eCol)
def eRule (r : Rule) : AV := .agg [eStrs r.cells, eStrs r.outs]
def eRules (l : List Rule) : AV := .lst false ER (l.map eRule)
def cTable (t : Table) : List AV := [.str t.name, eCols t.ins, eCols t.outs, I t.policy, I t.agg, eRules t.rules]
def eTable (t : Table) : AV := .agg (cTable t)
def eCells (l : List Cell) : AV := .lst false EC (l.map eCell)
def eLine (l : Line) : AV := .agg [eCells l.cells, eExprs l.outs]
def eLines (l : List Line) : AV := .lst false ER (l.map eLine)
def eReady (r : Ready) : AV := .agg [.str r.table.name, eCols r.table.ins, eCols r.table.outs, I r.table.policy, I r.table.agg, eRules r.table.rules, eLines r.lines]
theorem eExpr_eq (x : Expr) : eExpr x = .agg [I x.op, I x.v.kind, I x.v.n, .str x.v.s, .str x.s, .lst false EX (x.l.map eExpr)] := by
  cases x; simp only [eExpr]; rfl
theorem Expr.eta (x : Expr) : Expr.mk x.op ⟨x.v.kind, x.v.n, x.v.s⟩ x.s x.l = x := by cases x; rfl
theorem Expr.ind {C : Expr → Prop} (h : ∀ op v s l, (∀ y ∈ l, C y) → C (.mk op v s l)) : ∀ x, C x
  | .mk op v s l => h op v s l fun y _ => Expr.ind h y
attribute [go_sem] eExpr_eq eVal eTok eTest eCell eCol eRule cTable eTable eLine eReady eStr eExprs eTests eVals eToks eStrs eCols eRules eCells eLines
@[go_sem] theorem Expr.op_mk (op : Int) (v : Val) (s : Str) (l : List Expr) : (Expr.mk op v s l).op = op := _root_.id rfl
@[go_sem] theorem Expr.v_mk (op : Int) (v : Val) (s : Str) (l : List Expr) : (Expr.mk op v s l).v = v := _root_.id rfl
@[go_sem] theorem Expr.s_mk (op : Int) (v : Val) (s : Str) (l : List Expr) : (Expr.mk op v s l).s = s := _root_.id rfl
@[go_sem] theorem Expr.l_mk (op : Int) (v : Val) (s : Str) (l : List Expr) : (Expr.mk op v s l).l = l := _root_.id rfl
attribute [go_sem] Expr.eta
theorem pur_eVal (v : Val) : (eVal v).pur = true := rfl
theorem pur_eTok (t : Tok) : (eTok t).pur = true := rfl
theorem pur_eExpr (x : Expr) : (eExpr x).pur = true := by
  induction x using Expr.ind with
  | h op v s l ih =>
    simp only [eExpr, AV.pur, AV.purL, Bool.true_and, Bool.and_true]
    rw [purL_iff]; intro a ha
    obtain ⟨y, hy, rfl⟩ := List.mem_map.1 ha
    exact ih y hy
theorem pur_eExprs (l : List Expr) : (eExprs l).pur = true := by simp only [eExprs, AV.pur]; exact purL_map _ _ pur_eExpr
theorem pur_eTest (t : Test) : (eTest t).pur = true := by simp [eTest, AV.pur, AV.purL, pur_eExprs]
theorem pur_eTests (l : List Test) : (eTests l).pur = true := by simp only [eTests, AV.pur]; exact purL_map _ _ pur_eTest
theorem pur_eCell (c : Cell) : (eCell c).pur = true := by simp [eCell, AV.pur, AV.purL, pur_eTests]
theorem pur_eVals (l : List Val) : (eVals l).pur = true := by simp only [eVals, AV.pur]; exact purL_map _ _ pur_eVal
theorem pur_eToks (l : List Tok) : (eToks l).pur = true := by simp only [eToks, AV.pur]; exact purL_map _ _ pur_eTok
theorem pur_eStrs (l : List Str) : (eStrs l).pur = true := by simp only [eStrs, AV.pur]; exact purL_map _ _ (fun _ => rfl)
theorem pur_eCol (c : Col) : (eCol c).pur = true := by simp [eCol, AV.pur, AV.purL, pur_eVals]
theorem pur_eCols (l : List Col) : (eCols l).pur = true := by simp only [eCols, AV.pur]; exact purL_map _ _ pur_eCol
theorem pur_eRule (r : Rule) : (eRule r).pur = true := by simp [eRule, AV.pur, AV.purL, pur_eStrs]
theorem pur_eRules (l : List Rule) : (eRules l).pur = true := by simp only [eRules, AV.pur]; exact purL_map _ _ pur_eRule
theorem pur_eTable (t : Table) : (eTable t).pur = true := by simp [eTable, cTable, AV.pur, AV.purL, pur_eCols, pur_eRules]
theorem pur_eCells (l : List Cell) : (eCells l).pur = true := by simp only [eCells, AV.pur]; exact purL_map _ _ pur_eCell
theorem pur_eLine (l : Line) : (eLine l).pur = true := by simp [eLine, AV.pur, AV.purL, pur_eCells, pur_eExprs]
theorem pur_eLines (l : List Line) : (eLines l).pur = true := by simp only [eLines, AV.pur]; exact purL_map _ _ pur_eLine
theorem pur_eReady (r : Ready) : (eReady r).pur = true := by simp [eReady, AV.pur, AV.purL, pur_eCols, pur_eRules, pur_eLines]
theorem purL_x (l : List Expr) : AV.purL (l.map eExpr) = true := purL_map _ _ pur_eExpr
theorem purL_v (l : List Val) : AV.purL (l.map eVal) = true := purL_map _ _ pur_eVal
theorem purL_t (l : List Tok) : AV.purL (l.map eTok) = true := purL_map _ _ pur_eTok
theorem purL_s (l : List Str) : AV.purL (l.map eStr) = true := purL_map _ _ (fun _ => rfl)
theorem purL_test (l : List Test) : AV.purL (l.map eTest) = true := purL_map _ _ pur_eTest
theorem purL_cell (l : List Cell) : AV.purL (l.map eCell) = true := purL_map _ _ pur_eCell
theorem purL_col (l : List Col) : AV.purL (l.map eCol) = true := purL_map _ _ pur_eCol
theorem purL_rule (l : List Rule) : AV.purL (l.map eRule) = true := purL_map _ _ pur_eRule
theorem purL_line (l : List Line) : AV.purL (l.map eLine) = true := purL_map _ _ pur_eLine
attribute [simp] AV.pur AV.purL pur_eVal pur_eTok pur_eExpr pur_eExprs pur_eTest pur_eTests pur_eCell pur_eVals pur_eToks pur_eStrs pur_eCol pur_eCols pur_eRule pur_eRules pur_eTable pur_eCells pur_eLine pur_eLines pur_eReady purL_x purL_v purL_t purL_s purL_test purL_cell purL_col purL_rule purL_line
theorem getD_mem {α : Type} [Inhabited α] {l : List α} {i : Nat} (h : i < l.length) : l.getD i default ∈ l := by
  rw [List.getD_eq_getElem?_getD, List.getElem?_eq_getElem h]; exact List.getElem_mem h
def printB (c : UInt8) : Bool := decide (32 ≤ c.toNat) && decide (c.toNat ≤ 126)
def letterB (c : UInt8) : Bool := (decide (97 ≤ c.toNat) && decide (c.toNat ≤ 122)) || (decide (65 ≤ c.toNat) && decide (c.toNat ≤ 90)) || decide (c.toNat = 95)
def digitB (c : UInt8) : Bool := decide (48 ≤ c.toNat) && decide (c.toNat ≤ 57)
def wordB (c : UInt8) : Bool := letterB c || digitB c
def plainS (s : Str) : Bool := decide (s.length ≤ 40) && s.all printB
def rightV (v : Val) : Bool :=
  if v.kind = 0 then decide (v.n = 0) && decide (v.s = [])
  else if v.kind = 1 then decide (v.s = [])
  else if v.kind = 2 then decide (v.n = 0) && plainS v.s
  else if v.kind = 3 then decide (v.s = []) && (decide (v.n = 0) || decide (v.n = 1))
  else false
end Go.Proofs.YtmbgnaoilncbnaaGreat
namespace Go.Proofs.YtmbgnaoilncbnaaGreat
open Go.AM
def wordN (s : Str) : Nat := match s with
  | [] => 0
  | c :: _ => if letterB c then (s.takeWhile wordB).length else 0
structure PR where
  kind : Int
  s : Str
  n : Int
  len : Nat
  e : Int
deriving Inhabited, DecidableEq
def PR.err (e : Int) : PR := ⟨0, [], 0, 0, e⟩
def numF : Str → Int → Option Int
  | [], v => some v
  | c :: r, v => if v > (9223372036854775807 - ((c.toNat : Int) - 48)) / 10 then none else numF r (v * 10 + ((c.toNat : Int) - 48))
def reservedL : List Str := [[97, 110, 100], [111, 114], [110, 111, 116], [105, 102], [116, 104, 101, 110], [101, 108, 115, 101], [116, 114, 117, 101], [102, 97, 108, 115, 101], [110, 117, 108, 108]]
def reservedS (s : Str) : Bool := reservedL.contains s
def nameS (s : Str) : Bool := decide (s ≠ []) && decide (wordN s = s.length) && decide (s.length ≤ 16) && !reservedS s
theorem takeWhile_le {p : UInt8 → Bool} (s : Str) : (s.takeWhile p).length ≤ s.length := by
  induction s with
  | nil => simp
  | cons c s ih => simp only [List.takeWhile_cons]; split <;> simp; omega
end Go.Proofs.YtmbgnaoilncbnaaGreat
namespace Go.Proofs.YtmbgnaoilncbnaaGreat
open Go.AM
set_option maxRecDepth 4000
theorem or32 (c : UInt8) : bitsO .or .u8 (c.toNat : Int) 32 = ((c.toNat ||| 32 : Nat) : Int) := by
  rw [bitsO_eq]
  have h : ∀ n : Fin 256, bitsK .or .u8 (n.val : Int) 32 = ((n.val ||| 32 : Nat) : Int) := by decide +kernel
  exact h ⟨c.toNat, c.toNat_lt⟩
theorem or32_letter (c : UInt8) : (decide (97 ≤ c.toNat ||| 32) && decide (c.toNat ||| 32 ≤ 122) || decide (c.toNat = 95)) = letterB c := by
  have h : ∀ n : Fin 256, (decide (97 ≤ n.val ||| 32) && decide (n.val ||| 32 ≤ 122) || decide (n.val = 95)) = ((decide (97 ≤ n.val) && decide (n.val ≤ 122)) || (decide (65 ≤ n.val) && decide (n.val ≤ 90)) || decide (n.val = 95)) := by decide +kernel
  exact h ⟨c.toNat, c.toNat_lt⟩
theorem lex_letter (c : UInt8) : CallF Tryz.prog n_lex_letter [.int .u8 c.toNat] (.bool (letterB c)) := by
  rw [← or32_letter]
  refine CallF.of_nil (of_lex_letter (by simp) ?_) rfl
  unfold b_lex_letter WpR
  intro Q hQr hQn hQp
  repeat' first | refine go_ ?_ | refine br_ (fun hw => ?_) (fun hw => ?_) <;> try omega | fail
  all_goals refine leafE ?_ rfl
  all_goals (rw [or32] at *; (refine congrArg AV.bool ?_; rw [Bool.eq_iff_iff]; simp only [or32, Bool.and_eq_true, Bool.or_eq_true, decide_eq_true_eq, beq_iff_eq, Bool.not_eq_true', decide_eq_false_iff_not, beq_eq_false_iff_ne, ne_eq, true_iff, false_iff, iff_true, iff_false, Bool.false_eq_true, Bool.true_eq_false, not_and, not_or] at *; omega))
theorem lex_digit (c : UInt8) : CallF Tryz.prog n_lex_digit [.int .u8 c.toNat] (.bool (digitB c)) := by
  refine CallF.of_nil (of_lex_digit (by simp) ?_) rfl
  unfold b_lex_digit WpR
  intro Q hQr hQn hQp
  repeat' first | refine go_ ?_ | refine br_ (fun hw => ?_) (fun hw => ?_) <;> try omega | fail
  all_goals refine leafE ?_ rfl
  all_goals (refine congrArg AV.bool ?_; rw [Bool.eq_iff_iff]; simp only [digitB, Bool.and_eq_true, Bool.or_eq_true, decide_eq_true_eq, beq_iff_eq, Bool.not_eq_true', decide_eq_false_iff_not, beq_eq_false_iff_ne, ne_eq, true_iff, false_iff, iff_true, iff_false, Bool.false_eq_true, Bool.true_eq_false, not_and, not_or] at *; omega)
theorem takeWhile_at {p : UInt8 → Bool} {s : Str} {i : Nat} (hi : i < s.length) : ((s.drop i).takeWhile p).length = if p (s.getD i 0) then 1 + ((s.drop (i + 1)).takeWhile p).length else 0 := by
  rw [List.drop_eq_getElem_cons hi, List.takeWhile_cons, List.getD_eq_getElem?_getD, List.getElem?_eq_getElem hi]
  simp only [Option.getD_some]
  split <;> simp; omega
theorem lex_run (fn : FuncId) (cap : List AV) (hcap : AV.purL cap = true) (p : UInt8 → Bool) (h : ∀ c : UInt8, CallF Tryz.prog fn (.int .u8 c.toNat :: cap) (.bool (p c))) (s : Str) (hs : s.length ≤ 2 ^ 62) :
    CallF Tryz.prog n_lex_run [.str s, .fn (.func fn) [] cap] (I (s.takeWhile p).length) := by
  refine CallF.of_nil (of_lex_run (by simp) ?_) (by simp [AV.pur, AV.purL, hcap])
  unfold b_lex_run WpR
  intro Q hQr hQn hQp
  repeat' first | refine go_ ?_ | refine br_ (fun hw => ?_) (fun hw => ?_) <;> try omega | fail
  with_reducible refine loop_i [4, 5, 8, 9, 10, 11, 12, 13, 14, 15, 16, 17, 18] (fun i : Nat => [(8, I i)]) (fun _ => []) (fun i => i ≤ s.length ∧ (s.takeWhile p).length = i + ((s.drop i).takeWhile p).length) (fun i => s.length - i) (0) ?_ ?_ ?_ ?_
  · simp
  · rfl
  · exact at_
  · rintro i r ⟨hi, hp⟩
    repeat' first | refine go_ ?_ | refine cf_ (h _) ?_ | refine br_ (fun hw => ?_) (fun hw => ?_) <;> try omega | fail
    · rw [takeWhile_at (by omega)] at hp
      rw [hw] at hp
      exact leafE (by simp at hp; simp [hp]) rfl
    · rw [takeWhile_at (by omega)] at hp
      rw [hw] at hp
      refine ⟨i + 1, ?_, ?_, by first | rfl | (simp [go_sem]; done), ou_, at_⟩ <;> (try dsimp only)
      · simp at hp; exact ⟨by omega, by omega⟩
      · omega
    · have : i = s.length := by omega
      subst this
      exact leafE (by simp at hp; simp [hp]) rfl
theorem lex_word_1 (c : UInt8) : CallF Tryz.prog n_lex_word_1 [.int .u8 c.toNat] (.bool (wordB c)) := by
  refine CallF.of_nil (of_lex_word_1 (by simp) ?_) rfl
  unfold b_lex_word_1 WpR
  intro Q hQr hQn hQp
  repeat' first | refine go_ ?_ | refine cf_ (lex_letter _) ?_ | refine cf_ (lex_digit _) ?_ | refine br_ (fun hw => ?_) (fun hw => ?_) <;> try omega | fail
  all_goals refine leafE ?_ rfl
  all_goals simp_all [wordB]
theorem lex_word (s : Str) (hs : s.length ≤ 2 ^ 62) : CallF Tryz.prog n_lex_word [.str s] (I (wordN s)) := by
  refine CallF.of_nil (of_lex_word (by simp) ?_) rfl
  unfold b_lex_word WpR
  intro Q hQr hQn hQp
  cases s with
  | nil =>
    repeat' first | refine go_ ?_ | refine br_ (fun hw => ?_) (fun hw => ?_) <;> try omega | fail
    all_goals (refine leafE ?_ ?_ <;> rfl)
  | cons c r =>
    repeat' first | refine go_ ?_ | refine cf_ (lex_letter _) ?_ | refine cf_ (lex_run _ _ rfl wordB lex_word_1 _ hs) ?_ | refine br_ (fun hw => ?_) (fun hw => ?_) <;> try omega | fail
    all_goals refine leafE ?_ rfl
    all_goals simp_all [wordN]
theorem takeWhile_getD {p : UInt8 → Bool} {s : Str} {i : Nat} (hi : i < (s.takeWhile p).length) : s.getD i 0 = (s.takeWhile p).getD i 0 ∧ p (s.getD i 0) = true := by
  induction s generalizing i with
  | nil => simp at hi
  | cons c r ih =>
    simp only [List.takeWhile_cons] at hi ⊢
    split at hi
    · rename_i hc
      simp only [hc, if_true]
      cases i with
      | zero => simp [hc]
      | succ i => simpa using ih (by simpa using hi)
    · simp at hi
theorem drop_at0 {l : Str} {i : Nat} (h : i < l.length) : l.drop i = l.getD i 0 :: l.drop (i + 1) := by
  rw [List.drop_eq_getElem_cons h, List.getD_eq_getElem?_getD, List.getElem?_eq_getElem h]; rfl
abbrev eBytes (s : Str) : List AV := s.map fun b => AV.int .u8 b.toNat
end Go.Proofs.YtmbgnaoilncbnaaGreat
namespace Go.Proofs.YtmbgnaoilncbnaaGreat
open Go.AM
set_option maxRecDepth 4000
theorem internal_HasPrefix (s p : Str) : CallF Tryz.prog n_internal_stringslite_HasPrefix [.str s, .str p] (.bool (p.isPrefixOf s)) := by
  refine CallF.of_nil (of_internal_stringslite_HasPrefix (by simp) ?_) rfl
  unfold b_internal_stringslite_HasPrefix WpR
  intro Q hQr hQn hQp
  repeat' first | refine go_ ?_ | refine br_ (fun hw => ?_) (fun hw => ?_) <;> try omega | fail
  all_goals refine leafE ?_ rfl
  all_goals refine congrArg AV.bool ?_
  · rw [Bool.eq_iff_iff, beq_iff_eq, List.isPrefixOf_iff_prefix, List.prefix_iff_eq_take]; exact eq_comm
  · symm; rw [Bool.eq_false_iff]; intro h
    have := (List.isPrefixOf_iff_prefix.1 h).length_le
    omega
def idxF {α : Type} (p : α → Bool) (l : List α) : Int := match l.findIdx? p with
  | some i => i
  | none => -1
theorem idxF_none {α : Type} [Inhabited α] {p : α → Bool} {l : List α} (h : ∀ k, k < l.length → p (l.getD k default) = false) : idxF p l = -1 := by
  have : l.findIdx? p = none := by
    rw [List.findIdx?_eq_none_iff]
    intro x hx
    obtain ⟨k, hk, rfl⟩ := List.getElem_of_mem hx
    have := h k hk
    rwa [List.getD_eq_getElem?_getD, List.getElem?_eq_getElem hk] at this
  simp [idxF, this]
theorem idxF_at {α : Type} [Inhabited α] {p : α → Bool} {l : List α} {i : Nat} (hi : i < l.length) (h : ∀ k, k < i → p (l.getD k default) = false) (hp : p (l.getD i default) = true) : idxF p l = i := by
  have : l.findIdx? p = some i := by
    rw [List.findIdx?_eq_some_iff_getElem]
    refine ⟨hi, ?_, fun j hj => ?_⟩
    · rwa [List.getD_eq_getElem?_getD, List.getElem?_eq_getElem hi] at hp
    · have := h j hj
      rw [List.getD_eq_getElem?_getD, List.getElem?_eq_getElem (by omega)] at this
      simpa using this
  simp [idxF, this]
theorem find_idx {α : Type} [Inhabited α] (p : α → Bool) : ∀ l : List α, (idxF p l = -1 ∧ l.find? p = none) ∨ ∃ i : Nat, i < l.length ∧ idxF p l = i ∧ l.find? p = some (l.getD i default)
  | [] => .inl ⟨rfl, rfl⟩
  | x :: l => by
    by_cases hp : p x = true
    · exact .inr ⟨0, by simp, by simp [idxF, List.findIdx?_cons, hp], by simp [hp]⟩
    · rcases find_idx p l with ⟨h1, h2⟩ | ⟨i, h1, h2, h3⟩
      · left
        simp only [idxF] at h1
        refine ⟨?_, by simp [hp, h2]⟩
        cases h : l.findIdx? p with
        | none => simp [idxF, List.findIdx?_cons, hp, h]
        | some k => rw [h] at h1; simp at h1
      · right
        refine ⟨i + 1, by simp; omega, ?_, by simp [hp, h3]⟩
        simp only [idxF] at h2
        cases h : l.findIdx? p with
        | none => rw [h] at h2; simp at h2
        | some k => rw [h] at h2; simp at h2; simp [idxF, List.findIdx?_cons, hp, h]; omega
theorem lex_reserved (s : Str) : CallF Tryz.prog n_lex_reserved [.str s] (.bool (reservedS s)) := by
  refine CallF.of_nil (of_lex_reserved (by simp) ?_) rfl
  unfold b_lex_reserved WpR
  intro Q hQr hQn hQp
  repeat' first | refine go_ ?_ | refine br_ (fun hw => ?_) (fun hw => ?_) <;> try omega | fail
  all_goals refine leafE ?_ rfl
  all_goals (refine congrArg AV.bool ?_; simp_all [reservedS, reservedL])
theorem lex_Name (s : Str) (hs : s.length ≤ 2 ^ 62) : CallF Tryz.prog n_lex_Name [.str s] (.bool (nameS s)) := by
  refine CallF.of_nil (of_lex_Name (by simp) ?_) rfl
  unfold b_lex_Name WpR
  intro Q hQr hQn hQp
  repeat' first | refine go_ ?_ | refine cf_ (lex_word _ hs) ?_ | refine cf_ (lex_reserved _) ?_ | refine br_ (fun hw => ?_) (fun hw => ?_) <;> try omega | fail
  all_goals refine leafE ?_ rfl
  all_goals (refine congrArg AV.bool ?_; simp [nameS]; try simp_all; try omega)
end Go.Proofs.YtmbgnaoilncbnaaGreat
namespace Go.Proofs.YtmbgnaoilncbnaaGreat
open Go.AM
set_option maxRecDepth 4000
end Go.Proofs.YtmbgnaoilncbnaaGreat
