/- Abstract code of functions of the program, by a program. -/
import Derived.Test.YtkimohopfhgcjaaAEval3
import Derived.Test.YtkimohopfhgcjaaChecked
import Derived.KernelRfl
namespace Go.Proofs.Ytkimohopfhgcjaa
open Go.AM
set_option maxRecDepth 10000
abbrev n_law11_ChunkEdits : FuncId := 3
abbrev n_law11_ChunkJoins : FuncId := 4
abbrev n_law11_ChunkWhole : FuncId := 5
abbrev n_law11_lives : FuncId := 6
abbrev n_chunk_Edits : FuncId := 7
abbrev n_ref11_Edits : FuncId := 8
abbrev n_chunk_Clear : FuncId := 9
abbrev n_ref11_Clear : FuncId := 10
abbrev n_ref11_SameEdits : FuncId := 11
abbrev n_chunk_Count : FuncId := 12
abbrev n_ref11_Count : FuncId := 13
abbrev n_law11_short : FuncId := 14
abbrev n_chunk_Join : FuncId := 15
abbrev n_ref11_Join : FuncId := 16
abbrev n_chunk_chunks : FuncId := 17
abbrev n_ref11_pairs : FuncId := 18
abbrev n_chunk_right : FuncId := 19
abbrev n_ref11_right : FuncId := 20
abbrev n_strings_Builder_Len : FuncId := 21
abbrev n_strings_Builder_WriteString : FuncId := 22
abbrev n_strings_Builder_String : FuncId := 23
abbrev n_chunk_chunks_1 : FuncId := 24
abbrev n_octet_Fixed : FuncId := 25
abbrev n_ref01_Fixed : FuncId := 26
abbrev n_strings_Builder_copyCheck : FuncId := 27
end Go.Proofs.Ytkimohopfhgcjaa
