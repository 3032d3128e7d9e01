/- The package-level variables that the seat's rows list: here none. -/
import Derived.Calls
namespace Go.AM
def Globs : List Nat := []
def GlobOk (_ : World) : Prop := True
theorem GlobOk.of_heap {w w' : World} (_ : GlobOk w) (_ : ∀ b ∈ Globs, w'.heap[b]? = w.heap[b]?) : GlobOk w' := trivial
end Go.AM
