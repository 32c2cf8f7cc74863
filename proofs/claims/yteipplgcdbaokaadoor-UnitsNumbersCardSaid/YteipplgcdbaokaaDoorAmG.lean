/- What is known of package variables: which blocks hold which cells. -/
import Derived.WalkKit
import Derived.Below
namespace Go.Proofs.YteipplgcdbaokaaDoor.AM
open Go Go.RowKit
def GOkOf (l : List (Nat × List Value)) (N : Nat) (w : World) : Prop := ∀ p ∈ l, p.1 < N ∧ ∃ e fz, w.heap[p.1]? = some (.cells p.2.toArray e fz)
theorem GOkOf.nil (N : Nat) (w : World) : GOkOf [] N w := fun _ h => by cases h
/-- the variables that this program's machine knows (none, where its row lists none) -/
def globs : List (Nat × List Value) := [(0, [1, 10, 100, 1000, 10000, 100000, 1000000, 10000000, 100000000, 1000000000, 10000000000, 100000000000, 1000000000000, 10000000000000, 100000000000000, 1000000000000000, 10000000000000000, 100000000000000000, 1000000000000000000, 10000000000000000000].map fun n => Value.int .u64 n)]
/-- types of which no rows are made: a block of such a type is one variable -/
def exacts : List TypeId := [66]
def exactT (e : TypeId) : Bool := exacts.contains e
def GOk (N : Nat) (w : World) : Prop := GOkOf globs N w
theorem GOk.below {N : Nat} {w0 w : World} (h : GOk N w0) (hb : Below N w0 w) (hn : N ≤ w.heap.size) : GOk w.heap.size w := fun p hp => by
  obtain ⟨h1, e, fz, h2⟩ := h p hp
  exact ⟨by omega, e, fz, (hb.block _ h1).trans h2⟩
end Go.Proofs.YteipplgcdbaokaaDoor.AM
