/- Small plain lemmas of this session's own, for the printed walks. No conditions. -/
import Derived.WalkKit
namespace Go.Proofs.YthaoaaboempajaaX
theorem bq1 (t : Bool) (l : List UInt8) : (t == !l.isEmpty) = (!t != (l != [])) := by cases t <;> cases l <;> rfl
theorem bq1' (t : Bool) (l : List UInt8) : (!t == !l.isEmpty) = (t != (l != [])) := by cases t <;> cases l <;> rfl
theorem bq2 (a b : Bool) : (a == b) = (!a != b) := by cases a <;> cases b <;> rfl
theorem bq2' (a b : Bool) : (!a == b) = (a != b) := by cases a <;> cases b <;> rfl
end Go.Proofs.YthaoaaboempajaaX
