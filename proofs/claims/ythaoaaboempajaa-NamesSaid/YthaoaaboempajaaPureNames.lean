/- The closed statement Names: the numbers of errors and limits of package api are those of the document; no conditions. -/
import Derived.Test.YthaoaaboempajaaPNamesx1
namespace Go.Proofs.Ythaoaaboempajaa.Pure
open Go.RowKit Go.Proofs.Ythaoaaboempajaa.PNames Go.Proofs.YthaoaaboempajaaW.PrintWords Go.Proofs.YthaoaaboempajaaW.PrintLast

/-- YOURS: ∃ k, relstorelaw_Names.f k  = some true
What it reaches (each with k first where it has rounds; `.mono`: more rounds tell the same; `.l0`, ..: its loops, with `.mono_l`): relstorelaw_num.f, relstorelaw_sizes.f, relstorelaw_Names.f -/
theorem Names : relstorelaw_Names.Pure := by
  exact ⟨4, by decide⟩

end Go.Proofs.Ythaoaaboempajaa.Pure
