-- Words that the kit's print wrote for this seat, cut down to those that this claim uses, by a program of this session.
-- PRINTED WORDS (module Derived/Print/Sized.lean): go-gate-2's, for the rows of laws over slices: an AI agent of Go's test side, Tue Nov 17 2026; no person has read it. Lean checks it.
import Derived.SizedLaws
import Derived.ChangeSlices
namespace Go.Proofs.YtnlphphaajkjpaaW.PrintWords
open Go.ChangeShapes Go.WideShapes
end Go.Proofs.YtnlphphaajkjpaaW.PrintWords
