/- The contracts of the reference's random lists: l4List returns a new list of the ring numbers behind a seed and the last seed; NextRandom of the reference. Conditions: the seed is at most 2147483646 and not negative, at most 4096 numbers. -/
import Derived.Test.YtmilkkingeeblaaDoorShared
namespace Go.Proofs.YtmilkkingeeblaaDoor
open Go Go.RowKit

end Go.Proofs.YtmilkkingeeblaaDoor
