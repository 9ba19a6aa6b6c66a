/-
  The contracts, by hand, of the functions that the printer doesn't take: lock.find, lock.Check, slices.Clone, lock.Take, lock.Free.
-/
import Derived.Test.YtoncnjnicgfhmabQFree
