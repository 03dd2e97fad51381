/-
  A part of the proof that contangolaw.TapePrices returns true: what the last text needs, and no more. No condition: no statement of the seat is proved here.
-/
import Derived.Shelf.Strings.OnBuilder
import Derived.Shelf.LaysM
import Derived.Shelf.LaysC
import Derived.Shelf.Strconv.Itoa3
import Derived.Shelf.Strconv.AtoiAll
import Derived.Shelf.Strings.Cut
import Derived.Shelf.Strings.Prefix
import Derived.Shelf.Slices.Turned
import Derived.Test.YtplpcamcnppibaaGreatDoorProg
import Derived.Test.YtplpcamcnppibaaGreatDoorTapePricesG

