-- MERGED BY A PROGRAM out of texts of this claim: hand work, and what a (turned) print of the kit has written for it
import Derived.IntWalk
import Derived.Outline
import Derived.Test.YtgmbbfmbimofoaaMk22
import Derived.Test.YtgmbbfmbimofoaaMk23
import Derived.Test.YtgmbbfmbimofoaaMk28
import Derived.Test.YtgmbbfmbimofoaaMk5
import Derived.Test.YtgmbbfmbimofoaaMk13
import Derived.Test.YtgmbbfmbimofoaaMk20

