/- umbrella -/
import Derived.Test.YtckeeefeiljamaaGreatDoorXJ
import Derived.Test.YtckeeefeiljamaaGreatDoorXU
