/- LQ0: stands in. -/
import Derived.Test.YtmocokkjfgfkbabDoorLH1
