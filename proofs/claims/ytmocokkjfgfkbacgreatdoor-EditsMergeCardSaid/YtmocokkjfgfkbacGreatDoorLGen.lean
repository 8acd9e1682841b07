/- LGen: what the laws of tones stand on (the drawn numbers in parts). -/
import Derived.Test.YtmocokkjfgfkbacGreatDoorLG0
import Derived.Test.YtmocokkjfgfkbacGreatDoorLG1
