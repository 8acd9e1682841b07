/- LGen: what the laws of tones stand on (the drawn numbers in parts). -/
import Derived.Test.YtmocokkjfgfkbadGreatDoorLG0
import Derived.Test.YtmocokkjfgfkbadGreatDoorLG1
