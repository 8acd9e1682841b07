/- LGen: what the laws of tones stand on (the drawn numbers in parts). -/
import Derived.Test.YtmocokkjfgfkbabDoorLG0
import Derived.Test.YtmocokkjfgfkbabDoorLG1
