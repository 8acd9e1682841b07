/- LGen: what the laws of tones stand on (the drawn numbers in parts). -/
import Derived.Test.YthonhgainmokhacGreatDoorLG0
import Derived.Test.YthonhgainmokhacGreatDoorLG1
