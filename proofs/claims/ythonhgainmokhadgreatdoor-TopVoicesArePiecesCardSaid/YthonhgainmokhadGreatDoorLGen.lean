/- LGen: what the laws of tones stand on (the drawn numbers in parts). -/
import Derived.Test.YthonhgainmokhadGreatDoorLG0
import Derived.Test.YthonhgainmokhadGreatDoorLG1
