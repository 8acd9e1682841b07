/- LGen: what the laws of tones stand on (the drawn numbers in parts). -/
import Derived.Test.YthonhgainmokhabDoorLG0
import Derived.Test.YthonhgainmokhabDoorLG1
