/- LGen: what the laws of tones stand on (the drawn numbers in parts). -/
import Derived.Test.YtlkpfhdlfapfhacGreatDoorLG0
import Derived.Test.YtlkpfhdlfapfhacGreatDoorLG1
