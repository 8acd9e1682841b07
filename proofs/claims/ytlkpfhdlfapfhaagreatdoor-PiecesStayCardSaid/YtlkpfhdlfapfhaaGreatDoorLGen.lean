/- LGen: what the laws of tones stand on (the drawn numbers in parts). -/
import Derived.Test.YtlkpfhdlfapfhaaGreatDoorLG0
import Derived.Test.YtlkpfhdlfapfhaaGreatDoorLG1
