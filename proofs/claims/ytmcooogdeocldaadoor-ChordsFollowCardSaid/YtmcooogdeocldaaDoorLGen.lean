/- LGen: what the laws of tones stand on (the drawn numbers in parts). -/
import Derived.Test.YtmcooogdeocldaaDoorLG0
import Derived.Test.YtmcooogdeocldaaDoorLG1
