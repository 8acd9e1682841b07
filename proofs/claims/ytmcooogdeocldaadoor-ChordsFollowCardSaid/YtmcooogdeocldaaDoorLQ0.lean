/- LQ0: stands in. -/
import Derived.Test.YtmcooogdeocldaaDoorLH1
