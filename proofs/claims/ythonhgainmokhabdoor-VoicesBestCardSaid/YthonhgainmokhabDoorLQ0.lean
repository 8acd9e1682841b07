/- LQ0: stands in. -/
import Derived.Test.YthonhgainmokhabDoorLH1
