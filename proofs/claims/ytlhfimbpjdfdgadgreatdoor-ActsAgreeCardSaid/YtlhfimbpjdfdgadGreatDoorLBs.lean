/- LBs: what the laws of texts stand on (keys). -/
import Derived.Test.YtlhfimbpjdfdgadGreatDoorLKr
