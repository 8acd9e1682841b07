/- LBs: what the laws of texts stand on (programs of concerts). -/
import Derived.Test.YtlhfimbpjdfdgabGreatDoorLC1
