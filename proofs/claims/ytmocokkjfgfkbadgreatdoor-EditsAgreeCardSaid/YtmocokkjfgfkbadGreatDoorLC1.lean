/- LC1: what the laws of tones stand on (keys). -/
import Derived.Test.YtmocokkjfgfkbadGreatDoorLKr
