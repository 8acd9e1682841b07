/- LQ1: programs of concerts: when items begin. In plain Lean, no program in sight. -/
import Derived.Test.YtlkpfhdlfapfhacGreatDoorLQ0
namespace Go.G
open Go Go.J
structure ItemOK (x:TItem):Prop where
 long1:1≤x.Long
 long2:x.Long≤86400000
 parts:x.Parts.length≤12
structure ProgOK (p:TProgram):Prop where
 len:p.Items.length≤60
 item:∀ (i:Nat) x,p.Items[i]? = some x→ItemOK x
 ch1:0≤p.Change
 ch2:p.Change≤86400000
 cl1:0≤p.Clap
 cl2:p.Clap≤86400000
 br1:0≤p.Break
 br2:p.Break≤86400000
 half1:-1≤p.Half
 half2:p.Half = -1∨p.Half+2≤p.Items.length
end Go.G
