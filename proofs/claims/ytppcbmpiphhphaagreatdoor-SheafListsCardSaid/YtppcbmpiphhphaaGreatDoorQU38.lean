import Derived.Test.YtppcbmpiphhphaaGreatDoorQU31
import Derived.Test.YtppcbmpiphhphaaGreatDoorQU32
import Derived.Test.YtppcbmpiphhphaaGreatDoorQU36
namespace Go.Proofs.YtppcbmpiphhphaaGreatDoor
open Go Pm
set_option linter.unusedSimpArgs false
set_option linter.unusedVariables false
set_option maxHeartbeats 4000000
set_option maxRecDepth 100000
theorem at_size (a b c : Int) (ha : in9 a) (hb : in9 b) (hc : in9 c) : (atS a b c).size ≤ 15 := by
  have h := join_le 4 [numB a, numB b, numB c] fun s hs => by
    simp only [List.mem_cons, List.not_mem_nil, or_false] at hs
    rcases hs with rfl | rfl | rfl
    · exact numB_size ha.1 ha.2
    · exact numB_size hb.1 hb.2
    · exact numB_size hc.1 hc.2
  unfold atS
  rw [join_size]
  simpa using h
open Go Pm
set_option maxHeartbeats 4000000
set_option maxRecDepth 100000
end Go.Proofs.YtppcbmpiphhphaaGreatDoor
