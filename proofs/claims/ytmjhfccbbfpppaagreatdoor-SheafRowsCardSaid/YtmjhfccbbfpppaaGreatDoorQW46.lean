import Derived.Test.YtmjhfccbbfpppaaGreatDoorQW34
import Derived.Test.YtmjhfccbbfpppaaGreatDoorQW43
import Derived.Test.YtmjhfccbbfpppaaGreatDoorQW45
namespace Go.Proofs.YtmjhfccbbfpppaaGreatDoor
open Go Pm
set_option linter.unusedSimpArgs false
set_option linter.unusedVariables false
set_option maxHeartbeats 4000000
set_option maxRecDepth 100000
theorem e4w (t:List Ch) (l:List ByteArray):bdX (a8f t l).1:=by
 have h0:bdX X0:=⟨by simp [X0],by simp [X0],by simp [X0],by simp [X0]⟩
 unfold a8f
 split
 ·split
  ·rename_i hr
   split
   ·rename_i s hs
    split
    ·obtain ⟨hl1,hl2⟩:=a9j hr
     obtain ⟨b1,b2,b3,b4⟩:=b6g (l:=l) (k:=l.length) (Nat.le_refl _) (by rw [List.take_length];exact hs)
     exact ⟨b3,b4,by show s.rules.length≤_;omega,by show s.decs.length≤_;omega⟩
    ·exact h0
   ·exact h0
  ·exact h0
 ·exact h0
end Go.Proofs.YtmjhfccbbfpppaaGreatDoor
