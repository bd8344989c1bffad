/- Lists of texts that are exact, and written. -/
import Derived.Test.YtgienbcekgokiaaSp
import Derived.Test.YtgienbcekgokiaaPmX
namespace Go.Proofs.Ytgienbcekgokiaa
open Go Pm
set_option linter.unusedSimpArgs false
set_option linter.unusedVariables false
theorem ws_of {G G2 : Gh} {N : Nat} {w2 : World} {O2 : Nat → Prop} {l : List ByteArray} {y : Value} (h : R0 w2 O2 (strs N l) y) (hw0 : G2.w0.heap.size ≤ N)
    (q1 : ∀ w, G2.Zi w → G.Zi w ∧ ∀ b, b < w2.heap.size → ¬ O2 b → loose w2 w b)
    (q2 : ∀ w b o v x, N ≤ b → b < w2.heap.size → ¬ O2 b → w2.cell? ⟨b, o, none⟩ = some v → isS v = true → G2.Zi w → G2.Zi (w.setCell ⟨b, o, none⟩ (.string x)))
    (q3 : ∀ b, b < w2.heap.size → ¬ O2 b → G2.Of b) : WS G2 y := by
  cases h with
  | lst _ _ _ a n cap b o g hlo hn hc hl ha hs hz hr =>
    refine ⟨a, n, cap, rfl, by omega, fun hpos => ?_⟩
    have hne : l.map strE ≠ [] := by rintro h; rw [h] at hn; simp at hn; omega
    obtain ⟨e, hO, hlt⟩ := ha hne
    refine ⟨b, o, e, fun k hk => ?_⟩
    have hk' : k < l.length := by simpa [hn] using hk
    have hc1 := hs k [.v (.string l[k])] 0 _ (by simp [hk', strE]) rfl
    have hg := hr k [.v (.string l[k])] 0 _ (by simp [hk', strE]) rfl
    have eg : g k 0 = .string l[k] := by
      revert hg; generalize g k 0 = z; intro hg; cases hg; rfl
    rw [eg, show o + (k * 1 + 0) = o + k by omega] at hc1
    refine ⟨q3 b hlt hO, Nat.le_trans hw0 (hlo hne), fun w hw => ?_, fun w x hw => q2 w b (o + k) _ x (hlo hne) hlt hO hc1.1 rfl hw⟩
    obtain ⟨v', h1, h2⟩ := ((q1 w hw).2 b hlt hO).cell hc1
    refine ⟨v', h1.1, h1.2 ?_⟩
    rcases h2 with rfl | ⟨_, h2⟩
    · rfl
    · cases v' <;> first | rfl | cases h2
theorem hi_strs (N : Nat) (l : List ByteArray) : Hi N (strs N l) := .map (Nat.le_refl _) fun x j u h => by
  match j with
  | 0 => simp [strE] at h; subst h; exact .v _
  | j + 1 => simp [strE] at h
end Go.Proofs.Ytgienbcekgokiaa
