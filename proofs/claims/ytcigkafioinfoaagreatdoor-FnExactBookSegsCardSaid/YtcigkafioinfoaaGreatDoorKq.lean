/- Programs: lists of lines; whether they are ok; what they are turned into. Conditions: none. -/
import Derived.Test.YtcigkafioinfoaaGreatDoorKo
import Derived.Test.YtcigkafioinfoaaGreatDoorKx
set_option linter.unusedVariables false
set_option linter.unusedSimpArgs false
namespace Go.Proofs.YtcigkafioinfoaaGreatDoor
section
set_option maxRecDepth 100000
set_option maxHeartbeats 4000000
def pok (l : List Sl) : Bool := decide (1 ≤ l.length) && decide (l.length ≤ 16) && l.all sok
theorem adm_ {l : List Sl} (h : pok l = true) : 1 ≤ l.length ∧ l.length ≤ 16 ∧ ∀ k, k < l.length → sok (l.getD k S0) = true := by
 simp only [pok, T5_, T3_, List.all_eq_true] at h
 exact ⟨h.1.1, h.1.2, fun k hk => h.2 _ (bt_ hk)⟩
theorem acd_ {s : Sl} (h : sok s = true) : (emT s).length ≤ 120 := by
 unfold emT; rw [if_pos h]; exact (l2_ (tq_ h)).1
theorem akn_ (s : Sl) (h : sok s = true) (hs : gz_ s = true) : ACall En 87 [.ag (sC s)] [] [.s (emT s), .sl false (inR (emF s))] [] := by
 have := (aka_ s (d3_ h) hs).frz1 (rs' := [.s (emT s), .sl false (inR (emF s))]) (by simp [gq_, frz, ad_, T1_, emT, emF, h])
 exact this
end
end Go.Proofs.YtcigkafioinfoaaGreatDoor
