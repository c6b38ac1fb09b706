/- Parts of the proof, one after another: What programs say, as they are and turned into lines without types; what texts say, plainly. | What a text says: the program's BareAll. | What programs say: the program's ProgRun. Conditions: none. -/
import Derived.Test.YteihfmnmpdbkiaaGreatDoorKw
import Derived.Test.YteihfmnmpdbkiaaGreatDoorKr
import Derived.Test.YteihfmnmpdbkiaaGreatDoorKu
import Derived.Test.YteihfmnmpdbkiaaGreatDoorKq
set_option linter.unusedVariables false
set_option linter.unusedSimpArgs false
namespace Go.Proofs.YteihfmnmpdbkiaaGreatDoor
section
theorem pok_all {l : List Sl} (h : pok l = true) : l.all sok = true := by simp only [pok, Bool.and_eq_true] at h; exact h.2
theorem emT_btext {s : Sl} (h : sok s = true) : emT s = btext (bof s) := by unfold emT btext; rw [if_pos h]
theorem tLines_emText {l : List Sl} (h : pok l = true) : tLines (emText l) = l.map emT := by
  have hb : ∀ s ∈ l, sok s = true := fun s hs => List.all_eq_true.1 (pok_all h) s hs
  have h0 := pok_open h
  unfold emText; rw [if_pos h]
  exact tLines_join (fun w hw => by obtain ⟨s, q, rfl⟩ := List.mem_map.1 hw; rw [emT_btext (hb s q)]; exact lnOk_btext (bok_bof (hb s q))) (by intro q; have := congrArg List.length q; rw [List.length_map] at this; simp only [List.length_nil] at this; omega) (by rw [List.length_map]; exact h0.2.1)
end

section
set_option maxRecDepth 100000
set_option maxHeartbeats 4000000
end

section
set_option maxRecDepth 100000
set_option maxHeartbeats 4000000
end
end Go.Proofs.YteihfmnmpdbkiaaGreatDoor
