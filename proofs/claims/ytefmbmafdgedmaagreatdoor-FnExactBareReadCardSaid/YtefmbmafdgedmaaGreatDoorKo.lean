/- What a line is turned into, the reference's: words with their places. Conditions: none. -/
import Derived.Test.YtefmbmafdgedmaaGreatDoorKl
import Derived.Test.YtefmbmafdgedmaaGreatDoorKx
import Derived.Test.YtefmbmafdgedmaaGreatDoorKn
import Derived.Test.YtefmbmafdgedmaaGreatDoorKd
import Derived.Test.YtefmbmafdgedmaaGreatDoorKi
import Derived.Test.YtefmbmafdgedmaaGreatDoorKb
set_option linter.unusedVariables false
set_option linter.unusedSimpArgs false
namespace Go.Proofs.YtefmbmafdgedmaaGreatDoor
section
set_option maxRecDepth 100000
set_option maxHeartbeats 4000000
end
section
set_option maxRecDepth 100000
set_option maxHeartbeats 4000000
end
section
set_option maxRecDepth 100000
set_option maxHeartbeats 4000000
def Ltr (L : Wd) : Wd → Wd → Prop
 | [], [] => True
 | w :: B, c :: C => c.1 = w.1 ∧ ((w.2 = -1 ∧ c.2 = -1 ∧ (w.1 = [40] ∨ w.1 = [41] ∨ w.1 = bi_)) ∨ (0 ≤ w.2 ∧ 0 ≤ c.2 ∧ ∃ u, L[c.2.toNat]? = some u ∧ u.2 = w.2 ∧ (u.1 = w.1 ∨ (u.1 = wl_ ∧ w.1 = cj_) ∨ (u.1 = ps_ ∧ w.1 = wIf)))) ∧ Ltr L B C
 | _, _ => False
theorem Ltr.app {L : Wd} : ∀ {B C B' C' : Wd}, Ltr L B C → Ltr L B' C' → Ltr L (B ++ B') (C ++ C')
 | [], [], _, _, _, h => h
 | [], _ :: _, _, _, h, _ => by simp [Ltr] at h
 | _ :: _, [], _, _, h, _ => by simp [Ltr] at h
 | w :: B, c :: C, B', C', h, k => by
  simp only [Ltr] at h
  simp only [List.cons_append, Ltr]
  exact ⟨h.1, h.2.1, h.2.2.app k⟩
theorem Ltr.right {L Q : Wd} : ∀ {B C : Wd}, Ltr L B C → Ltr (L ++ Q) B C
 | [], [], _ => by simp [Ltr]
 | [], _ :: _, h => by simp [Ltr] at h
 | _ :: _, [], h => by simp [Ltr] at h
 | w :: B, c :: C, h => by
  simp only [Ltr] at h ⊢
  refine ⟨h.1, ?_, h.2.2.right⟩
  rcases h.2.1 with h1 | ⟨h1, h2, u, h3, h4⟩
  ·exact .inl h1
  ·exact .inr ⟨h1, h2, u, by rw [List.getElem?_append_left (List.getElem?_eq_some_iff.1 h3).1]; exact h3, h4⟩
def ab9_ (l : Wd) : Prop := ∀ p ∈ l, p.2 = -1 → p.1 = [40] ∨ p.1 = [41]
theorem Ltr.of {L P : Wd} : ∀ {B C : Wd}, ab9_ B → Trc L B C → Ltr (P ++ L) B (shf P.length C)
 | [], [], _, _ => by simp [shf, Ltr]
 | [], _ :: _, _, h => by simp [Trc] at h
 | _ :: _, [], _, h => by simp [Trc] at h
 | w :: B, c :: C, hb, h => by
  simp only [Trc] at h
  have ih := Ltr.of (P := P) (fun p hp => hb p (List.mem_cons_of_mem _ hp)) h.2.2
  simp only [shf, List.map_cons, Ltr] at ih ⊢
  rcases h.2.1 with ⟨h1, h2⟩ | ⟨h1, h2, h3⟩
  ·rw [if_neg (by omega)]
   refine ⟨h.1, .inl ⟨h1, h2, ?_⟩, ih⟩
   rcases hb w List.mem_cons_self h1 with q | q
   ·exact .inl q
   ·exact .inr (.inl q)
  ·rw [if_pos h2]
   refine ⟨h.1, .inr ⟨h1, by dsimp only; omega, w, ?_, rfl, .inl rfl⟩, ih⟩
   dsimp only
   rw [show (c.2 + (P.length : Int)).toNat = P.length + c.2.toNat by omega, List.getElem?_append_right (by omega), Nat.add_sub_cancel_left]
   exact h3
theorem Ltr.len {L : Wd} : ∀ {B C : Wd}, Ltr L B C → C.length = B.length
 | [], [], _ => rfl
 | [], _ :: _, h => by simp [Ltr] at h
 | _ :: _, [], h => by simp [Ltr] at h
 | w :: B, c :: C, h => by
  simp only [Ltr] at h
  simp only [T7_, h.2.2.len]
theorem Ltr.get {L : Wd} : ∀ {B C : Wd}, Ltr L B C → ∀ {j : Nat} {w : Str × Int}, B[j]? = some w → ∃ c, C[j]? = some c ∧ c.1 = w.1 ∧ ((w.2 = -1 ∧ c.2 = -1 ∧ (w.1 = [40] ∨ w.1 = [41] ∨ w.1 = bi_)) ∨ (0 ≤ w.2 ∧ 0 ≤ c.2 ∧ ∃ u, L[c.2.toNat]? = some u ∧ u.2 = w.2 ∧ (u.1 = w.1 ∨ (u.1 = wl_ ∧ w.1 = cj_) ∨ (u.1 = ps_ ∧ w.1 = wIf))))
 | [], [], _, j, w, hw => by simp at hw
 | [], _ :: _, h, _, _, _ => by simp [Ltr] at h
 | _ :: _, [], h, _, _, _ => by simp [Ltr] at h
 | v :: B, c :: C, h, j, w, hw => by
  simp only [Ltr] at h
  cases j with
  | zero =>
   simp only [List.getElem?_cons_zero, Option.some.injEq] at hw; subst hw
   exact ⟨c, rfl, h.1, h.2.1⟩
  | succ j =>
   simp only [List.getElem?_cons_succ] at hw ⊢
   exact h.2.2.get hw
end
section
set_option maxRecDepth 100000
set_option maxHeartbeats 4000000
end
section
set_option maxRecDepth 100000
set_option maxHeartbeats 4000000
def colLe (X Y : Wd) : Prop := jn_ X ≤ jn_ Y ∧ ∀ i, 0 ≤ i → ((i ∈ X.map (·.2) ↔ i ∈ Y.map (·.2)) ∧ (i ∈ X.map (·.2) → ji_ 0 X i ≤ ji_ 0 Y i))
theorem colLe.refl (X : Wd) : colLe X X := ⟨Int.le_refl _, fun _ _ => ⟨Iff.rfl, fun _ => Int.le_refl _⟩⟩
theorem colLe.app {X X' Y Y' : Wd} (h : colLe X X') (k : colLe Y Y') : colLe (X ++ Y) (X' ++ Y') := by
 refine ⟨by rw [tj_, tj_]; have := h.1; have := k.1; omega, fun i hi => ?_⟩
 obtain ⟨h1, h2⟩ := h.2 i hi
 obtain ⟨k1, k2⟩ := k.2 i hi
 refine ⟨by simp only [List.map_append, List.mem_append, h1, k1], fun hm => ?_⟩
 rw [k2_, k2_]
 by_cases hx : i ∈ X.map (·.2)
 ·rw [if_pos hx, if_pos (h1.1 hx)]; exact h2 hx
 ·rw [if_neg hx, if_neg (fun q => hx (h1.2 q))]
  have hy : i ∈ Y.map (·.2) := by
   rw [List.map_append] at hm
   exact (List.mem_append.1 hm).resolve_left hx
  rw [lh_ i (jn_ X) Y 0 hy, lh_ i (jn_ X') Y' 0 (k1.1 hy)]
  have := k2 hy
  have := h.1
  omega
theorem colLe.none {Q : Wd} (h : ∀ p ∈ Q, p.2 = -1) : colLe [] Q := by
 refine ⟨by rw [sq_]; exact x6_ Q, fun i hi => ⟨⟨fun q => by simp at q, fun q => ?_⟩, fun q => by simp at q⟩⟩
 obtain ⟨p, hp, e⟩ := List.mem_map.1 q
 have := h p hp
 omega
end
end Go.Proofs.YtefmbmafdgedmaaGreatDoor
