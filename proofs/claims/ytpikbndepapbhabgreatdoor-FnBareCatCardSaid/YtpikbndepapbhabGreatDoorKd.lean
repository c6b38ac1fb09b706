/- The program's reader of what is reckoned, as a plain function; it reads back what is written. Conditions: none. -/
import Derived.Test.YtpikbndepapbhabGreatDoorKc
import Derived.Test.YtpikbndepapbhabGreatDoorKb
set_option linter.unusedVariables false
set_option linter.unusedSimpArgs false
namespace Go.Proofs.YtpikbndepapbhabGreatDoor
section
def wAs : Str := [97, 115]
def eff (e : E) (must : Int) : Int := if e.kind = 3 ∧ ¬ bk_ e.s < must then bk_ e.s else 4
end
section
end
section
end
section
end
section
mutual
theorem jl_ : ∀ (e : E) (d k : Nat), form e d = true → form e ((d + k : Nat) : Int) = true ∧ many e ((d + k : Nat) : Int) = many e d
 | .mk kd n s kids, d, k, h => by
  have hd : 1 ≤ d := by have := (bd_ h).1; omega
  obtain ⟨d, rfl⟩ : ∃ d', d = d' + 1 := ⟨d - 1, by omega⟩
  have e1 : ((d + 1 : Nat) : Int) - 1 = (d : Int) := by omega
  have e2 : ((d + 1 + k : Nat) : Int) - 1 = ((d + k : Nat) : Int) := by omega
  simp only [form, T5_, T3_] at h ⊢
  rw [e1] at h
  have := ig_ kids d k h.2
  rw [e2]
  refine ⟨⟨⟨by omega, h.1.2⟩, this.1⟩, ?_⟩
  simp only [many]
  rw [if_pos (by omega), if_pos (by omega), e1, e2, this.2]
theorem ig_ : ∀ (l : List E) (d k : Nat), bz_ l d = true → bz_ l ((d + k : Nat) : Int) = true ∧ bx_ l ((d + k : Nat) : Int) = bx_ l d
 | [], d, k, _ => by simp [bz_, bx_]
 | e :: r, d, k, h => by
  simp only [bz_, T5_] at h ⊢
  have h1 := jl_ e d k h.1
  have h2 := ig_ r d k h.2
  simp only [bx_]
  exact ⟨⟨h1.1, h2.1⟩, by rw [h1.2, h2.2]⟩
end
def xy_ (w : Str) : Prop := w ≠ wAs ∧ w ≠ [105, 110, 116] ∧ w ≠ [98, 111, 111, 108] ∧ w ≠ y3_ ∧ w ≠ yo_ ∧ w ≠ w1_
instance (w : Str) : Decidable (xy_ w) := by unfold xy_; exact inferInstance
end
section
def Trc (L : Wd) : Wd → Wd → Prop
 | [], [] => True
 | w :: B, c :: C => c.1 = w.1 ∧ ((w.2 = -1 ∧ c.2 = -1) ∨ (0 ≤ w.2 ∧ 0 ≤ c.2 ∧ L[c.2.toNat]? = some w)) ∧ Trc L B C
 | _, _ => False
theorem Trc.app {L : Wd} : ∀ {B C B' C' : Wd}, Trc L B C → Trc L B' C' → Trc L (B ++ B') (C ++ C')
 | [], [], _, _, _, h => h
 | [], _ :: _, _, _, h, _ => by simp [Trc] at h
 | _ :: _, [], _, _, h, _ => by simp [Trc] at h
 | w :: B, c :: C, B', C', h, k => by
  simp only [Trc] at h
  simp only [List.cons_append, Trc]
  exact ⟨h.1, h.2.1, h.2.2.app k⟩
theorem Trc.right {L Q : Wd} : ∀ {B C : Wd}, Trc L B C → Trc (L ++ Q) B C
 | [], [], _ => by simp [Trc]
 | [], _ :: _, h => by simp [Trc] at h
 | _ :: _, [], h => by simp [Trc] at h
 | w :: B, c :: C, h => by
  simp only [Trc] at h ⊢
  refine ⟨h.1, ?_, h.2.2.right⟩
  rcases h.2.1 with h1 | ⟨h1, h2, h3⟩
  ·exact .inl h1
  ·exact .inr ⟨h1, h2, by rw [List.getElem?_append_left (List.getElem?_eq_some_iff.1 h3).1]; exact h3⟩
theorem Trc.brk {L B C : Wd} (b : Bool) (h : Trc L B C) : Trc L (Go.Proofs.YtpikbndepapbhabGreatDoor.brk b B) (Go.Proofs.YtpikbndepapbhabGreatDoor.brk b C) := by
 cases b with
 | false => exact h
 | true =>
  simp only [Go.Proofs.YtpikbndepapbhabGreatDoor.brk, if_true, Trc]
  refine ⟨trivial, .inl ⟨trivial, trivial⟩, h.app ?_⟩
  simp [Trc]
theorem Trc.fst {L : Wd} : ∀ {B C : Wd}, Trc L B C → C.map (·.1) = B.map (·.1)
 | [], [], _ => rfl
 | [], _ :: _, h => by simp [Trc] at h
 | _ :: _, [], h => by simp [Trc] at h
 | w :: B, c :: C, h => by
  simp only [Trc] at h
  simp only [List.map_cons, h.1, h.2.2.fst]
theorem Trc.lt {L : Wd} : ∀ {B C : Wd}, Trc L B C → ∀ p ∈ C, -1 ≤ p.2 ∧ p.2 < (L.length : Int)
 | [], [], _ => by simp
 | [], _ :: _, h => by simp [Trc] at h
 | _ :: _, [], h => by simp [Trc] at h
 | w :: B, c :: C, h => by
  simp only [Trc] at h
  intro p hp
  rcases List.mem_cons.1 hp with rfl | hp
  ·rcases h.2.1 with ⟨_, h2⟩ | ⟨_, h2, h3⟩
   ·omega
   ·have := (List.getElem?_eq_some_iff.1 h3).1; omega
  ·exact h.2.2.lt p hp
theorem Trc.len {L : Wd} {B C : Wd} (h : Trc L B C) : C.length = B.length := by
 have := congrArg List.length h.fst; simpa using this
end
end Go.Proofs.YtpikbndepapbhabGreatDoor
