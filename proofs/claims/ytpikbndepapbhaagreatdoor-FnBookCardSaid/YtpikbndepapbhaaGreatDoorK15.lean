/- Books, changed: plainly. Conditions: none. -/
import Derived.Test.YtpikbndepapbhaaGreatDoorK12
import Derived.Test.YtpikbndepapbhaaGreatDoorKu
import Derived.Test.YtpikbndepapbhaaGreatDoorKo
import Derived.Test.YtpikbndepapbhaaGreatDoorKq
set_option linter.unusedVariables false
set_option linter.unusedSimpArgs false
namespace Go.Proofs.YtpikbndepapbhaaGreatDoor
section
set_option maxRecDepth 100000
def cd_ (l : List Pg) (a : Int) (d : Nat) (ls : List Str) : Bool :=
 d0_ l && (decide (0 ≤ a) && decide (a ≤ (l.length : Int) - d)) && ls.all fe_ && (decide (1 ≤ (l.length : Int) - d + ls.length) && decide ((l.length : Int) - d + ls.length ≤ 16))
def l7_ (l : List Pg) (a d : Nat) (ls : List Str) : List Pg := l.take a ++ ls.map d2_ ++ l.drop (a + d)
def chg (l : List Pg) (a : Int) (d : Nat) (ls : List Str) : List Pg := if cd_ l a d ls then l7_ l a.toNat d ls else []
theorem ex_ {l : List Pg} {a : Int} {d : Nat} {ls : List Str} (h : cd_ l a d ls = true) : d0_ l = true ∧ 0 ≤ a ∧ a ≤ (l.length : Int) - d ∧ (∀ s ∈ ls, fe_ s = true) ∧ 1 ≤ (l.length : Int) - d + ls.length ∧ (l.length : Int) - d + ls.length ≤ 16 := by
 simp only [cd_, T5_, T3_, List.all_eq_true] at h
 exact ⟨h.1.1.1, h.1.1.2.1, h.1.1.2.2, h.1.2, h.2.1, h.2.2⟩
theorem p2_ {l : List Pg} {a : Int} {d : Nat} {ls : List Str} (h1 : d0_ l = true) (h2 : 0 ≤ a) (h3 : a ≤ (l.length : Int) - d) (h4 : ∀ s ∈ ls, fe_ s = true) (h5 : 1 ≤ (l.length : Int) - d + ls.length) (h6 : (l.length : Int) - d + ls.length ≤ 16) : cd_ l a d ls = true := by
 simp only [cd_, T5_, T3_, List.all_eq_true]
 exact ⟨⟨⟨h1, h2, h3⟩, h4⟩, h5, h6⟩
theorem oy_ {l : List Pg} {a : Int} {d : Nat} {ls : List Str} (h : cd_ l a d ls = true) : chg l a d ls = l7_ l a.toNat d ls := by unfold chg; rw [if_pos h]
theorem oq_ {l : List Pg} {a : Int} {d : Nat} {ls : List Str} (h : cd_ l a d ls = false) : chg l a d ls = [] := by unfold chg; rw [h]; rfl
theorem pl_ {l : List Pg} {a d : Nat} {ls : List Str} (h : a + d ≤ l.length) : (l7_ l a d ls).length = l.length - d + ls.length := by
 unfold l7_; simp only [T2_, List.length_take, List.length_map, List.length_drop]; omega
theorem ait_ {l : List Pg} {a : Int} {d : Nat} {ls : List Str} (h : cd_ l a d ls = true) : (chg l a d ls).length = l.length - d + ls.length := by
 obtain ⟨_, h2, h3, _⟩ := ex_ h
 rw [oy_ h, pl_ (by omega)]
theorem adc_ {l : List Pg} {a d : Nat} {ls : List Str} (h : ∀ p ∈ l, pgB p) (hs : ∀ s ∈ ls, s.length ≤ 2000000) : ∀ p ∈ l7_ l a d ls, pgB p := fun p hp => by
 unfold l7_ at hp
 simp only [List.mem_append, List.mem_map] at hp
 rcases hp with (hp | ⟨s, h1, rfl⟩) | hp
 ·exact h p (List.mem_of_mem_take hp)
 ·exact w8_ (hs s h1)
 ·exact h p (List.mem_of_mem_drop hp)
theorem af6_ {l : List Pg} {a : Int} {d : Nat} {ls : List Str} (h : ∀ p ∈ l, pgB p) (hs : ∀ s ∈ ls, s.length ≤ 2000000) : ∀ p ∈ chg l a d ls, pgB p := fun p hp => by
 unfold chg at hp
 split at hp
 ·exact adc_ h hs p hp
 ·cases hp
theorem ge_ {l : List Pg} {a : Int} {w : Str} : cd_ l a 1 [w] = true ↔ d0_ l = true ∧ 0 ≤ a ∧ a < l.length ∧ fe_ w = true := by
 constructor
 ·intro h
  obtain ⟨h1, h2, h3, h4, h5, h6⟩ := ex_ h
  exact ⟨h1, h2, by omega, h4 w (by simp)⟩
 ·rintro ⟨h1, h2, h3, h4⟩
  have := ej_ h1
  exact p2_ h1 h2 (by omega) (by simpa using h4) (by simp; omega) (by simp; omega)
theorem jc_ {l : List Pg} {a : Int} {w : Str} : cd_ l a 0 [w] = true ↔ d0_ l = true ∧ 0 ≤ a ∧ a ≤ l.length ∧ fe_ w = true ∧ l.length < 16 := by
 constructor
 ·intro h
  obtain ⟨h1, h2, h3, h4, h5, h6⟩ := ex_ h
  simp at h6
  exact ⟨h1, h2, by omega, h4 w (by simp), by omega⟩
 ·rintro ⟨h1, h2, h3, h4, h5⟩
  have := ej_ h1
  exact p2_ h1 h2 (by omega) (by simpa using h4) (by simp; omega) (by simp; omega)
theorem hn_ {l : List Pg} {a : Int} : cd_ l a 1 [] = true ↔ d0_ l = true ∧ 0 ≤ a ∧ a < l.length ∧ 2 ≤ l.length := by
 constructor
 ·intro h
  obtain ⟨h1, h2, h3, h4, h5, h6⟩ := ex_ h
  simp at h5
  exact ⟨h1, h2, by omega, by omega⟩
 ·rintro ⟨h1, h2, h3, h4⟩
  have := ej_ h1
  exact p2_ h1 h2 (by omega) (fun s hs => by cases hs) (by simp; omega) (by simp; omega)
theorem yp_ {l : List Pg} {a : Int} {w : Str} (h : cd_ l a 1 [w] = true) : chg l a 1 [w] = l.set a.toNat (d2_ w) := by
 obtain ⟨_, h2, h3, _⟩ := ge_.1 h
 rw [oy_ h, List.set_eq_take_append_cons_drop, if_pos (by omega)]
 unfold l7_; simp
theorem ajf_ {l : List Pg} {a : Int} {w : Str} (h : cd_ l a 0 [w] = true) : chg l a 0 [w] = l.take a.toNat ++ d2_ w :: l.drop a.toNat := by
 rw [oy_ h]; unfold l7_; simp
theorem aee_ {l : List Pg} {a : Int} (h : cd_ l a 1 [] = true) : chg l a 1 [] = l.take a.toNat ++ l.drop (a.toNat + 1) := by
 rw [oy_ h]; unfold l7_; simp
end
section
set_option maxRecDepth 100000
theorem ml_ {ls : List Str} (hL : ∀ w ∈ ls, fe_ w = true) (h1 : 1 ≤ ls.length) (h16 : ls.length ≤ 16) : fp_ (cf_ ls) = ls.map d2_ := by
 unfold fp_
 rw [nf_ (fun w hw => j7_ (hL w hw)) (ru_ h1) h16, if_pos h16]
theorem o8_ {l : List Pg} (h : d0_ l = true) : (l.map (·.line)).map d2_ = l := by
 rw [List.map_map]
 conv => rhs; rw [← List.map_id l]
 exact List.map_congr_left fun p hp => (jf_ (jd_ h p hp)).2.symm
theorem jl_ {l : List Pg} (h : d0_ l = true) : ∀ w ∈ l.map (·.line), fe_ w = true := fun w hw => by
 obtain ⟨p, hp, rfl⟩ := List.mem_map.1 hw
 exact (jf_ (jd_ h p hp)).1
theorem ado_ {l : List Pg} {a : Int} {w : Str} (h : cd_ l a 1 [w] = true) : fp_ (cf_ ((l.map (·.line)).set a.toNat w)) = chg l a 1 [w] := by
 obtain ⟨h1, h2, h3, h4⟩ := ge_.1 h
 have hb := ej_ h1
 rw [ml_ (fun x hx => ?_) (by simpa using hb.1) (by simpa using hb.2.1), yp_ h, List.map_set, o8_ h1]
 rcases List.mem_or_eq_of_mem_set hx with q | q
 ·exact jl_ h1 x q
 ·rw [q]; exact h4
theorem ai1_ {l : List Pg} {a : Int} {w : Str} (h : cd_ l a 0 [w] = true) : fp_ (cf_ (((l.map (·.line)).take a.toNat ++ [w]) ++ (l.map (·.line)).drop a.toNat)) = chg l a 0 [w] := by
 obtain ⟨h1, h2, h3, h4, h5⟩ := jc_.1 h
 have hb := ej_ h1
 rw [ml_ (fun x hx => ?_) (by simp; omega) (by simp; omega), ajf_ h, List.map_append, List.map_append, List.map_take, List.map_drop, o8_ h1]
 ·simp
 ·simp only [List.mem_append, List.mem_singleton] at hx
  rcases hx with (q | q) | q
  ·exact jl_ h1 x (List.mem_of_mem_take q)
  ·rw [q]; exact h4
  ·exact jl_ h1 x (List.mem_of_mem_drop q)
theorem af4_ {l : List Pg} {a : Int} (h : cd_ l a 1 [] = true) : fp_ (cf_ ((l.map (·.line)).take a.toNat ++ (l.map (·.line)).drop (a.toNat + 1))) = chg l a 1 [] := by
 obtain ⟨h1, h2, h3, h4⟩ := hn_.1 h
 have hb := ej_ h1
 rw [ml_ (fun x hx => ?_) (by simp; omega) (by simp; omega), aee_ h, List.map_append, List.map_take, List.map_drop, o8_ h1]
 simp only [List.mem_append] at hx
 rcases hx with q | q
 ·exact jl_ h1 x (List.mem_of_mem_take q)
 ·exact jl_ h1 x (List.mem_of_mem_drop q)
end
section
set_option maxRecDepth 100000
set_option maxHeartbeats 4000000
/-! books and programs, plainly -/
end
end Go.Proofs.YtpikbndepapbhaaGreatDoor
