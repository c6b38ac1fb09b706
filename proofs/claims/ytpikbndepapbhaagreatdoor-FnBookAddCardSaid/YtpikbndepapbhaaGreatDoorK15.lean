/- Books, changed: plainly. Conditions: none. -/
import Derived.Test.YtpikbndepapbhaaGreatDoorK12
import Derived.Test.YtpikbndepapbhaaGreatDoorKu
import Derived.Test.YtpikbndepapbhaaGreatDoorKo
import Derived.Test.YtpikbndepapbhaaGreatDoorKq
set_option linter.unusedVariables false
set_option linter.unusedSimpArgs false
namespace Go.Proofs.YtpikbndepapbhaaGreatDoor
section
set_option maxRecDepth 100000
def bv_ (l : List Pg) (a : Int) (d : Nat) (ls : List Str) : Bool :=
 cf_ l && (decide (0 ≤ a) && decide (a ≤ (l.length : Int) - d)) && ls.all d4_ && (decide (1 ≤ (l.length : Int) - d + ls.length) && decide ((l.length : Int) - d + ls.length ≤ 16))
def li_ (l : List Pg) (a d : Nat) (ls : List Str) : List Pg := l.take a ++ ls.map db_ ++ l.drop (a + d)
def chg (l : List Pg) (a : Int) (d : Nat) (ls : List Str) : List Pg := if bv_ l a d ls then li_ l a.toNat d ls else []
theorem acl_ {s : Str} (h : d4_ s = true) : (db_ s).line = s := by
 unfold db_; rw [if_pos h]; split <;> rfl
theorem agu_ {s : Str} (h : d4_ s = true) : okP (db_ s) = true := by
 unfold okP; rw [acl_ h, h]; simp
theorem aae_ {l : List Pg} (h1 : 1 ≤ l.length) (h2 : l.length ≤ 16) (h : ∀ p ∈ l, okP p = true) : cf_ l = true := by
 unfold cf_; rw [decide_eq_true h1, decide_eq_true h2, List.all_eq_true.2 h]; rfl
theorem ef_ {l : List Pg} {a : Int} {d : Nat} {ls : List Str} (h : bv_ l a d ls = true) : cf_ l = true ∧ 0 ≤ a ∧ a ≤ (l.length : Int) - d ∧ (∀ s ∈ ls, d4_ s = true) ∧ 1 ≤ (l.length : Int) - d + ls.length ∧ (l.length : Int) - d + ls.length ≤ 16 := by
 simp only [bv_, T5_, T3_, List.all_eq_true] at h
 exact ⟨h.1.1.1, h.1.1.2.1, h.1.1.2.2, h.1.2, h.2.1, h.2.2⟩
theorem qy_ {l : List Pg} {a : Int} {d : Nat} {ls : List Str} (h1 : cf_ l = true) (h2 : 0 ≤ a) (h3 : a ≤ (l.length : Int) - d) (h4 : ∀ s ∈ ls, d4_ s = true) (h5 : 1 ≤ (l.length : Int) - d + ls.length) (h6 : (l.length : Int) - d + ls.length ≤ 16) : bv_ l a d ls = true := by
 simp only [bv_, T5_, T3_, List.all_eq_true]
 exact ⟨⟨⟨h1, h2, h3⟩, h4⟩, h5, h6⟩
theorem n1_ {l : List Pg} {a : Int} {d : Nat} {ls : List Str} (h : bv_ l a d ls = true) : chg l a d ls = li_ l a.toNat d ls := by unfold chg; rw [if_pos h]
theorem q5_ {l : List Pg} {a : Int} {d : Nat} {ls : List Str} (h : bv_ l a d ls = false) : chg l a d ls = [] := by unfold chg; rw [h]; rfl
theorem ro_ {l : List Pg} {a d : Nat} {ls : List Str} (h : a + d ≤ l.length) : (li_ l a d ls).length = l.length - d + ls.length := by
 unfold li_; simp only [T2_, List.length_take, List.length_map, List.length_drop]; omega
theorem u6_ {l : List Pg} {a : Int} {d : Nat} {ls : List Str} (h : bv_ l a d ls = true) : (chg l a d ls).length = l.length - d + ls.length := by
 obtain ⟨_, h2, h3, _⟩ := ef_ h
 rw [n1_ h, ro_ (by omega)]
theorem ll_ {l : List Pg} {a : Int} {d : Nat} {ls : List Str} (h : bv_ l a d ls = true) : cf_ (chg l a d ls) = true := by
 obtain ⟨h1, h2, h3, h4, h5, h6⟩ := ef_ h
 have hl := u6_ h
 refine aae_ (by omega) (by omega) fun p hp => ?_
 rw [n1_ h] at hp
 unfold li_ at hp
 simp only [List.mem_append, List.mem_map] at hp
 rcases hp with (hp | ⟨s, hs, rfl⟩) | hp
 ·exact po_ h1 p (List.mem_of_mem_take hp)
 ·exact agu_ (h4 s hs)
 ·exact po_ h1 p (List.mem_of_mem_drop hp)
theorem ahw_ {l : List Pg} {a d : Nat} {ls : List Str} (h : ∀ p ∈ l, pgB p) (hs : ∀ s ∈ ls, s.length ≤ 2000000) : ∀ p ∈ li_ l a d ls, pgB p := fun p hp => by
 unfold li_ at hp
 simp only [List.mem_append, List.mem_map] at hp
 rcases hp with (hp | ⟨s, h1, rfl⟩) | hp
 ·exact h p (List.mem_of_mem_take hp)
 ·exact p6_ (hs s h1)
 ·exact h p (List.mem_of_mem_drop hp)
theorem jo_ {l : List Pg} {a : Int} {d : Nat} {ls : List Str} (h : ∀ p ∈ l, pgB p) (hs : ∀ s ∈ ls, s.length ≤ 2000000) : ∀ p ∈ chg l a d ls, pgB p := fun p hp => by
 unfold chg at hp
 split at hp
 ·exact ahw_ h hs p hp
 ·cases hp
theorem dl_ {l : List Pg} {a : Int} {w : Str} : bv_ l a 1 [w] = true ↔ cf_ l = true ∧ 0 ≤ a ∧ a < l.length ∧ d4_ w = true := by
 constructor
 ·intro h
  obtain ⟨h1, h2, h3, h4, h5, h6⟩ := ef_ h
  exact ⟨h1, h2, by omega, h4 w (by simp)⟩
 ·rintro ⟨h1, h2, h3, h4⟩
  have := cy_ h1
  exact qy_ h1 h2 (by omega) (by simpa using h4) (by simp; omega) (by simp; omega)
theorem gc_ {l : List Pg} {a : Int} {w : Str} : bv_ l a 0 [w] = true ↔ cf_ l = true ∧ 0 ≤ a ∧ a ≤ l.length ∧ d4_ w = true ∧ l.length < 16 := by
 constructor
 ·intro h
  obtain ⟨h1, h2, h3, h4, h5, h6⟩ := ef_ h
  simp at h6
  exact ⟨h1, h2, by omega, h4 w (by simp), by omega⟩
 ·rintro ⟨h1, h2, h3, h4, h5⟩
  have := cy_ h1
  exact qy_ h1 h2 (by omega) (by simpa using h4) (by simp; omega) (by simp; omega)
theorem ab2_ {l : List Pg} {a : Int} : bv_ l a 1 [] = true ↔ cf_ l = true ∧ 0 ≤ a ∧ a < l.length ∧ 2 ≤ l.length := by
 constructor
 ·intro h
  obtain ⟨h1, h2, h3, h4, h5, h6⟩ := ef_ h
  simp at h5
  exact ⟨h1, h2, by omega, by omega⟩
 ·rintro ⟨h1, h2, h3, h4⟩
  have := cy_ h1
  exact qy_ h1 h2 (by omega) (fun s hs => by cases hs) (by simp; omega) (by simp; omega)
theorem e2_ {l : List Pg} {a : Int} {w : Str} (h : bv_ l a 1 [w] = true) : chg l a 1 [w] = l.set a.toNat (db_ w) := by
 obtain ⟨_, h2, h3, _⟩ := dl_.1 h
 rw [n1_ h, List.set_eq_take_append_cons_drop, if_pos (by omega)]
 unfold li_; simp
theorem wt_ {l : List Pg} {a : Int} {w : Str} (h : bv_ l a 0 [w] = true) : chg l a 0 [w] = l.take a.toNat ++ db_ w :: l.drop a.toNat := by
 rw [n1_ h]; unfold li_; simp
theorem aia_ {l : List Pg} {a : Int} (h : bv_ l a 1 [] = true) : chg l a 1 [] = l.take a.toNat ++ l.drop (a.toNat + 1) := by
 rw [n1_ h]; unfold li_; simp
theorem ck_ {l : List Pg} {a : Int} {w : Str} (h : bv_ l a 1 [w] = true) : (chg l a 1 [w]).length = l.length := by rw [e2_ h, List.length_set]
theorem ae6_ {l r : List Pg} (h1 : l.length = r.length) (h : ∀ k, k < l.length → l.getD k Pg0 = r.getD k Pg0) : l = r := by
 refine List.ext_getElem h1 fun k q1 q2 => ?_
 have := h k q1
 simpa [T8_, T6_ q1, T6_ q2] using this
theorem wh_ {l : List Pg} {k j : Nat} {p : Pg} (hj : j < l.length) : (l.set k p).getD j Pg0 = if k = j then p else l.getD j Pg0 := by
 simp only [T8_, List.getElem?_set]
 split
 ·rename_i h; subst h; rw [if_pos hj]; rfl
 ·rfl
theorem xd_ {l : List Pg} {k : Nat} : l.set k (l.getD k Pg0) = l := by
 refine ae6_ (by simp) fun j hj => ?_
 rw [wh_ (by simpa using hj)]
 split
 ·rename_i h; rw [h]
 ·rfl
theorem mf_ {l x : List Pg} {k : Int} {o : Str} (h1 : cf_ l = true) (h2 : cf_ x = true) (hl : x.length = l.length) : bv_ x k 1 [o] = bv_ l k 1 [o] := by
 unfold bv_; rw [h1, h2, hl]
theorem add_ {l : List Pg} {a : Int} {w : Str} (h : bv_ l a 1 [w] = true) {i : Nat} (hi : i < l.length) (hn : (i : Int) ≠ a) : (chg l a 1 [w]).getD i Pg0 = l.getD i Pg0 := by
 rw [e2_ h, wh_ hi, if_neg]
 have := (dl_.1 h).2.1
 omega
theorem akb_ {l : List Pg} {a : Int} {w o : Str} (h : bv_ l a 1 [w] = true) (h2 : bv_ l a 1 [o] = true) : chg (chg l a 1 [w]) a 1 [o] = chg l a 1 [o] := by
 rw [e2_ (l := chg l a 1 [w]) (by rw [mf_ (dl_.1 h).1 (ll_ h) (ck_ h)]; exact h2), e2_ h2, e2_ h, List.set_set]
theorem aev_ {l : List Pg} {a k : Int} {w o : Str} (h : bv_ l a 1 [w] = true) (h2 : bv_ l k 1 [o] = true) (hn : k ≠ a) : bv_ (chg l k 1 [o]) a 1 [w] = true ∧ chg (chg l k 1 [o]) a 1 [w] = chg (chg l a 1 [w]) k 1 [o] := by
 have e1 : bv_ (chg l k 1 [o]) a 1 [w] = true := by rw [mf_ (dl_.1 h).1 (ll_ h2) (ck_ h2)]; exact h
 have e2 : bv_ (chg l a 1 [w]) k 1 [o] = true := by rw [mf_ (dl_.1 h).1 (ll_ h) (ck_ h)]; exact h2
 have := (dl_.1 h).2.1
 have := (dl_.1 h2).2.1
 refine ⟨e1, ?_⟩
 rw [e2_ e1, e2_ e2, e2_ h, e2_ h2, List.set_comm]
 omega
theorem y4_ {l : List Pg} {a : Int} {w : Str} (h : bv_ l a 0 [w] = true) : (chg l a 0 [w]).getD a.toNat Pg0 = db_ w := by
 obtain ⟨_, h2, h3, _⟩ := gc_.1 h
 rw [wt_ h, T8_, List.getElem?_append_right (by simp; omega)]
 simp only [List.length_take]
 rw [show a.toNat - min a.toNat l.length = 0 by omega]; rfl
theorem jx_ {l : List Pg} {a : Int} {w : Str} (h : bv_ l a 0 [w] = true) : (chg l a 0 [w]).length = l.length + 1 := by rw [u6_ h]; simp
theorem am8_ {l : List Pg} {a : Int} {w : Str} (h : bv_ l a 0 [w] = true) : bv_ (chg l a 0 [w]) a 1 [w] = true ∧ chg (chg l a 0 [w]) a 1 [w] = chg l a 0 [w] := by
 obtain ⟨h1, h2, h3, h4, h5⟩ := gc_.1 h
 have e : bv_ (chg l a 0 [w]) a 1 [w] = true := dl_.2 ⟨ll_ h, h2, by rw [jx_ h]; omega, h4⟩
 refine ⟨e, ?_⟩
 rw [e2_ e]
 conv => lhs; rw [← y4_ h]
 exact xd_
theorem ail_ {l : List Pg} {a : Int} {w : Str} (h : bv_ l a 0 [w] = true) : (chg l a 0 [w]).getD (a.toNat + 1) Pg0 = l.getD a.toNat Pg0 := by
 obtain ⟨_, h2, h3, _⟩ := gc_.1 h
 rw [wt_ h, T8_, List.getElem?_append_right (by simp; omega)]
 simp only [List.length_take]
 rw [show a.toNat + 1 - min a.toNat l.length = 1 by omega]; simp [T8_]
theorem aeb_ {l : List Pg} {a : Int} {w : Str} (h : bv_ l a 0 [w] = true) (h2 : bv_ (chg l a 0 [w]) a 0 [w] = true) : (chg (chg l a 0 [w]) a 0 [w]).getD a.toNat Pg0 = (chg (chg l a 0 [w]) a 0 [w]).getD (a.toNat + 1) Pg0 := by
 rw [y4_ h2, ail_ h2, y4_ h]
theorem alu_ {l : List Pg} {a : Int} {w : Str} (h : bv_ l a 0 [w] = true) : bv_ (chg l a 0 [w]) a 1 [] = true ∧ chg (chg l a 0 [w]) a 1 [] = l := by
 obtain ⟨h1, h2, h3, h4, h5⟩ := gc_.1 h
 have := (cy_ h1).1
 have e : bv_ (chg l a 0 [w]) a 1 [] = true := ab2_.2 ⟨ll_ h, h2, by rw [jx_ h]; omega, by rw [jx_ h]; omega⟩
 refine ⟨e, ?_⟩
 rw [aia_ e, wt_ h, List.take_append_of_le_length (by simp; omega), List.take_take, Nat.min_self, List.drop_append, List.drop_eq_nil_of_le (by simp; omega), List.length_take, show a.toNat + 1 - min a.toNat l.length = 1 by omega]
 simp
theorem ahf_ {l : List Pg} {a : Int} {w : Str} (h : bv_ l a 1 [w] = true) : bv_ (chg l a 1 [w]) a 1 [(l.getD a.toNat Pg0).line] = true ∧ chg (chg l a 1 [w]) a 1 [(l.getD a.toNat Pg0).line] = l := by
 obtain ⟨h1, h2, h3, h4⟩ := dl_.1 h
 obtain ⟨o1, o2⟩ := jz_ ((cy_ h1).2.2 a.toNat (by omega))
 have e : bv_ (chg l a 1 [w]) a 1 [(l.getD a.toNat Pg0).line] = true := dl_.2 ⟨ll_ h, h2, by rw [ck_ h]; omega, o1⟩
 refine ⟨e, ?_⟩
 rw [e2_ e, e2_ h, List.set_set, ← o2]
 exact xd_
end
section
set_option maxRecDepth 100000
theorem yz_ : ∀ {s : Str} {w : Int}, f8_ s w = true → w ≤ 120 → ∀ {x : Str} {r : List Str}, spl s = x :: r → (x.all prt = true ∧ w + x.length ≤ 120) ∧ ∀ y ∈ r, ye_ y
 | [], w, _, hw, x, r, e => by
  simp only [spl, List.cons.injEq] at e
  obtain ⟨rfl, rfl⟩ := e
  exact ⟨⟨rfl, by simpa using hw⟩, fun y hy => by cases hy⟩
 | c :: l, w, h, hw, x, r, e => by
  rw [f8_] at h
  cases hl : spl l with
  | nil => exact absurd hl (va_ l)
  | cons y t =>
   by_cases q : c = 10
   ·rw [if_pos q] at h
    subst q
    rw [afn_, hl] at e
    cases e
    obtain ⟨⟨a1, a2⟩, a3⟩ := yz_ h (by decide) hl
    refine ⟨⟨rfl, by simpa using hw⟩, fun z hz => ?_⟩
    rcases List.mem_cons.1 hz with rfl | hz
    ·exact ⟨a1, by omega⟩
    ·exact a3 z hz
   ·rw [if_neg q] at h
    simp only [T5_, T3_] at h
    rw [p1_ q hl] at e
    cases e
    obtain ⟨⟨a1, a2⟩, a3⟩ := yz_ h.2 h.1.2 hl
    refine ⟨⟨?_, by simp only [T7_]; omega⟩, a3⟩
    simp only [List.all_cons, a1, Bool.and_true, prt, T5_, T3_]
    exact h.1.1
theorem adm_ {s w : Str} (h : w ∈ c0_ s) : d4_ w = true := by
 unfold c0_ at h
 split at h
 ·rename_i q
  simp only [tOk, T5_] at q
  cases hl : spl s with
  | nil => exact absurd hl (va_ s)
  | cons x r =>
   obtain ⟨⟨a1, a2⟩, a3⟩ := yz_ q.1 (by decide) hl
   rw [hl] at h
   rcases List.mem_cons.1 h with rfl | h
   ·exact aai_ ⟨a1, by omega⟩
   ·exact aai_ (a3 _ h)
 ·cases h
theorem amz_ {ls : List Str} (hL : ∀ w ∈ ls, d4_ w = true) (h1 : 1 ≤ ls.length) (h16 : ls.length ≤ 16) : cf_ (ls.map db_) = true :=
 aae_ (by simpa using h1) (by simpa using h16) fun p hp => by
  obtain ⟨w, hw, rfl⟩ := List.mem_map.1 hp
  exact agu_ (hL w hw)
theorem acd_ {ls : List Str} (hL : ∀ w ∈ ls, d4_ w = true) (h1 : 1 ≤ ls.length) (h16 : ls.length ≤ 16) : fc_ (cw_ ls) = ls.map db_ := by
 unfold fc_
 rw [x0_ (fun w hw => th_ (hL w hw)) (ado_ h1) h16, if_pos h16]
theorem adf_ {w : Str} (h : d4_ w = true) : fc_ w = [db_ w] := by
 have := acd_ (ls := [w]) (by simpa using h) (by simp) (by simp)
 rw [n5_] at this; exact this
def f0_ (ls : List Str) (k : Nat) : List Pg := (ls.take k).map db_
theorem na_ {ls : List Str} {k : Nat} (h : k ≤ ls.length) : (f0_ ls k).length = k := by simp [f0_]; omega
theorem aaw_ {ls : List Str} (hL : ∀ w ∈ ls, d4_ w = true) (h16 : ls.length ≤ 16) {i : Nat} (h1 : 1 ≤ i) (hi : i ≤ ls.length) : cf_ (f0_ ls i) = true :=
 amz_ (fun w hw => hL w (List.mem_of_mem_take hw)) (by simp; omega) (by simp; omega)
theorem q3_ {ls : List Str} {i : Nat} (hi : i < ls.length) : f0_ ls (i + 1) = f0_ ls i ++ [db_ (ls.getD i [])] := by
 unfold f0_
 rw [List.take_add_one, T6_ hi, T8_, T6_ hi, List.map_append]; rfl
theorem aej_ {ls : List Str} (hL : ∀ w ∈ ls, d4_ w = true) (h16 : ls.length ≤ 16) {i : Nat} (h1 : 1 ≤ i) (hi : i < ls.length) : bv_ (f0_ ls i) i 0 [ls.getD i []] = true ∧ chg (f0_ ls i) i 0 [ls.getD i []] = f0_ ls (i + 1) := by
 have hl := na_ (ls := ls) (k := i) (by omega)
 have e : bv_ (f0_ ls i) i 0 [ls.getD i []] = true := gc_.2 ⟨aaw_ hL h16 h1 (by omega), by omega, by omega, hL _ (bh_ hi), by omega⟩
 refine ⟨e, ?_⟩
 rw [wt_ e, Int.toNat_natCast, T1_ (by omega), List.drop_eq_nil_of_le (by omega), q3_ hi]
theorem z7_ {ls : List Str} (hL : ∀ w ∈ ls, d4_ w = true) (h16 : ls.length ≤ 16) {i : Nat} (h1 : 1 ≤ i) (hi : i < ls.length) : bv_ (f0_ ls (i + 1)) i 1 [] = true ∧ chg (f0_ ls (i + 1)) i 1 [] = f0_ ls i := by
 have hl := na_ (ls := ls) (k := i) (by omega)
 have hl2 := na_ (ls := ls) (k := i + 1) (by omega)
 have e : bv_ (f0_ ls (i + 1)) i 1 [] = true := ab2_.2 ⟨aaw_ hL h16 (by omega) (by omega), by omega, by omega, by omega⟩
 refine ⟨e, ?_⟩
 rw [aia_ e, Int.toNat_natCast, List.drop_eq_nil_of_le (by omega), q3_ hi, List.take_append_of_le_length (by omega), T1_ (by omega), List.append_nil]
theorem ab8_ {ls : List Str} {i : Nat} : (ls.map db_).take i = f0_ ls i := by unfold f0_; rw [List.map_take]
end
section
set_option maxRecDepth 100000
set_option maxHeartbeats 4000000
/-! books and programs, plainly -/
theorem ai2_ {s : Str} (h : fc_ s ≠ []) : tOk s = true ∧ (c0_ s).length ≤ 16 ∧ c0_ s = spl s ∧ fc_ s = (c0_ s).map db_ := by
 unfold fc_ at h ⊢
 split at h
 ·rename_i q
  rw [if_pos q]
  by_cases ht : tOk s = true
  ·refine ⟨ht, q, ?_, rfl⟩
   unfold c0_; rw [if_pos ht]
  ·have : c0_ s = [] := by unfold c0_; rw [if_neg ht]
   rw [this] at h; exact absurd rfl h
 ·exact absurd rfl h
end
end Go.Proofs.YtpikbndepapbhaaGreatDoor
