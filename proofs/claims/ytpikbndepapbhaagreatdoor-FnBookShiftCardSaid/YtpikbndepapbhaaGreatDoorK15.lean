/- Books, changed: plainly. Conditions: none. -/
import Derived.Test.YtpikbndepapbhaaGreatDoorK12
import Derived.Test.YtpikbndepapbhaaGreatDoorKu
import Derived.Test.YtpikbndepapbhaaGreatDoorKo
import Derived.Test.YtpikbndepapbhaaGreatDoorKq
set_option linter.unusedVariables false
set_option linter.unusedSimpArgs false
namespace Go.Proofs.YtpikbndepapbhaaGreatDoor
section
set_option maxRecDepth 100000
def cf_ (l : List Pg) (a : Int) (d : Nat) (ls : List Str) : Bool :=
 ct_ l && (decide (0 ≤ a) && decide (a ≤ (l.length : Int) - d)) && ls.all f3_ && (decide (1 ≤ (l.length : Int) - d + ls.length) && decide ((l.length : Int) - d + ls.length ≤ 16))
def kw_ (l : List Pg) (a d : Nat) (ls : List Str) : List Pg := l.take a ++ ls.map ec_ ++ l.drop (a + d)
def chg (l : List Pg) (a : Int) (d : Nat) (ls : List Str) : List Pg := if cf_ l a d ls then kw_ l a.toNat d ls else []
theorem abl_ {s : Str} (h : f3_ s = true) : (ec_ s).line = s := by
 unfold ec_; rw [if_pos h]; split <;> rfl
theorem adr_ {s : Str} (h : f3_ s = true) : okP (ec_ s) = true := by
 unfold okP; rw [abl_ h, h]; simp
theorem y8_ {l : List Pg} (h1 : 1 ≤ l.length) (h2 : l.length ≤ 16) (h : ∀ p ∈ l, okP p = true) : ct_ l = true := by
 unfold ct_; rw [decide_eq_true h1, decide_eq_true h2, List.all_eq_true.2 h]; rfl
theorem ea_ {l : List Pg} {a : Int} {d : Nat} {ls : List Str} (h : cf_ l a d ls = true) : ct_ l = true ∧ 0 ≤ a ∧ a ≤ (l.length : Int) - d ∧ (∀ s ∈ ls, f3_ s = true) ∧ 1 ≤ (l.length : Int) - d + ls.length ∧ (l.length : Int) - d + ls.length ≤ 16 := by
 simp only [cf_, T5_, T3_, List.all_eq_true] at h
 exact ⟨h.1.1.1, h.1.1.2.1, h.1.1.2.2, h.1.2, h.2.1, h.2.2⟩
theorem qm_ {l : List Pg} {a : Int} {d : Nat} {ls : List Str} (h1 : ct_ l = true) (h2 : 0 ≤ a) (h3 : a ≤ (l.length : Int) - d) (h4 : ∀ s ∈ ls, f3_ s = true) (h5 : 1 ≤ (l.length : Int) - d + ls.length) (h6 : (l.length : Int) - d + ls.length ≤ 16) : cf_ l a d ls = true := by
 simp only [cf_, T5_, T3_, List.all_eq_true]
 exact ⟨⟨⟨h1, h2, h3⟩, h4⟩, h5, h6⟩
theorem m4_ {l : List Pg} {a : Int} {d : Nat} {ls : List Str} (h : cf_ l a d ls = true) : chg l a d ls = kw_ l a.toNat d ls := by unfold chg; rw [if_pos h]
theorem yp_ {l : List Pg} {a : Int} {d : Nat} {ls : List Str} (h : cf_ l a d ls = false) : chg l a d ls = [] := by unfold chg; rw [h]; rfl
theorem o3_ {l : List Pg} {a d : Nat} {ls : List Str} (h : a + d ≤ l.length) : (kw_ l a d ls).length = l.length - d + ls.length := by
 unfold kw_; simp only [T2_, List.length_take, List.length_map, List.length_drop]; omega
theorem z8_ {l : List Pg} {a : Int} {d : Nat} {ls : List Str} (h : cf_ l a d ls = true) : (chg l a d ls).length = l.length - d + ls.length := by
 obtain ⟨_, h2, h3, _⟩ := ea_ h
 rw [m4_ h, o3_ (by omega)]
theorem ahd_ {l : List Pg} {a : Int} {d : Nat} {ls : List Str} (h : cf_ l a d ls = true) : ct_ (chg l a d ls) = true := by
 obtain ⟨h1, h2, h3, h4, h5, h6⟩ := ea_ h
 have hl := z8_ h
 refine y8_ (by omega) (by omega) fun p hp => ?_
 rw [m4_ h] at hp
 unfold kw_ at hp
 simp only [List.mem_append, List.mem_map] at hp
 rcases hp with (hp | ⟨s, hs, rfl⟩) | hp
 ·exact lj_ h1 p (List.mem_of_mem_take hp)
 ·exact adr_ (h4 s hs)
 ·exact lj_ h1 p (List.mem_of_mem_drop hp)
theorem acx_ {l : List Pg} {a d : Nat} {ls : List Str} (h : ∀ p ∈ l, pgB p) (hs : ∀ s ∈ ls, s.length ≤ 2000000) : ∀ p ∈ kw_ l a d ls, pgB p := fun p hp => by
 unfold kw_ at hp
 simp only [List.mem_append, List.mem_map] at hp
 rcases hp with (hp | ⟨s, h1, rfl⟩) | hp
 ·exact h p (List.mem_of_mem_take hp)
 ·exact yq_ (hs s h1)
 ·exact h p (List.mem_of_mem_drop hp)
theorem aku_ {l : List Pg} {a : Int} {d : Nat} {ls : List Str} (h : ∀ p ∈ l, pgB p) (hs : ∀ s ∈ ls, s.length ≤ 2000000) : ∀ p ∈ chg l a d ls, pgB p := fun p hp => by
 unfold chg at hp
 split at hp
 ·exact acx_ h hs p hp
 ·cases hp
theorem zy_ {l : List Pg} {a : Int} {w : Str} : cf_ l a 1 [w] = true ↔ ct_ l = true ∧ 0 ≤ a ∧ a < l.length ∧ f3_ w = true := by
 constructor
 ·intro h
  obtain ⟨h1, h2, h3, h4, h5, h6⟩ := ea_ h
  exact ⟨h1, h2, by omega, h4 w (by simp)⟩
 ·rintro ⟨h1, h2, h3, h4⟩
  have := dg_ h1
  exact qm_ h1 h2 (by omega) (by simpa using h4) (by simp; omega) (by simp; omega)
theorem xl_ {l : List Pg} {a : Int} {w : Str} : cf_ l a 0 [w] = true ↔ ct_ l = true ∧ 0 ≤ a ∧ a ≤ l.length ∧ f3_ w = true ∧ l.length < 16 := by
 constructor
 ·intro h
  obtain ⟨h1, h2, h3, h4, h5, h6⟩ := ea_ h
  simp at h6
  exact ⟨h1, h2, by omega, h4 w (by simp), by omega⟩
 ·rintro ⟨h1, h2, h3, h4, h5⟩
  have := dg_ h1
  exact qm_ h1 h2 (by omega) (by simpa using h4) (by simp; omega) (by simp; omega)
theorem md_ {l : List Pg} {a : Int} : cf_ l a 1 [] = true ↔ ct_ l = true ∧ 0 ≤ a ∧ a < l.length ∧ 2 ≤ l.length := by
 constructor
 ·intro h
  obtain ⟨h1, h2, h3, h4, h5, h6⟩ := ea_ h
  simp at h5
  exact ⟨h1, h2, by omega, by omega⟩
 ·rintro ⟨h1, h2, h3, h4⟩
  have := dg_ h1
  exact qm_ h1 h2 (by omega) (fun s hs => by cases hs) (by simp; omega) (by simp; omega)
theorem ah7_ {l : List Pg} {a : Int} {w : Str} (h : cf_ l a 1 [w] = true) : chg l a 1 [w] = l.set a.toNat (ec_ w) := by
 obtain ⟨_, h2, h3, _⟩ := zy_.1 h
 rw [m4_ h, List.set_eq_take_append_cons_drop, if_pos (by omega)]
 unfold kw_; simp
theorem apc_ {l : List Pg} {a : Int} {w : Str} (h : cf_ l a 0 [w] = true) : chg l a 0 [w] = l.take a.toNat ++ ec_ w :: l.drop a.toNat := by
 rw [m4_ h]; unfold kw_; simp
theorem alo_ {l : List Pg} {a : Int} (h : cf_ l a 1 [] = true) : chg l a 1 [] = l.take a.toNat ++ l.drop (a.toNat + 1) := by
 rw [m4_ h]; unfold kw_; simp
theorem ag3_ {l : List Pg} {k j : Nat} {p : Pg} (hj : j < l.length) : (l.set k p).getD j Pg0 = if k = j then p else l.getD j Pg0 := by
 simp only [T8_, List.getElem?_set]
 split
 ·rename_i h; subst h; rw [if_pos hj]; rfl
 ·rfl
def pgE : Pg := ⟨[], true, [], []⟩
theorem ll_ : f3_ [] = true := ai1_ ⟨rfl, by simp⟩
theorem abi_ : c6_ [] = some S0 := j4_.2 ⟨so_, by decide⟩
theorem ou_ : ec_ [] = pgE := by
 unfold ec_; rw [if_pos ll_, abi_]; dsimp only; rw [agg_, emF_S0]; rfl
def shS (x : Sg) : Sg := (x.1 + 1, x.2.1, x.2.2.1 + 1, x.2.2.2)
theorem amw_ (i : Int) (ts : List Tk) (fs : List Int) : sgs (i + 1) ts fs = (sgs i ts fs).map shS := by
 unfold sgs
 rw [List.map_filterMap]
 congr 1
 funext x
 unfold sg1
 split <;> rfl
theorem ae6_ (i : Int) (ts : List Tk) : sgs i ts [] = [] := by unfold sgs; simp
theorem aao_ (l : List Pg) : ∀ k, ez_ (pgE :: l) (k + 1) = (ez_ l k).map shS
 | 0 => by
  show ez_ (pgE :: l) 0 ++ (if pgE.good then sgs ((0 : Nat) : Int) ((bv_ pgE.text).getD []) pgE.frm else []) = List.map shS []
  rw [if_pos (show pgE.good = true from rfl)]; show [] ++ sgs _ _ [] = _; rw [ae6_]; rfl
 | k + 1 => by
  rw [ez_, aao_ l k, ez_, List.map_append]
  congr 1
  show (if (l.getD k Pg0).good then sgs ((k + 1 : Nat) : Int) _ _ else []) = _
  split
  ·rw [← amw_]; rfl
  ·rfl
theorem aam_ {l : List Pg} (h : cf_ l 0 0 [[]] = true) : chg l 0 0 [[]] = pgE :: l := by rw [apc_ h, ou_]; rfl
theorem aka_ {l : List Pg} (h : cf_ l 0 0 [[]] = true) : cq_ (chg l 0 0 [[]]) = (cq_ l).map shS := by
 have h1 := (xl_.1 h).1
 have h2 := ahd_ h
 unfold cq_
 rw [if_pos h1, if_pos h2, aam_ h, T7_, aao_]
theorem ah3_ {l : List Pg} (h : cf_ l 0 0 [[]] = true) : iv_ (chg l 0 0 [[]]) = 10 :: iv_ l := by
 have h1 := (xl_.1 h).1
 have h2 := ahd_ h
 have h3 := (dg_ h1).1
 unfold iv_
 rw [if_pos h1, if_pos h2, aam_ h]
 cases l with
 | nil => simp at h3
 | cons p l => simp only [List.map_cons]; rw [l6_]; rfl
theorem amo_ {l : List Pg} (h : ct_ l = true) (h2 : cf_ l 0 0 [[]] = false) : 16 ≤ l.length := by
 rw [Bool.eq_false_iff] at h2
 have : ¬ (l.length < 16) := fun q => h2 (xl_.2 ⟨h, Int.le_refl _, by omega, ll_, q⟩)
 omega
def stk (l : List Pg) (n : Nat) : List Pg := ((dd_ l l.length).take n).foldl (fun x j => x.set j.toNat pgE) l
theorem jg_ {l : List Pg} {j : Int} : ∀ {n : Nat}, j ∈ dd_ l n → ∃ k : Nat, j = k ∧ k < n ∧ (l.getD k Pg0).good = false
 | 0, h => by simp [dd_] at h
 | n + 1, h => by
  rw [dd_] at h
  rcases List.mem_append.1 h with h | h
  ·obtain ⟨k, h1, h2, h3⟩ := jg_ h
   exact ⟨k, h1, by omega, h3⟩
  ·split at h
   ·cases h
   ·rename_i q; simp at h; exact ⟨n, h, by omega, by simpa using q⟩
theorem ze_ {l : List Pg} {k : Nat} (hg : (l.getD k Pg0).good = false) : ∀ {n : Nat}, k < n → (k : Int) ∈ dd_ l n
 | 0, h => absurd h (by omega)
 | n + 1, h => by
  rw [dd_]
  by_cases q : k = n
  ·subst q; rw [hg]; simp
  ·exact List.mem_append_left _ (ze_ hg (by omega))
theorem agz_ (L : List Int) : ∀ l : List Pg, (L.foldl (fun x j => x.set j.toNat pgE) l).length = l.length := by
 induction L with
 | nil => intro l; rfl
 | cons j L ih => intro l; rw [List.foldl_cons, ih]; simp
theorem adu_ (L : List Int) (hL : ∀ j ∈ L, 0 ≤ j) : ∀ (l : List Pg) (k : Nat), k < l.length → (L.foldl (fun x j => x.set j.toNat pgE) l).getD k Pg0 = if (k : Int) ∈ L then pgE else l.getD k Pg0 := by
 induction L with
 | nil => intro l k _; simp
 | cons j L ih =>
  intro l k hk
  have := hL j (by simp)
  rw [List.foldl_cons, ih (fun x hx => hL x (by simp [hx])) _ k (by simpa using hk), ag3_ hk]
  by_cases q : (k : Int) ∈ L
  ·rw [if_pos q, if_pos (by simp [q])]
  ·rw [if_neg q]
   by_cases e : j.toNat = k
   ·rw [if_pos e, if_pos (by simp; left; omega)]
   ·rw [if_neg e, if_neg (by simp [q]; omega)]
theorem ahe_ (l : List Pg) : stk l 0 = l := rfl
theorem g3_ (l : List Pg) (n : Nat) : (stk l n).length = l.length := agz_ _ l
theorem ua_ {l : List Pg} {n k : Nat} (hk : k < l.length) : (stk l n).getD k Pg0 = if (k : Int) ∈ (dd_ l l.length).take n then pgE else l.getD k Pg0 :=
 adu_ _ (fun j hj => by obtain ⟨k, rfl, _⟩ := jg_ (List.mem_of_mem_take hj); omega) l k hk
theorem aia_ {l : List Pg} {n : Nat} (hn : n < (dd_ l l.length).length) : stk l (n + 1) = (stk l n).set ((dd_ l l.length).getD n 0).toNat pgE := by
 unfold stk
 rw [List.take_add_one, T6_ hn, List.foldl_append, T8_, T6_ hn]; rfl
theorem aos_ : okP pgE = true := by rw [← ou_]; exact adr_ ll_
theorem uk_ {l : List Pg} {p : Pg} (h : p ∈ l) : ∃ k, k < l.length ∧ l.getD k Pg0 = p := by
 obtain ⟨k, hk, e⟩ := List.getElem_of_mem h
 exact ⟨k, hk, by rw [T8_, T6_ hk, ← e]; rfl⟩
theorem s8_ {l : List Pg} (h : ct_ l = true) (n : Nat) : ct_ (stk l n) = true := by
 obtain ⟨h1, h2, h3⟩ := dg_ h
 refine y8_ (by rw [g3_]; exact h1) (by rw [g3_]; exact h2) fun p hp => ?_
 obtain ⟨k, hk, rfl⟩ := uk_ hp
 rw [g3_] at hk
 rw [ua_ hk]
 split
 ·exact aos_
 ·exact h3 k hk
theorem ai7_ {l : List Pg} {n : Nat} (h : ct_ l = true) (hn : n < (dd_ l l.length).length) : cf_ (stk l n) ((dd_ l l.length).getD n 0) 1 [[]] = true ∧ chg (stk l n) ((dd_ l l.length).getD n 0) 1 [[]] = stk l (n + 1) := by
 obtain ⟨k, hk, h1, _⟩ := jg_ (bh_ (d := 0) hn)
 have e : cf_ (stk l n) ((dd_ l l.length).getD n 0) 1 [[]] = true := zy_.2 ⟨s8_ h n, by omega, by rw [g3_]; omega, ll_⟩
 exact ⟨e, by rw [ah7_ e, aia_ hn, ou_]⟩
theorem to_ {l : List Pg} {k : Nat} (hk : k < l.length) : (stk l (dd_ l l.length).length).getD k Pg0 = if (l.getD k Pg0).good then l.getD k Pg0 else pgE := by
 rw [ua_ hk, T1_ (Nat.le_refl _)]
 cases hg : (l.getD k Pg0).good with
 | true =>
  rw [if_neg, if_pos rfl]
  intro q
  obtain ⟨j, h1, _, h3⟩ := jg_ q
  obtain rfl : k = j := by omega
  rw [hg] at h3; cases h3
 | false => rw [if_pos (ze_ hg hk)]; rfl
theorem ai3_ {p : Pg} (h : okP p = true) (hg : p.good = false) : p.text = [] := by rw [(j5_ h).1, ag7_ h hg, agg_]
theorem adx_ {l : List Pg} (h : ct_ l = true) : iv_ (stk l (dd_ l l.length).length) = iv_ l := by
 unfold iv_
 rw [if_pos (s8_ h _), if_pos h]
 congr 1
 refine List.ext_getElem (by simp [g3_]) fun k q1 q2 => ?_
 simp only [List.length_map] at q1 q2
 have e := to_ q2
 simp only [List.getElem_map]
 have e1 : (stk l (dd_ l l.length).length)[k] = (stk l (dd_ l l.length).length).getD k Pg0 := by simp [T8_, T6_ q1]
 have e2 : l[k] = l.getD k Pg0 := by simp [T8_, T6_ q2]
 rw [e1, e2, e]
 cases hg : (l.getD k Pg0).good with
 | true => rfl
 | false => rw [ai3_ ((dg_ h).2.2 k q2) hg]; rfl
theorem ac0_ {l : List Pg} : ∀ k, k ≤ l.length → ez_ (stk l (dd_ l l.length).length) k = ez_ l k
 | 0, _ => rfl
 | k + 1, hk => by
  rw [ez_, ez_, ac0_ k (by omega), to_ (by omega)]
  congr 1
  cases hg : (l.getD k Pg0).good with
  | true => simp only [if_true, hg]
  | false =>
   simp only [Bool.false_eq_true, if_false]
   show (if pgE.good then sgs _ _ [] else []) = _
   rw [if_pos (show pgE.good = true from rfl), ae6_]
theorem agf_ {l : List Pg} (h : ct_ l = true) : cq_ (stk l (dd_ l l.length).length) = cq_ l := by
 unfold cq_
 rw [if_pos (s8_ h _), if_pos h, g3_, ac0_ _ (Nat.le_refl _)]
theorem ahh_ {l : List Pg} : ∀ k, k ≤ l.length → dd_ (stk l (dd_ l l.length).length) k = []
 | 0, _ => rfl
 | k + 1, hk => by
  rw [dd_, ahh_ k (by omega), to_ (by omega)]
  cases hg : (l.getD k Pg0).good with
  | true => simp only [if_true, hg, List.append_nil]
  | false => rfl
theorem ajx_ {l : List Pg} (h : ct_ l = true) : dy_ (stk l (dd_ l l.length).length) = [] := by
 unfold dy_
 rw [if_pos (s8_ h _), g3_, ahh_ _ (Nat.le_refl _)]
end
section
set_option maxRecDepth 100000
end
section
set_option maxRecDepth 100000
set_option maxHeartbeats 4000000
/-! books and programs, plainly -/
end
end Go.Proofs.YtpikbndepapbhaaGreatDoor
