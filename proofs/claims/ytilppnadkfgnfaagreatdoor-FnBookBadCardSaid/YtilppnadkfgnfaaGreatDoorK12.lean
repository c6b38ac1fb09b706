/- Books: lines with what they are turned into, plainly. Conditions: none. -/
import Derived.Test.YtilppnadkfgnfaaGreatDoorK11
import Derived.Test.YtilppnadkfgnfaaGreatDoorK3
import Derived.Test.YtilppnadkfgnfaaGreatDoorKr
set_option linter.unusedVariables false
set_option linter.unusedSimpArgs false
namespace Go.Proofs.YtilppnadkfgnfaaGreatDoor
section
set_option maxRecDepth 100000
def okP (p : Pg) : Bool := nx_ p.line && decide (p = e8_ p.line)
def cl_ (l : List Pg) : Bool := decide (1 ≤ l.length) && decide (l.length ≤ 16) && l.all okP
def fv_ (s : Str) : List Pg := if (dj_ s).length ≤ 16 then (dj_ s).map e8_ else []
def t1_ (s : Str) : Sl := (c6_ s).getD S0
def jf_ (l : List Pg) : List Sl := l.map fun p => t1_ p.line
def f2_ (l : List Pg) : Str := if cl_ l then cb_ (l.map (·.line)) else []
def ji_ (l : List Pg) : Str := if cl_ l then cb_ (l.map (·.text)) else []
def d8_ (l : List Pg) : Nat → List Sg
 | 0 => []
 | k + 1 => d8_ l k ++ (if (l.getD k Pg0).good then sgs k ((br_ (l.getD k Pg0).text).getD []) (l.getD k Pg0).frm else [])
def el_ (l : List Pg) : List Sg := if cl_ l then d8_ l l.length else []
def d9_ (l : List Pg) : Nat → List Int
 | 0 => []
 | k + 1 => d9_ l k ++ (if (l.getD k Pg0).good then [] else [(k : Int)])
def nf_ (l : List Pg) : List Int := if cl_ l then d9_ l l.length else []
theorem co_ {l : List Pg} (h : cl_ l = true) : 1 ≤ l.length ∧ l.length ≤ 16 ∧ ∀ k, k < l.length → okP (l.getD k Pg0) = true := by
 simp only [cl_, T5_, T3_] at h
 exact ⟨h.1.1, h.1.2, fun k hk => List.all_eq_true.1 h.2 _ (bj_ hk)⟩
theorem ih_ {p : Pg} (h : okP p = true) : nx_ p.line = true ∧ p = e8_ p.line := by
 simp only [okP, T5_, T3_] at h; exact h
theorem qq_ (s : Str) : sok (t1_ s) = true := by
 unfold t1_
 cases h : c6_ s with
 | none => exact w8_
 | some x => exact (m0_.1 h).1
theorem emT_S0' : emT S0 = [] := by unfold emT; rw [if_pos w8_]; decide
theorem gs_ {p : Pg} (h : okP p = true) : p.text = emT (t1_ p.line) ∧ p.frm = emF (t1_ p.line) ∧ p.good = (c6_ p.line).isSome := by
 obtain ⟨h1, h2⟩ := ih_ h
 unfold t1_
 cases hx : c6_ p.line with
 | none => rw [h2, oy_ h1 (by rw [hx]; rfl)]; exact ⟨emT_S0'.symm, emF_S0.symm, rfl⟩
 | some x => rw [h2, sq_ h1 (by rw [hx]; rfl), hx]; exact ⟨rfl, rfl, rfl⟩
theorem xl_ {l : List Pg} {k : Nat} (h : k < l.length) : (jf_ l).getD k S0 = t1_ (l.getD k Pg0).line := by
 simp [jf_, T8_, T6_ h]
theorem il_ (l : List Pg) : (jf_ l).length = l.length := by simp [jf_]
theorem yg_ {l : List Pg} (h : cl_ l = true) : pok (jf_ l) = true := by
 obtain ⟨h1, h2, _⟩ := co_ h
 simp only [pok, il_, T5_, T3_]
 refine ⟨⟨h1, h2⟩, List.all_eq_true.2 fun x hx => ?_⟩
 obtain ⟨p, _, rfl⟩ := List.mem_map.1 hx
 exact qq_ _
theorem afa_ {p : Pg} (h : okP p = true) (hg : p.good = false) : t1_ p.line = S0 := by
 have := (gs_ h).2.2
 unfold t1_
 cases hx : c6_ p.line with
 | none => rfl
 | some x => rw [hg, hx] at this; cases this
theorem s5_ {l : List Pg} (h : cl_ l = true) : ∀ k, k ≤ l.length → d8_ l k = sgN (jf_ l) k
 | 0, _ => rfl
 | k + 1, hk => by
  have ho := (co_ h).2.2 k (by omega)
  rw [d8_, sgN, s5_ h k (by omega), xl_ (by omega)]
  congr 1
  cases hg : (l.getD k Pg0).good with
  | true => obtain ⟨q1, q2, _⟩ := gs_ ho; rw [q1, q2]; rfl
  | false => rw [afa_ ho hg, akh_]; rfl
theorem v9_ {l : List Pg} (h : cl_ l = true) : el_ l = sgP (jf_ l) := by
 unfold el_ sgP
 rw [if_pos h, if_pos (yg_ h), s5_ h _ (Nat.le_refl _), il_]
theorem al0_ (l : List Pg) : sgok (el_ l) = true := by
 cases h : cl_ l with
 | true => rw [v9_ h]; exact aky_ _
 | false => unfold el_; rw [h]; rfl
theorem hc_ {l : List Pg} (h : cl_ l = true) : ∀ p ∈ l, okP p = true := by
 simp only [cl_, T5_] at h
 exact List.all_eq_true.1 h.2
theorem zv_ : ∀ {l : Str} {w : Int}, ga_ l w = true → (10 : UInt8) ∉ l → w ≤ 120 → l.all prt = true ∧ w + l.length ≤ 120
 | [], w, _, _, hw => ⟨rfl, by simpa using hw⟩
 | c :: l, w, h, hn, hw => by
  simp only [List.mem_cons, not_or] at hn
  rw [ga_, if_neg (fun e => hn.1 e.symm)] at h
  simp only [T5_, T3_] at h
  obtain ⟨q1, q2⟩ := zv_ h.2 hn.2 h.1.2
  refine ⟨?_, by simp only [T7_]; omega⟩
  simp only [List.all_cons, q1, Bool.and_true, prt, T5_, T3_]
  exact h.1.1
theorem j0_ {s : Str} (h : nx_ s = true) : lnOk s := by
 simp only [nx_, tOk, qj_, T5_, Bool.not_eq_true'] at h
 have hn : (10 : UInt8) ∉ s := fun q => by rw [List.contains_iff_mem.2 q] at h; exact absurd h.2 (by decide)
 obtain ⟨q1, q2⟩ := zv_ h.1.1 hn (by decide)
 exact ⟨q1, by omega⟩
theorem h0_ (s : Sl) : lnOk (emT s) := by
 by_cases h : sok s = true
 ·rw [r0_ h]; exact xv_ (ok_ h)
 ·unfold emT; rw [if_neg h]; exact ⟨rfl, by simp⟩
theorem qz_ {α : Type} {l : List α} (h : 1 ≤ l.length) : l ≠ [] := List.length_pos_iff.1 h
theorem ma_ {l : List Pg} (h : cl_ l = true) : dj_ (f2_ l) = l.map (·.line) := by
 obtain ⟨h1, h2, _⟩ := co_ h
 unfold f2_
 rw [if_pos h]
 refine nu_ (fun w hw => ?_) (qz_ (by simpa using h1)) (by simpa using h2)
 obtain ⟨p, hp, rfl⟩ := List.mem_map.1 hw
 exact j0_ (ih_ (hc_ h p hp)).1
theorem ag8_ {l : List Pg} (h : cl_ l = true) : fv_ (f2_ l) = l := by
 unfold fv_
 rw [ma_ h, if_pos (by rw [List.length_map]; exact (co_ h).2.1), List.map_map]
 conv => rhs; rw [← List.map_id l]
 exact List.map_congr_left fun p hp => (ih_ (hc_ h p hp)).2.symm
theorem aco_ {l : List Pg} (h : cl_ l = true) : (dj_ (ji_ l)).length = l.length := by
 obtain ⟨h1, h2, _⟩ := co_ h
 unfold ji_
 rw [if_pos h, nu_ (fun w hw => ?_) (qz_ (by simpa using h1)) (by simpa using h2), List.length_map]
 obtain ⟨p, hp, rfl⟩ := List.mem_map.1 hw
 rw [(gs_ (hc_ h p hp)).1]; exact h0_ _
end
section
set_option maxRecDepth 100000
theorem pq_ (l : List Pg) (k : Nat) : ∀ n, k ≤ n → ∃ r, d9_ l n = d9_ l k ++ r ∧ ∀ x ∈ r, (k : Int) ≤ x
 | 0, h => by
  obtain rfl : k = 0 := (by omega)
  exact ⟨[], (List.append_nil _).symm, fun x hx => by cases hx⟩
 | n + 1, h => by
  by_cases e : k = n + 1
  ·subst e; exact ⟨[], by simp, by simp⟩
  ·obtain ⟨r, h1, h2⟩ := pq_ l k n (by omega)
   refine ⟨r ++ (if (l.getD n Pg0).good then [] else [(n : Int)]), by rw [d9_, h1, List.append_assoc], fun x hx => ?_⟩
   rcases List.mem_append.1 hx with hx | hx
   ·exact h2 x hx
   ·split at hx
    ·cases hx
    ·simp at hx; omega
theorem ahe_ {l : List Pg} {i n : Nat} (h : i < n) : ((d9_ l i).length < (d9_ l n).length ∧ (d9_ l n).getD (d9_ l i).length 0 = (i : Int)) ↔ (l.getD i Pg0).good = false := by
 obtain ⟨r, h1, h2⟩ := pq_ l (i + 1) n (by omega)
 have e : d9_ l (i + 1) = d9_ l i ++ (if (l.getD i Pg0).good then [] else [(i : Int)]) := rfl
 cases hg : (l.getD i Pg0).good with
 | true =>
  rw [hg] at e
  simp only [if_true, List.append_nil] at e
  rw [h1, e]
  simp only [Bool.true_eq_false, iff_false, not_and]
  intro hl hx
  rw [T2_] at hl
  rw [T8_, List.getElem?_append_right (Nat.le_refl _), Nat.sub_self] at hx
  cases r with
  | nil => simp at hl
  | cons y r => simp at hx; have := h2 y (by simp); omega
 | false =>
  rw [hg] at e
  simp only [Bool.false_eq_true, if_false] at e
  rw [h1, e]
  simp [T8_]
theorem mb_ (l : List Pg) : ∀ k, (d9_ l k).length ≤ k
 | 0 => by simp [d9_]
 | k + 1 => by
  have := mb_ l k
  rw [d9_, T2_]; split <;> simp <;> omega
theorem lj_ {l : List Pg} {i n : Nat} (h : (l.getD i Pg0).good = false) : (d9_ l (i + 1)).length = (d9_ l i).length + 1 := by rw [d9_, h]; simp
theorem ff_ {l : List Pg} {i : Nat} (h : (l.getD i Pg0).good = true) : d9_ l (i + 1) = d9_ l i := by rw [d9_, h]; simp
theorem afl_ {i : Int} {ts : List Tk} {fs : List Int} {x : Sg} (h : x ∈ sgs i ts fs) : x.1 = i := by
 unfold sgs at h
 obtain ⟨y, _, hy⟩ := List.mem_filterMap.1 h
 unfold sg1 at hy
 split at hy
 ·cases hy; rfl
 ·cases hy
theorem q2_ {l : List Pg} {x : Sg} : ∀ {k : Nat}, x ∈ d8_ l k → ∃ j : Nat, j < k ∧ x.1 = (j : Int) ∧ (l.getD j Pg0).good = true
 | 0, h => by simp [d8_] at h
 | k + 1, h => by
  rw [d8_] at h
  rcases List.mem_append.1 h with h | h
  ·obtain ⟨j, h1, h2⟩ := q2_ h
   exact ⟨j, by omega, h2⟩
  ·split at h
   ·rename_i hg
    exact ⟨k, by omega, afl_ h, hg⟩
   ·cases h
theorem alz_ {l : List Pg} {i k : Nat} (hk : k < (el_ l).length) (h : (l.getD i Pg0).good = false) : ((el_ l).getD k G0).1 ≠ (i : Int) := by
 intro e
 have hm := bj_ (d := G0) hk
 unfold el_ at hm e
 split at hm
 ·rename_i ho
  rw [if_pos ho] at e
  obtain ⟨j, h1, h2, h3⟩ := q2_ hm
  rw [e] at h2
  have : i = j := by omega
  rw [this, h3] at h; cases h
 ·cases hm
def ajg_ (i : Int) (x : Sg) : Sg := (i, x.2.1, i, x.2.2.2)
theorem aj3_ (i : Int) (ts : List Tk) (fs : List Int) : sgs i ts fs = (sgs 0 ts fs).map (ajg_ i) := by
 unfold sgs
 rw [List.map_filterMap]
 congr 1
 funext x
 unfold sg1
 split <;> rfl
theorem af3_ {l : List Pg} {i : Nat} (h : cl_ l = true) (hi : i < l.length) : cl_ [l.getD i Pg0] = true := by
 have := (co_ h).2.2 i hi
 simp only [cl_, List.length_singleton, List.all_cons, this, List.all_nil]; rfl
theorem ada_ {l : List Pg} {i : Nat} (h : cl_ l = true) (hi : i < l.length) : d8_ l (i + 1) = d8_ l i ++ (el_ [l.getD i Pg0]).map (ajg_ i) := by
 unfold el_
 rw [if_pos (af3_ h hi), d8_]
 congr 1
 simp only [List.length_singleton, d8_, List.nil_append]
 show _ = List.map _ (if (l.getD i Pg0).good then sgs ((0 : Nat) : Int) ((br_ (l.getD i Pg0).text).getD []) (l.getD i Pg0).frm else [])
 split
 ·exact aj3_ _ _ _
 ·rfl
theorem alv_ {l : List Pg} {i : Nat} (h : i < l.length) : (l.take (i + 1)).drop i = [l.getD i Pg0] := by
 rw [List.drop_take, show i + 1 - i = 1 by omega, List.drop_eq_getElem_cons h, T8_, T6_ h]; rfl
theorem an3_ (l : List Pg) (a b : Nat) : ((pgR l).take b).drop a = pgR ((l.take b).drop a) := by simp [pgR, List.map_take, List.map_drop]
theorem aat_ (l : List Pg) : (el_ l).length ≤ 2000 := by
 cases h : cl_ l with
 | true => rw [v9_ h]; have := afz_ (jf_ l); omega
 | false => unfold el_; rw [h]; simp
theorem ajr_ (l : List Pg) : (nf_ l).length ≤ 16 := by
 unfold nf_; split
 ·rename_i h; have := mb_ l l.length; have := (co_ h).2.1; omega
 ·simp
theorem aed_ (l : List Pg) : (f2_ l).length ≤ 3000 := by
 unfold f2_; split
 ·rename_i h
  have h1 := (co_ h).2.1
  have := pj_ (l := l.map (·.line)) (k := 120) fun s hs => by
   obtain ⟨p, hp, rfl⟩ := List.mem_map.1 hs
   exact (j0_ (ih_ (hc_ h p hp)).1).2
  rw [List.length_map] at this
  have := Nat.mul_le_mul_right 121 h1
  omega
 ·simp
theorem aex_ (l : List Pg) : (ji_ l).length ≤ 3000 := by
 unfold ji_; split
 ·rename_i h
  have h1 := (co_ h).2.1
  have := pj_ (l := l.map (·.text)) (k := 120) fun s hs => by
   obtain ⟨p, hp, rfl⟩ := List.mem_map.1 hs
   rw [(gs_ (hc_ h p hp)).1]; exact (h0_ _).2
  rw [List.length_map] at this
  have := Nat.mul_le_mul_right 121 h1
  omega
 ·simp
theorem p0_ (s : Str) : (fv_ s).length ≤ 16 := by unfold fv_; split <;> simp; omega
end
section
set_option maxRecDepth 100000
def eb_ (b : Str) : Nat → Int → List Str → List Str × Int
 | 0, p, l => (l, p)
 | n + 1, p, l => eb_ b n (dTo b p).2 (l ++ [(dTo b p).1])
def tv_ : Str := [115, 97, 121, 32, 49]
def go_ (b : Str) : Nat → Int → List Str → List Str × Int
 | 0, p, l => (l, p)
 | n + 1, p, l => if (l.length : Int) < 16 + bo_ b p 2 then go_ b n (p + 1) (l ++ [tv_]) else (l, p + 1)
def wL (l : List Str) : Prop := ∀ w ∈ l, w.length ≤ 300
theorem sx_ {l : List Str} {w : Str} (h : wL l) (hw : w.length ≤ 300) : wL (l ++ [w]) := fun x hx => by
 rcases List.mem_append.1 hx with hx | hx
 ·exact h x hx
 ·simp at hx; subst hx; exact hw
theorem su_ (b : Str) : ∀ (n : Nat) (p : Int) (l : List Str), 0 ≤ p → p + 1000 * n < 1000000 → wL l → p ≤ (eb_ b n p l).2 ∧ (eb_ b n p l).2 ≤ p + 1000 * n ∧ wL (eb_ b n p l).1 ∧ (eb_ b n p l).1.length = l.length + n
 | 0, p, l, hp, _, hl => ⟨Int.le_refl _, by simp [eb_], hl, rfl⟩
 | n + 1, p, l, hp, hp2, hl => by
  obtain ⟨q1, q2, q3⟩ := ajc_ b hp (by omega)
  obtain ⟨r1, r2, r3, r4⟩ := su_ b n (dTo b p).2 (l ++ [(dTo b p).1]) (by omega) (by omega) (sx_ hl q3)
  rw [eb_]
  refine ⟨by omega, by omega, r3, ?_⟩
  rw [r4, T2_, List.length_singleton]; omega
theorem zg_ (b : Str) : ∀ (n : Nat) (p : Int) (l : List Str), 0 ≤ p → p + n < 1000000 → wL l → p ≤ (go_ b n p l).2 ∧ (go_ b n p l).2 ≤ p + n + 1 ∧ wL (go_ b n p l).1 ∧ (go_ b n p l).1.length ≤ l.length + n
 | 0, p, l, hp, _, hl => ⟨Int.le_refl _, by simp only [go_]; omega, hl, Nat.le_refl _⟩
 | n + 1, p, l, hp, hp2, hl => by
  obtain ⟨r1, r2, r3, r4⟩ := zg_ b n (p + 1) (l ++ [tv_]) (by omega) (by omega) (sx_ hl (by decide))
  rw [go_]
  split
  ·refine ⟨by omega, by omega, r3, ?_⟩
   rw [T2_, List.length_singleton] at r4; omega
  ·exact ⟨by dsimp only; omega, by dsimp only; omega, hl, by dsimp only; omega⟩
def l5_ (b : Str) (p : Int) : List Str × Int :=
 if bo_ b (eb_ b (1 + (bo_ b p 6).toNat) (p + 1) []).2 30 = 0 then go_ b 20 ((eb_ b (1 + (bo_ b p 6).toNat) (p + 1) []).2 + 1) (eb_ b (1 + (bo_ b p 6).toNat) (p + 1) []).1
 else ((eb_ b (1 + (bo_ b p 6).toNat) (p + 1) []).1, (eb_ b (1 + (bo_ b p 6).toNat) (p + 1) []).2 + 1)
theorem w4_ (b : Str) {p : Int} (hp : 0 ≤ p) (hp2 : p < 100000) : p ≤ (l5_ b p).2 ∧ (l5_ b p).2 ≤ p + 9000 ∧ wL (l5_ b p).1 ∧ (l5_ b p).1.length ≤ 30 := by
 have h6 := d2_ b (p := p) (n := 6) hp (by omega) (by decide)
 obtain ⟨r1, r2, r3, r4⟩ := su_ b (1 + (bo_ b p 6).toNat) (p + 1) [] (by omega) (by omega) (fun w hw => by cases hw)
 unfold l5_
 simp only [List.length_nil] at r4
 split
 ·obtain ⟨s1, s2, s3, s4⟩ := zg_ b 20 ((eb_ b (1 + (bo_ b p 6).toNat) (p + 1) []).2 + 1) (eb_ b (1 + (bo_ b p 6).toNat) (p + 1) []).1 (by omega) (by omega) r3
  exact ⟨by omega, by omega, s3, by omega⟩
 ·exact ⟨by dsimp only; omega, by dsimp only; omega, r3, by dsimp only; omega⟩
def dTx (b : Str) (p : Int) : Str × Int := (cb_ (l5_ b p).1, (l5_ b p).2)
theorem aid_ (b : Str) {p : Int} (hp : 0 ≤ p) (hp2 : p < 100000) : (dTx b p).1.length ≤ 10000 := by
 obtain ⟨h1, h2, h3, h4⟩ := w4_ b hp hp2
 have := pj_ (l := (l5_ b p).1) (k := 300) h3
 have := Nat.mul_le_mul_right 301 h4
 show (cb_ _).length ≤ _
 omega
def saySeven : Str := [115, 97, 121, 32, 55]
def ca_ (l : List Pg) (k : Nat) (c : Int) : List Pg :=
 if c = 0 then l.set k { l.getD k Pg0 with text := (l.getD k Pg0).text ++ [32] }
 else if c = 1 then l.set k { l.getD k Pg0 with good := !(l.getD k Pg0).good }
 else if c = 2 then l.set k { l.getD k Pg0 with line := saySeven }
 else if c = 3 then []
 else l
def dBk (b : Str) (p : Int) : List Pg × Int :=
 if fv_ (dTx b p).1 = [] then ([], (dTx b p).2)
 else (ca_ (fv_ (dTx b p).1) (bo_ b (dTx b p).2 (fv_ (dTx b p).1).length).toNat (bo_ b ((dTx b p).2 + 1) 40), (dTx b p).2 + 1 + 1)
def pgB (p : Pg) : Prop := p.line.length ≤ 2000000 ∧ p.text.length ≤ 2000000 ∧ p.frm.length ≤ 2000000
theorem ad1_ (s : Sl) : (emF s).length ≤ 1000 := by
 by_cases h : sok s = true
 ·have := sr_ h; omega
 ·unfold emF; rw [if_neg h]; simp
theorem yc_ {s : Str} (h : s.length ≤ 2000000) : pgB (e8_ s) := by
 unfold e8_
 split
 ·cases hx : c6_ s with
  | none => exact ⟨h, by simp, by simp⟩
  | some x => exact ⟨h, by have := (h0_ x).2; dsimp only; omega, by have := ad1_ x; dsimp only; omega⟩
 ·exact ⟨by simp [Pg0], by simp [Pg0], by simp [Pg0]⟩
theorem an4_ (s : Str) : ∀ p ∈ fv_ s, pgB p := fun p hp => by
 unfold fv_ at hp
 split at hp
 ·obtain ⟨w, hw, rfl⟩ := List.mem_map.1 hp
  exact yc_ (by have := io_ s w hw; omega)
 ·cases hp
theorem yp_ (s : Str) : ∀ p ∈ fv_ s, p.line.length ≤ 4000 ∧ p.text.length ≤ 120 ∧ p.frm.length ≤ 1000 := fun p hp => by
 unfold fv_ at hp
 split at hp
 ·obtain ⟨w, hw, rfl⟩ := List.mem_map.1 hp
  have hl := io_ s w hw
  unfold e8_
  split
  ·cases hx : c6_ w with
   | none => exact ⟨hl, by simp, by simp⟩
   | some x => exact ⟨hl, (h0_ x).2, ad1_ x⟩
  ·exact ⟨by simp [Pg0], by simp [Pg0], by simp [Pg0]⟩
 ·cases hp
theorem ab7_ {l : List Pg} (h : ∀ p ∈ l, p.line.length ≤ 4000 ∧ p.text.length ≤ 120 ∧ p.frm.length ≤ 1000) (k : Nat) : (l.getD k Pg0).line.length ≤ 4000 ∧ (l.getD k Pg0).text.length ≤ 120 ∧ (l.getD k Pg0).frm.length ≤ 1000 := by
 rcases Nat.lt_or_ge k l.length with q | q
 ·exact h _ (bj_ q)
 ·rw [T8_, List.getElem?_eq_none q]; exact ⟨by simp [Pg0], by simp [Pg0], by simp [Pg0]⟩
theorem ae5_ {l : List Pg} (h : ∀ p ∈ l, p.line.length ≤ 4000 ∧ p.text.length ≤ 120 ∧ p.frm.length ≤ 1000) (k : Nat) (c : Int) : ∀ p ∈ ca_ l k c, pgB p := by
 have hg := ab7_ h k
 have hl : ∀ p ∈ l, pgB p := fun p hp => by have := h p hp; exact ⟨by omega, by omega, by omega⟩
 have hs : ∀ q : Pg, pgB q → ∀ p ∈ l.set k q, pgB p := fun q hq p hp => by
  rcases List.mem_or_eq_of_mem_set hp with h1 | h1
  ·exact hl p h1
  ·rw [h1]; exact hq
 unfold ca_
 split
 ·exact hs _ ⟨by dsimp only; omega, by dsimp only; rw [T2_, List.length_singleton]; omega, by dsimp only; omega⟩
 ·split
  ·exact hs _ ⟨by dsimp only; omega, by dsimp only; omega, by dsimp only; omega⟩
  ·split
   ·exact hs _ ⟨show saySeven.length ≤ 2000000 by decide, by dsimp only; omega, by dsimp only; omega⟩
   ·split
    ·intro p hp; cases hp
    ·exact hl
theorem amb_ (b : Str) (p : Int) : ∀ x ∈ (dBk b p).1, pgB x := by
 unfold dBk
 split
 ·intro x hx; cases hx
 ·exact ae5_ (yp_ _) _ _
theorem xj_ (l : List Pg) (k : Nat) (c : Int) : (ca_ l k c).length ≤ l.length := by
 unfold ca_
 split
 ·simp
 ·split
  ·simp
  ·split
   ·simp
   ·split <;> simp
theorem aiu_ (b : Str) (p : Int) : (dBk b p).1.length ≤ 16 := by
 unfold dBk
 split
 ·simp
 ·have := xj_ (fv_ (dTx b p).1) (bo_ b (dTx b p).2 (fv_ (dTx b p).1).length).toNat (bo_ b ((dTx b p).2 + 1) 40)
  have := p0_ (dTx b p).1
  dsimp only; omega
end
section
set_option maxRecDepth 100000
set_option maxHeartbeats 4000000
theorem afo_ (a b : List Int) (ha : a.length ≤ 1000000000) (hb : b.length ≤ 1000000000) : ACall En 98 [.sl false (inR a), .sl false (inR b)] [] [.b (a == b)] [] := by
 refine al_ (fn := Tryz.f98) [] Tryz.func98 rfl rfl (by simp) fun C => ?_
 rw [ay_]
 simp only [Tryz.ntmps98, T7_, List.length_nil, Nat.reduceAdd, Nat.reduceSub, List.replicate_succ, List.replicate_zero, List.cons_append, List.nil_append, bp_]
 refine .seq (.rgn [] (by simp only [go_sem, seval, ai_, ac_]; rfl) ?_ ?_)
 ·first | trivial | simp
 refine .seq (.seq (.rgn [] (by simp only [go_sem, seval, ai_, ac_]; rfl) ?_ ?_))
 ·first | trivial | simp
 refine .condB (by simp only [go_sem, seval, ai_, ac_]; rfl) (by simp only [go_sem, seval, ai_, ac_]) (fun h10 => ?_) (fun h10 => ?_)
 ·refine .seq (.rgn [] (by simp only [go_sem, seval, ai_, ac_]; rfl) ?_ ?_)
  ·first | trivial | simp
  refine .ret ⟨.inr rfl, ?_⟩
  exact Out.plain (by simp only [Tryz.results98]; rfl) (by simp only [az_, a7_, go_sem, seval, ai_, ac_] <;> (split <;> rfl)) (by simp only [a5_, go_sem, seval, ai_, ac_] <;> (have : a ≠ b := (fun e => by simp [e] at h10); simp [this])) (by simp only [go_sem, seval, ai_, ac_])
 ·refine .skip (.seq (.seq (.rgn [] (by simp only [go_sem, seval, ai_, ac_]; rfl) ?_ ?_)))
  ·first | trivial | simp
  refine .block (.loopK (fun k : Nat => ⟨[.sl false (inR a), .sl false (inR b), .no, .no, .no, .no, .no, .no, .no, .no, .no, .no, .i .i64 a.length, .i .i64 k, .no, .no, .no, .no, .no, .no, .no, .no, .no, .no, .no, .no], bc_ [], us []⟩) (fun k : Nat => k ≤ a.length ∧ a.take k = b.take k) (fun k : Nat => a.length - k) (0) ?_ ?_ (fun k hI => ?_))
  ·exact ⟨Nat.zero_le _, rfl⟩
  ·exact Can.weak (Weak.lit (by simp only [go_sem, seval, ai_, ac_, as_, leV, aq_, ar_, V.inn, us, T9_, Ta_] <;> (simp)) (by simp only [go_sem, seval, ai_, ac_, as_, leV, aq_, ar_, V.inn, us, T9_, Ta_]) (by simp only [go_sem, seval, ai_, ac_, as_, leV, aq_, ar_, V.inn, us, T9_, Ta_]))
  refine .seq (.rgn [] (by simp only [go_sem, seval, ai_, ac_]; rfl) ?_ ?_)
  ·first | trivial | simp
  refine .seq (.condB (by simp only [go_sem, seval, ai_, ac_]; rfl) (by simp only [go_sem, seval, ai_, ac_]) (fun h14 => ?_) (fun h14 => ?_))
  ·refine .skip (.seq (.block (.seq (.rgn [] (by simp only [go_sem, seval, ai_, ac_]; rfl) ?_ ?_))))
   ·first | trivial | simp
   refine .seq (.rgnD [] enM (by simp only [go_sem, seval, ai_, ac_, d0_ (show k < a.length by simpa using h14), d0_ (show k < b.length by simp at h14 h10; omega)]; rfl) (by rfl) ?_ ?_)
   ·simp at h14 h10; simp; omega
   refine .condB (by simp only [go_sem, seval, ai_, ac_]; rfl) (by simp only [go_sem, seval, ai_, ac_]) (fun h24 => ?_) (fun h24 => ?_)
   ·refine .seq (.rgn [] (by simp only [go_sem, seval, ai_, ac_]; rfl) ?_ ?_)
    ·first | trivial | simp
    refine .ret ⟨.inr rfl, ?_⟩
    exact Out.plain (by simp only [Tryz.results98]; rfl) (by simp only [az_, a7_, go_sem, seval, ai_, ac_] <;> (split <;> rfl)) (by simp only [a5_, go_sem, seval, ai_, ac_] <;> (have h2 : a.getD k 0 ≠ b.getD k 0 := bne_iff_ne.1 h24; have : a ≠ b := (fun e => h2 (by rw [e])); simp [this])) (by simp only [go_sem, seval, ai_, ac_])
   ·refine .skip (.rgn [] (by simp only [go_sem, seval, ai_, ac_]; rfl) ?_ ?_)
    ·first | trivial | simp
    refine Exists.intro (k + 1) ⟨?_, ?_, ?_⟩
    ·simp only [T3_] at h14; simp at h10; exact ⟨by omega, l6_ (d := 0) (by omega) (by omega) hI.2 (by simpa using h24)⟩
    ·simp at h14; omega
    exact Can.weak (Weak.lit (by simp only [go_sem, seval, ai_, ac_, as_, leV, aq_, ar_, V.inn, us, T9_, Ta_] <;> (rw [bf_ (by simp at h14; omega) (by simp at h14; omega)]; simp)) (by simp only [go_sem, seval, ai_, ac_, as_, leV, aq_, ar_, V.inn, us, T9_, Ta_]) (by simp only [go_sem, seval, ai_, ac_, as_, leV, aq_, ar_, V.inn, us, T9_, Ta_]))
  ·refine .exit (.seq (.rgn [] (by simp only [go_sem, seval, ai_, ac_]; rfl) ?_ ?_))
   ·first | trivial | simp
   refine .ret ⟨.inr rfl, ?_⟩
   exact Out.plain (by simp only [Tryz.results98]; rfl) (by simp only [az_, a7_, go_sem, seval, ai_, ac_] <;> (split <;> rfl)) (by simp only [a5_, go_sem, seval, ai_, ac_] <;> (simp only [T4_] at h14; simp at h10; have q := hI.2; rw [T1_ (by omega), T1_ (by omega)] at q; simp [q])) (by simp only [go_sem, seval, ai_, ac_])
theorem uc_ {p q : Pg} : (p = q) ↔ (((p.line = q.line ∧ p.good = q.good) ∧ p.text = q.text) ∧ p.frm = q.frm) := by
 constructor
 ·rintro rfl; exact ⟨⟨⟨rfl, rfl⟩, rfl⟩, rfl⟩
 ·intro h; obtain ⟨a, b, c, d⟩ := p; obtain ⟨a2, b2, c2, d2⟩ := q; simp_all
theorem ala_ (p q : Pg) (hp : pgB p) (hq : pgB q) : ACall En 64 [.ag (pgC p), .ag (pgC q)] [] [.b (decide (p = q))] [] := by
 have h1 := hp.2.2
 have h2 := hq.2.2
 have T := @uc_ p q
 refine al_ (fn := Tryz.f64) [] Tryz.func64 rfl rfl (by simp) fun C => ?_
 rw [ay_]
 simp only [Tryz.ntmps64, T7_, List.length_nil, Nat.reduceAdd, Nat.reduceSub, List.replicate_succ, List.replicate_zero, List.cons_append, List.nil_append, bp_]
 refine .seq (.rgn [] (by simp only [go_sem, seval, ah_, ac_]; rfl) ?_ ?_)
 ·first | trivial | simp
 refine .seq (.rgn [a4_ (afo_ p.frm q.frm (by omega) (by omega))] (by simp only [go_sem, seval, ah_, ac_]; rfl) ?_ ?_)
 ·first | trivial | simp
 refine .ret ⟨.inr rfl, ?_⟩
 exact Out.plain (by simp only [Tryz.results64]; rfl) (by simp only [az_, a7_, go_sem, seval, ah_, ac_] <;> (split <;> rfl)) (by simp only [a5_, go_sem, seval, ah_, ac_] <;> (have e : (p.line == q.line && p.good == q.good && p.text == q.text && p.frm == q.frm) = decide (p = q) := (by rw [Bool.eq_iff_iff]; simp only [T5_, beq_iff_eq, T3_]; exact T.symm); rw [e])) (by simp only [go_sem, seval, ah_, ac_])
theorem aa6_ (p : Pg) (hp : pgB p) : ACall En 62 [.ag (pgC p)] [] [.b (!okP p)] [] := by
 have P := sj_ p.line (by have := hp.1; omega)
 have B := yc_ hp.1
 refine al_ (fn := Tryz.f62) [] Tryz.func62 rfl rfl (by simp) fun C => ?_
 rw [ay_]
 simp only [Tryz.ntmps62, T7_, List.length_nil, Nat.reduceAdd, Nat.reduceSub, List.replicate_succ, List.replicate_zero, List.cons_append, List.nil_append, bp_]
 refine .seq (.rgn [] (by simp only [go_sem, seval, ah_, ac_]; rfl) ?_ ?_)
 ·first | trivial | simp
 refine .seq (.rgnD [a4_ (vl_ p.line (by have := hp.1; omega)), a4_ P, a4_ (ala_ p (e8_ p.line) hp B)] enM (by simp only [go_sem, seval, ah_, ac_]; rfl) (by rfl) ?_ ?_)
 ·first | trivial | simp
 refine .ret ⟨.inr rfl, ?_⟩
 exact Out.plain (by simp only [Tryz.results62]; rfl) (by simp only [az_, a7_, go_sem, seval, ah_, ac_] <;> (split <;> rfl)) (by simp only [a5_, go_sem, seval, ah_, ac_] <;> (rw [okP, Bool.not_and])) (by simp only [go_sem, seval, ah_, ac_])
theorem ag9_ (l : List Pg) (hs : ∀ p ∈ l, pgB p) (hl : l.length ≤ 1000000) : ACall En 96 [.sl false (pgR l), .fn (.func 62) [] []] [] [.i .i64 (xk_ (fun p => !okP p) l)] [] := by
 refine al_ (fn := Tryz.f96) [] Tryz.func96 rfl rfl (by simp) fun C => ?_
 rw [ay_]
 simp only [Tryz.ntmps96, T7_, List.length_nil, Nat.reduceAdd, Nat.reduceSub, List.replicate_succ, List.replicate_zero, List.cons_append, List.nil_append, bp_]
 refine .seq (.rgn [] (by simp only [go_sem, seval, af_, ad_, ah_]; rfl) ?_ ?_)
 ·first | trivial | simp
 refine .seq (.seq (.rgn [] (by simp only [go_sem, seval, af_, ad_, ah_]; rfl) ?_ ?_))
 ·first | trivial | simp
 refine .block (.loopK (fun k : Nat => ⟨[.sl false (pgR l), .fn (.func 62) [] [], .no, .no, .no, .no, .no, .i .i64 l.length, .i .i64 k, .no, .no, .no, .no, .no, .no, .no, .no, .no, .no], bc_ [], us []⟩) (fun k : Nat => k ≤ l.length ∧ (l.take k).any (fun p => !okP p) = false) (fun k : Nat => l.length - k) (0) ?_ ?_ (fun k hI => ?_))
 ·simp
 ·exact Can.weak (Weak.lit (by simp only [go_sem, seval, af_, ad_, ah_, as_, leV, aq_, ar_, V.inn, us, T9_, Ta_] <;> (simp)) (by simp only [go_sem, seval, af_, ad_, ah_, as_, leV, aq_, ar_, V.inn, us, T9_, Ta_]) (by simp only [go_sem, seval, af_, ad_, ah_, as_, leV, aq_, ar_, V.inn, us, T9_, Ta_]))
 refine .seq (.rgn [] (by simp only [go_sem, seval, af_, ad_, ah_]; rfl) ?_ ?_)
 ·first | trivial | simp
 refine .seq (.condB (by simp only [go_sem, seval, af_, ad_, ah_]; rfl) (by simp only [go_sem, seval, af_, ad_, ah_]) (fun h9 => ?_) (fun h9 => ?_))
 ·refine .skip (.seq (.block (.seq (.rgn [] (by simp only [go_sem, seval, af_, ad_, ah_]; rfl) ?_ ?_))))
  ·first | trivial | simp
  refine .seq (.rgn [cg_ (k < l.length) (fun h => aa6_ (l.getD k Pg0) (hs _ (bj_ h)))] (by simp only [go_sem, seval, af_, ad_, ah_, cw_ (show k < l.length by simpa using h9)]; rfl) ?_ ?_)
  ·simp only [T3_] at h9; simp only [afn_, ac_, cf_, V.pure, Bool.and_true, true_and]; and_intros <;> first | omega | (simp; done) | trivial
  refine .condB (by simp only [go_sem, seval, af_, ad_, ah_]; rfl) (by simp only [go_sem, seval, af_, ad_, ah_]) (fun h16 => ?_) (fun h16 => ?_)
  ·refine .seq (.rgn [] (by simp only [go_sem, seval, af_, ad_, ah_]; rfl) ?_ ?_)
   ·first | trivial | simp
   refine .ret ⟨.inr rfl, ?_⟩
   exact Out.plain (by simp only [Tryz.results96]; rfl) (by simp only [az_, a7_, go_sem, seval, af_, ad_, ah_] <;> (split <;> rfl)) (by simp only [a5_, go_sem, seval, af_, ad_, ah_] <;> (simp at h9; rw [ag1_ (d := Pg0) h9 hI.2 h16])) (by simp only [go_sem, seval, af_, ad_, ah_])
  ·refine .skip (.rgn [] (by simp only [go_sem, seval, af_, ad_, ah_]; rfl) ?_ ?_)
   ·first | trivial | simp
   refine Exists.intro (k + 1) ⟨?_, ?_, ?_⟩
   ·simp at h9; refine ⟨by omega, ?_⟩; rw [afk_ (d := Pg0) h9, hI.2, h16]; rfl
   ·simp at h9; omega
   exact Can.weak (Weak.lit (by simp only [go_sem, seval, af_, ad_, ah_, as_, leV, aq_, ar_, V.inn, us, T9_, Ta_] <;> (rw [bf_ (by omega) (by omega)]; simp)) (by simp only [go_sem, seval, af_, ad_, ah_, as_, leV, aq_, ar_, V.inn, us, T9_, Ta_]) (by simp only [go_sem, seval, af_, ad_, ah_, as_, leV, aq_, ar_, V.inn, us, T9_, Ta_]))
 ·refine .exit (.seq (.rgn [] (by simp only [go_sem, seval, af_, ad_, ah_]; rfl) ?_ ?_))
  ·first | trivial | simp
  refine .ret ⟨.inr rfl, ?_⟩
  exact Out.plain (by simp only [Tryz.results96]; rfl) (by simp only [az_, a7_, go_sem, seval, af_, ad_, ah_] <;> (split <;> rfl)) (by simp only [a5_, go_sem, seval, af_, ad_, ah_] <;> (simp at h9; have h0 := hI.2; rw [T1_ h9] at h0; rw [aae_ h0])) (by simp only [go_sem, seval, af_, ad_, ah_])
theorem aep_ (l : List Pg) (hs : ∀ p ∈ l, pgB p) (hl : l.length ≤ 1000000) : ACall En 61 [.sl false (pgR l), .fn (.func 62) [] []] [] [.b (l.any fun p => !okP p)] [] := by
 refine al_ (fn := Tryz.f61) [] Tryz.func61 rfl rfl (by simp) fun C => ?_
 rw [ay_]
 simp only [Tryz.ntmps61, T7_, List.length_nil, Nat.reduceAdd, Nat.reduceSub, List.replicate_succ, List.replicate_zero, List.cons_append, List.nil_append, bp_]
 refine .seq (.rgn [] (by simp only [go_sem, seval, ad_]; rfl) ?_ ?_)
 ·first | trivial | simp
 refine .seq (.rgn [a4_ (ag9_ l hs hl)] (by simp only [go_sem, seval, ad_]; rfl) ?_ ?_)
 ·first | trivial | simp
 refine .ret ⟨.inr rfl, ?_⟩
 exact Out.plain (by simp only [Tryz.results61]; rfl) (by simp only [az_, a7_, go_sem, seval, ad_] <;> (split <;> rfl)) (by simp only [a5_, go_sem, seval, ad_] <;> (rw [agl_])) (by simp only [go_sem, seval, ad_])
theorem ahv_ (l : List Pg) : cl_ l = ((decide ((1 : Int) ≤ l.length) && decide ((l.length : Int) ≤ 16)) && !l.any fun p => !okP p) := by
 rw [List.any_eq_not_all_not]; simp only [cl_, Bool.not_not, hu_]; rfl
theorem m3_ (l : List Pg) (hs : ∀ p ∈ l, pgB p) (hl : l.length ≤ 1000000) : ACall En 21 [.sl false (pgR l)] [] [.b (cl_ l)] [] := by
 refine al_ (fn := Tryz.f21) [] Tryz.func21 rfl rfl (by simp) fun C => ?_
 rw [ay_]
 simp only [Tryz.ntmps21, T7_, List.length_nil, Nat.reduceAdd, Nat.reduceSub, List.replicate_succ, List.replicate_zero, List.cons_append, List.nil_append, bp_]
 refine .seq (.rgn [] (by simp only [go_sem, seval, af_, ad_]; rfl) ?_ ?_)
 ·first | trivial | simp
 refine .seq (.rgn [a4_ (xm_ l.length 1 16), a4_ (aep_ l hs hl)] (by simp only [go_sem, seval, af_, ad_]; rfl) ?_ ?_)
 ·first | trivial | simp
 refine .ret ⟨.inr rfl, ?_⟩
 exact Out.plain (by simp only [Tryz.results21]; rfl) (by simp only [az_, a7_, go_sem, seval, af_, ad_] <;> (split <;> rfl)) (by simp only [a5_, go_sem, seval, af_, ad_] <;> (rw [ahv_])) (by simp only [go_sem, seval, af_, ad_])
def zPg : List V := [.s [], .b false, .s [], .sl true []]
theorem fa_ (l : List Pg) (k j : Nat) : ((eh_ (pgR l) zPg k).getD j []).drop 4 = [] := by
 rw [T8_]
 cases h : (eh_ (pgR l) zPg k)[j]? with
 | none => rfl
 | some r =>
  have hm := List.mem_of_getElem? h
  have : r.length = 4 := by
   rcases ll_ hm with hm | rfl
   ·obtain ⟨s, _, rfl⟩ := List.mem_map.1 hm; rfl
   ·rfl
  simp only [Option.getD_some]; exact List.drop_of_length_le (by omega)
theorem ah1_ {ls : List Str} {k : Nat} (h : k < ls.length) : (pgR (ls.map e8_)).getD k [] = pgC (e8_ (ls.getD k [])) := by
 rw [cw_ (by simpa using h)]
 simp [T8_, T6_ h]
theorem agz_ (s : Str) (hs : s.length ≤ 281474976710656) : ACall En 33 [.s s] [] [.sl false (pgR (fv_ s))] [] := by
 have hL := p9_ s
 have hM := io_ s
 have hb : fv_ s = if (dj_ s).length ≤ 16 then (dj_ s).map e8_ else [] := rfl
 have T := iv_ s hs
 generalize dj_ s = ls at *
 have hp : ∀ k, b4_ (eh_ (pgR (ls.map e8_)) zPg k) = true := fun k => gy_ (ad_ _) rfl
 have hll : (pgR (ls.map e8_)).length = ls.length := by simp [pgR]
 refine al_ (fn := Tryz.f33) [] Tryz.func33 rfl rfl (by simp) fun C => ?_
 rw [ay_]
 simp only [Tryz.ntmps33, T7_, List.length_nil, Nat.reduceAdd, Nat.reduceSub, List.replicate_succ, List.replicate_zero, List.cons_append, List.nil_append, bp_]
 refine .seq (.rgn [] (by simp only [go_sem, seval, ab_, aa_, ad_, hp, hll, fa_, aw_, ah_]; rfl) ?_ ?_)
 ·(first | trivial | (simp; done) | (simp only [T3_, T4_] at h11 h18; and_intros <;> first | omega | exact ac_ _) | (simp only [T4_] at h11; and_intros <;> omega))
 refine .seq (.rgn [a4_ T] (by simp only [go_sem, seval, ab_, aa_, ad_, hp, hll, fa_, aw_, ah_]; rfl) ?_ ?_)
 ·(first | trivial | (simp; done) | (simp only [T3_, T4_] at h11 h18; and_intros <;> first | omega | exact ac_ _) | (simp only [T4_] at h11; and_intros <;> omega))
 refine .seq (.seq (.rgn [] (by simp only [go_sem, seval, ab_, aa_, ad_, hp, hll, fa_, aw_, ah_]; rfl) ?_ ?_))
 ·(first | trivial | (simp; done) | (simp only [T3_, T4_] at h11 h18; and_intros <;> first | omega | exact ac_ _) | (simp only [T4_] at h11; and_intros <;> omega))
 refine .condB (by simp only [go_sem, seval, ab_, aa_, ad_, hp, hll, fa_, aw_, ah_]; rfl) (by simp only [go_sem, seval, ab_, aa_, ad_, hp, hll, fa_, aw_, ah_]) (fun h11 => ?_) (fun h11 => ?_)
 ·refine .seq (.rgn [] (by simp only [go_sem, seval, ab_, aa_, ad_, hp, hll, fa_, aw_, ah_]; rfl) ?_ ?_)
  ·(first | trivial | (simp; done) | (simp only [T3_, T4_] at h11 h18; and_intros <;> first | omega | exact ac_ _) | (simp only [T4_] at h11; and_intros <;> omega))
  refine .ret ⟨.inr rfl, ?_⟩
  exact Out.plainL (by simp only [Tryz.results33]; rfl) (by simp only [az_, a7_, go_sem, seval, ab_, aa_, ad_, hp, hll, fa_, aw_, ah_] <;> (split <;> rfl)) (by simp only [a5_, go_sem, seval, ab_, aa_, ad_, hp, hll, fa_, aw_, ah_] <;> (simp only [T3_] at h11; rw [hb, if_neg (by omega)]; simp [pgR, les, ler, leV])) (by simp only [go_sem, seval, ab_, aa_, ad_, hp, hll, fa_, aw_, ah_])
 ·refine .skip (.seq (.rgn [] (by simp only [go_sem, seval, ab_, aa_, ad_, hp, hll, fa_, aw_, ah_]; rfl) ?_ ?_))
  ·(first | trivial | (simp; done) | (simp only [T3_, T4_] at h11 h18; and_intros <;> first | omega | exact ac_ _) | (simp only [T4_] at h11; and_intros <;> omega))
  refine .seq (.seq (.rgn [] (by simp only [go_sem, seval, ab_, aa_, ad_, hp, hll, fa_, aw_, ah_]; rfl) ?_ ?_))
  ·(first | trivial | (simp; done) | (simp only [T3_, T4_] at h11 h18; and_intros <;> first | omega | exact ac_ _) | (simp only [T4_] at h11; and_intros <;> omega))
  refine .block (.loopK (fun k : Nat => ⟨[.no, .no, .no, .no, .ow 24 4 0 ls.length, .no, .no, .no, .no, .no, .no, .no, .no, .no, .no, .sl false (bn_ ls), .i .i64 ls.length, .i .i64 k, .no, .no, .no, .no, .no, .no, .no, .no, .no, .no, .no], bc_ [(24, ⟨37, 4, eh_ (pgR (ls.map e8_)) zPg k⟩)], us [24]⟩) (fun k : Nat => k ≤ ls.length) (fun k : Nat => ls.length - k) (0) ?_ ?_ (fun k hI => ?_))
  ·simp
  ·exact Can.weak (Weak.lit (by simp only [go_sem, seval, ab_, aa_, ad_, hp, hll, fa_, aw_, ah_, as_, leV, aq_, ar_, V.inn, us, T9_, Ta_] <;> ((try simp))) (by simp only [go_sem, seval, ab_, aa_, ad_, hp, hll, fa_, aw_, ah_, as_, leV, aq_, ar_, V.inn, us, T9_, Ta_]) (by simp only [go_sem, seval, ab_, aa_, ad_, hp, hll, fa_, aw_, ah_, as_, leV, aq_, ar_, V.inn, us, T9_, Ta_] <;> (simp [gx_, zPg, hll])))
  refine .seq (.rgn [] (by simp only [go_sem, seval, ab_, aa_, ad_, hp, hll, fa_, aw_, ah_]; rfl) ?_ ?_)
  ·(first | trivial | (simp; done) | (simp only [T3_, T4_] at h11 h18; and_intros <;> first | omega | exact ac_ _) | (simp only [T4_] at h11; and_intros <;> omega))
  refine .seq (.condB (by simp only [go_sem, seval, ab_, aa_, ad_, hp, hll, fa_, aw_, ah_]; rfl) (by simp only [go_sem, seval, ab_, aa_, ad_, hp, hll, fa_, aw_, ah_]) (fun h18 => ?_) (fun h18 => ?_))
  ·refine .skip (.seq (.block (.seq (.rgn [] (by simp only [go_sem, seval, ab_, aa_, ad_, hp, hll, fa_, aw_, ah_, b6_ (show k < ls.length by simpa using h18)]; rfl) ?_ ?_))))
   ·(first | trivial | (simp; done) | (simp only [T3_, T4_] at h11 h18; and_intros <;> first | omega | exact ac_ _) | (simp only [T4_] at h11; and_intros <;> omega))
   refine .rgn [cg_ (k < ls.length) (fun h => sj_ (ls.getD k []) (by have := hM _ (bj_ (d := []) h); omega))] (by simp only [go_sem, seval, ab_, aa_, ad_, hp, hll, fa_, aw_, ah_]; rfl) ?_ ?_
   ·(first | trivial | (simp; done) | (simp only [T3_, T4_] at h11 h18; and_intros <;> first | omega | exact ac_ _) | (simp only [T4_] at h11; and_intros <;> omega))
   refine .rgn [] (by simp only [go_sem, seval, ab_, aa_, ad_, hp, hll, fa_, aw_, ah_]; rfl) ?_ ?_
   ·(first | trivial | (simp; done) | (simp only [T3_, T4_] at h11 h18; and_intros <;> first | omega | exact ac_ _) | (simp only [T4_] at h11; and_intros <;> omega))
   refine Exists.intro (k + 1) ⟨?_, ?_, ?_⟩
   ·simp at h18; omega
   ·simp at h18; omega
   exact Can.weak (Weak.lit (by simp only [go_sem, seval, ab_, aa_, ad_, hp, hll, fa_, aw_, ah_, as_, leV, aq_, ar_, V.inn, us, T9_, Ta_] <;> (rw [bf_ (by simp at h18; omega) (by simp at h18; omega)]; (try simp))) (by simp only [go_sem, seval, ab_, aa_, ad_, hp, hll, fa_, aw_, ah_, as_, leV, aq_, ar_, V.inn, us, T9_, Ta_]) (by simp only [go_sem, seval, ab_, aa_, ad_, hp, hll, fa_, aw_, ah_, as_, leV, aq_, ar_, V.inn, us, T9_, Ta_] <;> (rw [← hd_ (by rw [hll]; simpa using h18), ah1_ (by simpa using h18), ah_])))
  ·refine .exit (.seq (.rgn [] (by simp only [go_sem, seval, ab_, aa_, ad_, hp, hll, fa_, aw_, ah_]; rfl) ?_ ?_))
   ·(first | trivial | (simp; done) | (simp only [T3_, T4_] at h11 h18; and_intros <;> first | omega | exact ac_ _) | (simp only [T4_] at h11; and_intros <;> omega))
   refine .frz 24 (by simp only [go_sem, seval, ab_, aa_, ad_, hp, hll, fa_, aw_, ah_]; rfl) (by simp only [go_sem, seval, ab_, aa_, ad_, hp, hll, fa_, aw_, ah_]) (by simp only [go_sem, seval, ab_, aa_, ad_, hp, hll, fa_, aw_, ah_]; rfl) (by simp only [go_sem, seval, ab_, aa_, ad_, hp, hll, fa_, aw_, ah_]; rfl) ?_
   refine .ret ⟨.inr rfl, ?_⟩
   exact Out.plainL (by simp only [Tryz.results33]; rfl) (by simp only [az_, a7_, go_sem, seval, ab_, aa_, ad_, hp, hll, fa_, aw_, ah_] <;> (split <;> rfl)) (by simp only [a5_, go_sem, seval, ab_, aa_, ad_, hp, hll, fa_, aw_, ah_] <;> (simp only [T4_] at h11 h18; rw [hb, if_pos (by omega), id_ (by rw [hll]; omega), T1_ (by rw [hll]; exact Nat.le_refl _)]; simp [les, leV, bd_])) (by simp only [go_sem, seval, ab_, aa_, ad_, hp, hll, fa_, aw_, ah_])
end
end Go.Proofs.YtilppnadkfgnfaaGreatDoor
