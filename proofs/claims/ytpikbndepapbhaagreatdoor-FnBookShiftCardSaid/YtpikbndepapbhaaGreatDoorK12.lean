/- Books: lines with what they are turned into, plainly. Conditions: none. -/
import Derived.Test.YtpikbndepapbhaaGreatDoorK11
import Derived.Test.YtpikbndepapbhaaGreatDoorK3
import Derived.Test.YtpikbndepapbhaaGreatDoorKr
set_option linter.unusedVariables false
set_option linter.unusedSimpArgs false
namespace Go.Proofs.YtpikbndepapbhaaGreatDoor
section
set_option maxRecDepth 100000
def okP (p : Pg) : Bool := f3_ p.line && decide (p = ec_ p.line)
def ct_ (l : List Pg) : Bool := decide (1 ≤ l.length) && decide (l.length ≤ 16) && l.all okP
def ik_ (s : Str) : List Pg := if (gs_ s).length ≤ 16 then (gs_ s).map ec_ else []
def sv_ (s : Str) : Sl := (c6_ s).getD S0
def jl_ (l : List Pg) : List Sl := l.map fun p => sv_ p.line
def iv_ (l : List Pg) : Str := if ct_ l then c2_ (l.map (·.text)) else []
def ez_ (l : List Pg) : Nat → List Sg
 | 0 => []
 | k + 1 => ez_ l k ++ (if (l.getD k Pg0).good then sgs k ((bv_ (l.getD k Pg0).text).getD []) (l.getD k Pg0).frm else [])
def cq_ (l : List Pg) : List Sg := if ct_ l then ez_ l l.length else []
def dd_ (l : List Pg) : Nat → List Int
 | 0 => []
 | k + 1 => dd_ l k ++ (if (l.getD k Pg0).good then [] else [(k : Int)])
def dy_ (l : List Pg) : List Int := if ct_ l then dd_ l l.length else []
theorem dg_ {l : List Pg} (h : ct_ l = true) : 1 ≤ l.length ∧ l.length ≤ 16 ∧ ∀ k, k < l.length → okP (l.getD k Pg0) = true := by
 simp only [ct_, T5_, T3_] at h
 exact ⟨h.1.1, h.1.2, fun k hk => List.all_eq_true.1 h.2 _ (bh_ hk)⟩
theorem agc_ {p : Pg} (h : okP p = true) : f3_ p.line = true ∧ p = ec_ p.line := by
 simp only [okP, T5_, T3_] at h; exact h
theorem ur_ (s : Str) : sok (sv_ s) = true := by
 unfold sv_
 cases h : c6_ s with
 | none => exact so_
 | some x => exact (j4_.1 h).1
theorem emT_S0' : emT S0 = [] := by unfold emT; rw [if_pos so_]; decide
theorem j5_ {p : Pg} (h : okP p = true) : p.text = emT (sv_ p.line) ∧ p.frm = emF (sv_ p.line) ∧ p.good = (c6_ p.line).isSome := by
 obtain ⟨h1, h2⟩ := agc_ h
 unfold sv_
 cases hx : c6_ p.line with
 | none => rw [h2, qr_ h1 (by rw [hx]; rfl)]; exact ⟨emT_S0'.symm, emF_S0.symm, rfl⟩
 | some x => rw [h2, tl_ h1 (by rw [hx]; rfl), hx]; exact ⟨rfl, rfl, rfl⟩
theorem xw_ {l : List Pg} {k : Nat} (h : k < l.length) : (jl_ l).getD k S0 = sv_ (l.getD k Pg0).line := by
 simp [jl_, T8_, T6_ h]
theorem kz_ (l : List Pg) : (jl_ l).length = l.length := by simp [jl_]
theorem ae1_ {l : List Pg} (h : ct_ l = true) : pok (jl_ l) = true := by
 obtain ⟨h1, h2, _⟩ := dg_ h
 simp only [pok, kz_, T5_, T3_]
 refine ⟨⟨h1, h2⟩, List.all_eq_true.2 fun x hx => ?_⟩
 obtain ⟨p, _, rfl⟩ := List.mem_map.1 hx
 exact ur_ _
theorem ag7_ {p : Pg} (h : okP p = true) (hg : p.good = false) : sv_ p.line = S0 := by
 have := (j5_ h).2.2
 unfold sv_
 cases hx : c6_ p.line with
 | none => rfl
 | some x => rw [hg, hx] at this; cases this
theorem yc_ {l : List Pg} (h : ct_ l = true) : ∀ k, k ≤ l.length → ez_ l k = sgN (jl_ l) k
 | 0, _ => rfl
 | k + 1, hk => by
  have ho := (dg_ h).2.2 k (by omega)
  rw [ez_, sgN, yc_ h k (by omega), xw_ (by omega)]
  congr 1
  cases hg : (l.getD k Pg0).good with
  | true => obtain ⟨q1, q2, _⟩ := j5_ ho; rw [q1, q2]; rfl
  | false => rw [ag7_ ho hg, al6_]; rfl
theorem aga_ {l : List Pg} (h : ct_ l = true) : cq_ l = sgP (jl_ l) := by
 unfold cq_ sgP
 rw [if_pos h, if_pos (ae1_ h), yc_ h _ (Nat.le_refl _), kz_]
theorem lj_ {l : List Pg} (h : ct_ l = true) : ∀ p ∈ l, okP p = true := by
 simp only [ct_, T5_] at h
 exact List.all_eq_true.1 h.2
theorem lu_ (s : Sl) : lnOk (emT s) := by
 by_cases h : sok s = true
 ·rw [rv_ h]; exact ye_ (uh_ h)
 ·unfold emT; rw [if_neg h]; exact ⟨rfl, by simp⟩
end
section
set_option maxRecDepth 100000
theorem lg_ (l : List Pg) : ∀ k, (dd_ l k).length ≤ k
 | 0 => by simp [dd_]
 | k + 1 => by
  have := lg_ l k
  rw [dd_, T2_]; split <;> simp <;> omega
theorem lh_ {l : List Pg} {i n : Nat} (h : (l.getD i Pg0).good = false) : (dd_ l (i + 1)).length = (dd_ l i).length + 1 := by rw [dd_, h]; simp
theorem fm_ {l : List Pg} {i : Nat} (h : (l.getD i Pg0).good = true) : dd_ l (i + 1) = dd_ l i := by rw [dd_, h]; simp
theorem kc_ (l : List Pg) : (cq_ l).length ≤ 2000 := by
 cases h : ct_ l with
 | true => rw [aga_ h]; have := ame_ (jl_ l); omega
 | false => unfold cq_; rw [h]; simp
theorem afb_ (l : List Pg) : (dy_ l).length ≤ 16 := by
 unfold dy_; split
 ·rename_i h; have := lg_ l l.length; have := (dg_ h).2.1; omega
 ·simp
theorem abx_ (l : List Pg) : (iv_ l).length ≤ 3000 := by
 unfold iv_; split
 ·rename_i h
  have h1 := (dg_ h).2.1
  have := aa3_ (l := l.map (·.text)) (k := 120) fun s hs => by
   obtain ⟨p, hp, rfl⟩ := List.mem_map.1 hs
   rw [(j5_ (lj_ h p hp)).1]; exact (lu_ _).2
  rw [List.length_map] at this
  have := Nat.mul_le_mul_right 121 h1
  omega
 ·simp
theorem uy_ (s : Str) : (ik_ s).length ≤ 16 := by unfold ik_; split <;> simp; omega
end
section
set_option maxRecDepth 100000
def ek_ (b : Str) : Nat → Int → List Str → List Str × Int
 | 0, p, l => (l, p)
 | n + 1, p, l => ek_ b n (dTo b p).2 (l ++ [(dTo b p).1])
def t0_ : Str := [115, 97, 121, 32, 49]
def gv_ (b : Str) : Nat → Int → List Str → List Str × Int
 | 0, p, l => (l, p)
 | n + 1, p, l => if (l.length : Int) < 16 + bn_ b p 2 then gv_ b n (p + 1) (l ++ [t0_]) else (l, p + 1)
def wL (l : List Str) : Prop := ∀ w ∈ l, w.length ≤ 300
theorem ss_ {l : List Str} {w : Str} (h : wL l) (hw : w.length ≤ 300) : wL (l ++ [w]) := fun x hx => by
 rcases List.mem_append.1 hx with hx | hx
 ·exact h x hx
 ·simp at hx; subst hx; exact hw
theorem t5_ (b : Str) : ∀ (n : Nat) (p : Int) (l : List Str), 0 ≤ p → p + 1000 * n < 1000000 → wL l → p ≤ (ek_ b n p l).2 ∧ (ek_ b n p l).2 ≤ p + 1000 * n ∧ wL (ek_ b n p l).1 ∧ (ek_ b n p l).1.length = l.length + n
 | 0, p, l, hp, _, hl => ⟨Int.le_refl _, by simp [ek_], hl, rfl⟩
 | n + 1, p, l, hp, hp2, hl => by
  obtain ⟨q1, q2, q3⟩ := ak8_ b hp (by omega)
  obtain ⟨r1, r2, r3, r4⟩ := t5_ b n (dTo b p).2 (l ++ [(dTo b p).1]) (by omega) (by omega) (ss_ hl q3)
  rw [ek_]
  refine ⟨by omega, by omega, r3, ?_⟩
  rw [r4, T2_, List.length_singleton]; omega
theorem y5_ (b : Str) : ∀ (n : Nat) (p : Int) (l : List Str), 0 ≤ p → p + n < 1000000 → wL l → p ≤ (gv_ b n p l).2 ∧ (gv_ b n p l).2 ≤ p + n + 1 ∧ wL (gv_ b n p l).1 ∧ (gv_ b n p l).1.length ≤ l.length + n
 | 0, p, l, hp, _, hl => ⟨Int.le_refl _, by simp only [gv_]; omega, hl, Nat.le_refl _⟩
 | n + 1, p, l, hp, hp2, hl => by
  obtain ⟨r1, r2, r3, r4⟩ := y5_ b n (p + 1) (l ++ [t0_]) (by omega) (by omega) (ss_ hl (by decide))
  rw [gv_]
  split
  ·refine ⟨by omega, by omega, r3, ?_⟩
   rw [T2_, List.length_singleton] at r4; omega
  ·exact ⟨by dsimp only; omega, by dsimp only; omega, hl, by dsimp only; omega⟩
def k3_ (b : Str) (p : Int) : List Str × Int :=
 if bn_ b (ek_ b (1 + (bn_ b p 6).toNat) (p + 1) []).2 30 = 0 then gv_ b 20 ((ek_ b (1 + (bn_ b p 6).toNat) (p + 1) []).2 + 1) (ek_ b (1 + (bn_ b p 6).toNat) (p + 1) []).1
 else ((ek_ b (1 + (bn_ b p 6).toNat) (p + 1) []).1, (ek_ b (1 + (bn_ b p 6).toNat) (p + 1) []).2 + 1)
theorem sx_ (b : Str) {p : Int} (hp : 0 ≤ p) (hp2 : p < 100000) : p ≤ (k3_ b p).2 ∧ (k3_ b p).2 ≤ p + 9000 ∧ wL (k3_ b p).1 ∧ (k3_ b p).1.length ≤ 30 := by
 have h6 := d1_ b (p := p) (n := 6) hp (by omega) (by decide)
 obtain ⟨r1, r2, r3, r4⟩ := t5_ b (1 + (bn_ b p 6).toNat) (p + 1) [] (by omega) (by omega) (fun w hw => by cases hw)
 unfold k3_
 simp only [List.length_nil] at r4
 split
 ·obtain ⟨s1, s2, s3, s4⟩ := y5_ b 20 ((ek_ b (1 + (bn_ b p 6).toNat) (p + 1) []).2 + 1) (ek_ b (1 + (bn_ b p 6).toNat) (p + 1) []).1 (by omega) (by omega) r3
  exact ⟨by omega, by omega, s3, by omega⟩
 ·exact ⟨by dsimp only; omega, by dsimp only; omega, r3, by dsimp only; omega⟩
def dTx (b : Str) (p : Int) : Str × Int := (c2_ (k3_ b p).1, (k3_ b p).2)
theorem ajo_ (b : Str) {p : Int} (hp : 0 ≤ p) (hp2 : p < 100000) : (dTx b p).1.length ≤ 10000 := by
 obtain ⟨h1, h2, h3, h4⟩ := sx_ b hp hp2
 have := aa3_ (l := (k3_ b p).1) (k := 300) h3
 have := Nat.mul_le_mul_right 301 h4
 show (c2_ _).length ≤ _
 omega
def saySeven : Str := [115, 97, 121, 32, 55]
def cg_ (l : List Pg) (k : Nat) (c : Int) : List Pg :=
 if c = 0 then l.set k { l.getD k Pg0 with text := (l.getD k Pg0).text ++ [32] }
 else if c = 1 then l.set k { l.getD k Pg0 with good := !(l.getD k Pg0).good }
 else if c = 2 then l.set k { l.getD k Pg0 with line := saySeven }
 else if c = 3 then []
 else l
def dBk (b : Str) (p : Int) : List Pg × Int :=
 if ik_ (dTx b p).1 = [] then ([], (dTx b p).2)
 else (cg_ (ik_ (dTx b p).1) (bn_ b (dTx b p).2 (ik_ (dTx b p).1).length).toNat (bn_ b ((dTx b p).2 + 1) 40), (dTx b p).2 + 1 + 1)
def pgB (p : Pg) : Prop := p.line.length ≤ 2000000 ∧ p.text.length ≤ 2000000 ∧ p.frm.length ≤ 2000000
theorem ahr_ (s : Sl) : (emF s).length ≤ 1000 := by
 by_cases h : sok s = true
 ·have := xq_ h; omega
 ·unfold emF; rw [if_neg h]; simp
theorem yq_ {s : Str} (h : s.length ≤ 2000000) : pgB (ec_ s) := by
 unfold ec_
 split
 ·cases hx : c6_ s with
  | none => exact ⟨h, by simp, by simp⟩
  | some x => exact ⟨h, by have := (lu_ x).2; dsimp only; omega, by have := ahr_ x; dsimp only; omega⟩
 ·exact ⟨by simp [Pg0], by simp [Pg0], by simp [Pg0]⟩
theorem zo_ (s : Str) : ∀ p ∈ ik_ s, p.line.length ≤ 4000 ∧ p.text.length ≤ 120 ∧ p.frm.length ≤ 1000 := fun p hp => by
 unfold ik_ at hp
 split at hp
 ·obtain ⟨w, hw, rfl⟩ := List.mem_map.1 hp
  have hl := qi_ s w hw
  unfold ec_
  split
  ·cases hx : c6_ w with
   | none => exact ⟨hl, by simp, by simp⟩
   | some x => exact ⟨hl, (lu_ x).2, ahr_ x⟩
  ·exact ⟨by simp [Pg0], by simp [Pg0], by simp [Pg0]⟩
 ·cases hp
theorem agn_ {l : List Pg} (h : ∀ p ∈ l, p.line.length ≤ 4000 ∧ p.text.length ≤ 120 ∧ p.frm.length ≤ 1000) (k : Nat) : (l.getD k Pg0).line.length ≤ 4000 ∧ (l.getD k Pg0).text.length ≤ 120 ∧ (l.getD k Pg0).frm.length ≤ 1000 := by
 rcases Nat.lt_or_ge k l.length with q | q
 ·exact h _ (bh_ q)
 ·rw [T8_, List.getElem?_eq_none q]; exact ⟨by simp [Pg0], by simp [Pg0], by simp [Pg0]⟩
theorem afm_ {l : List Pg} (h : ∀ p ∈ l, p.line.length ≤ 4000 ∧ p.text.length ≤ 120 ∧ p.frm.length ≤ 1000) (k : Nat) (c : Int) : ∀ p ∈ cg_ l k c, pgB p := by
 have hg := agn_ h k
 have hl : ∀ p ∈ l, pgB p := fun p hp => by have := h p hp; exact ⟨by omega, by omega, by omega⟩
 have hs : ∀ q : Pg, pgB q → ∀ p ∈ l.set k q, pgB p := fun q hq p hp => by
  rcases List.mem_or_eq_of_mem_set hp with h1 | h1
  ·exact hl p h1
  ·rw [h1]; exact hq
 unfold cg_
 split
 ·exact hs _ ⟨by dsimp only; omega, by dsimp only; rw [T2_, List.length_singleton]; omega, by dsimp only; omega⟩
 ·split
  ·exact hs _ ⟨by dsimp only; omega, by dsimp only; omega, by dsimp only; omega⟩
  ·split
   ·exact hs _ ⟨show saySeven.length ≤ 2000000 by decide, by dsimp only; omega, by dsimp only; omega⟩
   ·split
    ·intro p hp; cases hp
    ·exact hl
theorem ak2_ (b : Str) (p : Int) : ∀ x ∈ (dBk b p).1, pgB x := by
 unfold dBk
 split
 ·intro x hx; cases hx
 ·exact afm_ (zo_ _) _ _
theorem yu_ (l : List Pg) (k : Nat) (c : Int) : (cg_ l k c).length ≤ l.length := by
 unfold cg_
 split
 ·simp
 ·split
  ·simp
  ·split
   ·simp
   ·split <;> simp
theorem oh_ (b : Str) (p : Int) : (dBk b p).1.length ≤ 16 := by
 unfold dBk
 split
 ·simp
 ·have := yu_ (ik_ (dTx b p).1) (bn_ b (dTx b p).2 (ik_ (dTx b p).1).length).toNat (bn_ b ((dTx b p).2 + 1) 40)
  have := uy_ (dTx b p).1
  dsimp only; omega
end
section
set_option maxRecDepth 100000
set_option maxHeartbeats 4000000
theorem adb_ (a b : List Int) (ha : a.length ≤ 1000000000) (hb : b.length ≤ 1000000000) : ACall En 86 [.sl false (inR a), .sl false (inR b)] [] [.b (a == b)] [] := by
 refine al_ (fn := Tryz.f86) [] Tryz.func86 rfl rfl (by simp) fun C => ?_
 rw [aw_]
 simp only [Tryz.ntmps86, T7_, List.length_nil, Nat.reduceAdd, Nat.reduceSub, List.replicate_succ, List.replicate_zero, List.cons_append, List.nil_append, bo_]
 refine .seq (.rgn [] (by simp only [go_sem, seval, ah_, ac_]; rfl) ?_ ?_)
 ·first | trivial | simp
 refine .seq (.seq (.rgn [] (by simp only [go_sem, seval, ah_, ac_]; rfl) ?_ ?_))
 ·first | trivial | simp
 refine .condB (by simp only [go_sem, seval, ah_, ac_]; rfl) (by simp only [go_sem, seval, ah_, ac_]) (fun h10 => ?_) (fun h10 => ?_)
 ·refine .seq (.rgn [] (by simp only [go_sem, seval, ah_, ac_]; rfl) ?_ ?_)
  ·first | trivial | simp
  refine .ret ⟨.inr rfl, ?_⟩
  exact Out.plain (by simp only [Tryz.results86]; rfl) (by simp only [ay_, a6_, go_sem, seval, ah_, ac_] <;> (split <;> rfl)) (by simp only [a5_, go_sem, seval, ah_, ac_] <;> (have : a ≠ b := (fun e => by simp [e] at h10); simp [this])) (by simp only [go_sem, seval, ah_, ac_])
 ·refine .skip (.seq (.seq (.rgn [] (by simp only [go_sem, seval, ah_, ac_]; rfl) ?_ ?_)))
  ·first | trivial | simp
  refine .block (.loopK (fun k : Nat => ⟨[.sl false (inR a), .sl false (inR b), .no, .no, .no, .no, .no, .no, .no, .no, .no, .no, .i .i64 a.length, .i .i64 k, .no, .no, .no, .no, .no, .no, .no, .no, .no, .no, .no, .no], be_ [], us []⟩) (fun k : Nat => k ≤ a.length ∧ a.take k = b.take k) (fun k : Nat => a.length - k) (0) ?_ ?_ (fun k hI => ?_))
  ·exact ⟨Nat.zero_le _, rfl⟩
  ·exact Can.weak (Weak.lit (by simp only [go_sem, seval, ah_, ac_, as_, leV, ap_, ar_, V.inn, us, T9_, Ta_] <;> (simp)) (by simp only [go_sem, seval, ah_, ac_, as_, leV, ap_, ar_, V.inn, us, T9_, Ta_]) (by simp only [go_sem, seval, ah_, ac_, as_, leV, ap_, ar_, V.inn, us, T9_, Ta_]))
  refine .seq (.rgn [] (by simp only [go_sem, seval, ah_, ac_]; rfl) ?_ ?_)
  ·first | trivial | simp
  refine .seq (.condB (by simp only [go_sem, seval, ah_, ac_]; rfl) (by simp only [go_sem, seval, ah_, ac_]) (fun h14 => ?_) (fun h14 => ?_))
  ·refine .skip (.seq (.block (.seq (.rgn [] (by simp only [go_sem, seval, ah_, ac_]; rfl) ?_ ?_))))
   ·first | trivial | simp
   refine .seq (.rgnD [] enM (by simp only [go_sem, seval, ah_, ac_, en_ (show k < a.length by simpa using h14), en_ (show k < b.length by simp at h14 h10; omega)]; rfl) (by rfl) ?_ ?_)
   ·simp at h14 h10; simp; omega
   refine .condB (by simp only [go_sem, seval, ah_, ac_]; rfl) (by simp only [go_sem, seval, ah_, ac_]) (fun h24 => ?_) (fun h24 => ?_)
   ·refine .seq (.rgn [] (by simp only [go_sem, seval, ah_, ac_]; rfl) ?_ ?_)
    ·first | trivial | simp
    refine .ret ⟨.inr rfl, ?_⟩
    exact Out.plain (by simp only [Tryz.results86]; rfl) (by simp only [ay_, a6_, go_sem, seval, ah_, ac_] <;> (split <;> rfl)) (by simp only [a5_, go_sem, seval, ah_, ac_] <;> (have h2 : a.getD k 0 ≠ b.getD k 0 := bne_iff_ne.1 h24; have : a ≠ b := (fun e => h2 (by rw [e])); simp [this])) (by simp only [go_sem, seval, ah_, ac_])
   ·refine .skip (.rgn [] (by simp only [go_sem, seval, ah_, ac_]; rfl) ?_ ?_)
    ·first | trivial | simp
    refine Exists.intro (k + 1) ⟨?_, ?_, ?_⟩
    ·simp only [T3_] at h14; simp at h10; exact ⟨by omega, l7_ (d := 0) (by omega) (by omega) hI.2 (by simpa using h24)⟩
    ·simp at h14; omega
    exact Can.weak (Weak.lit (by simp only [go_sem, seval, ah_, ac_, as_, leV, ap_, ar_, V.inn, us, T9_, Ta_] <;> (rw [bd_ (by simp at h14; omega) (by simp at h14; omega)]; simp)) (by simp only [go_sem, seval, ah_, ac_, as_, leV, ap_, ar_, V.inn, us, T9_, Ta_]) (by simp only [go_sem, seval, ah_, ac_, as_, leV, ap_, ar_, V.inn, us, T9_, Ta_]))
  ·refine .exit (.seq (.rgn [] (by simp only [go_sem, seval, ah_, ac_]; rfl) ?_ ?_))
   ·first | trivial | simp
   refine .ret ⟨.inr rfl, ?_⟩
   exact Out.plain (by simp only [Tryz.results86]; rfl) (by simp only [ay_, a6_, go_sem, seval, ah_, ac_] <;> (split <;> rfl)) (by simp only [a5_, go_sem, seval, ah_, ac_] <;> (simp only [T4_] at h14; simp at h10; have q := hI.2; rw [T1_ (by omega), T1_ (by omega)] at q; simp [q])) (by simp only [go_sem, seval, ah_, ac_])
theorem wg_ {p q : Pg} : (p = q) ↔ (((p.line = q.line ∧ p.good = q.good) ∧ p.text = q.text) ∧ p.frm = q.frm) := by
 constructor
 ·rintro rfl; exact ⟨⟨⟨rfl, rfl⟩, rfl⟩, rfl⟩
 ·intro h; obtain ⟨a, b, c, d⟩ := p; obtain ⟨a2, b2, c2, d2⟩ := q; simp_all
theorem amv_ (p q : Pg) (hp : pgB p) (hq : pgB q) : ACall En 55 [.ag (pgC p), .ag (pgC q)] [] [.b (decide (p = q))] [] := by
 have h1 := hp.2.2
 have h2 := hq.2.2
 have T := @wg_ p q
 refine al_ (fn := Tryz.f55) [] Tryz.func55 rfl rfl (by simp) fun C => ?_
 rw [aw_]
 simp only [Tryz.ntmps55, T7_, List.length_nil, Nat.reduceAdd, Nat.reduceSub, List.replicate_succ, List.replicate_zero, List.cons_append, List.nil_append, bo_]
 refine .seq (.rgn [] (by simp only [go_sem, seval, aj_, ac_]; rfl) ?_ ?_)
 ·first | trivial | simp
 refine .seq (.rgn [a4_ (adb_ p.frm q.frm (by omega) (by omega))] (by simp only [go_sem, seval, aj_, ac_]; rfl) ?_ ?_)
 ·first | trivial | simp
 refine .ret ⟨.inr rfl, ?_⟩
 exact Out.plain (by simp only [Tryz.results55]; rfl) (by simp only [ay_, a6_, go_sem, seval, aj_, ac_] <;> (split <;> rfl)) (by simp only [a5_, go_sem, seval, aj_, ac_] <;> (have e : (p.line == q.line && p.good == q.good && p.text == q.text && p.frm == q.frm) = decide (p = q) := (by rw [Bool.eq_iff_iff]; simp only [T5_, beq_iff_eq, T3_]; exact T.symm); rw [e])) (by simp only [go_sem, seval, aj_, ac_])
theorem abg_ (p : Pg) (hp : pgB p) : ACall En 53 [.ag (pgC p)] [] [.b (!okP p)] [] := by
 have P := ra_ p.line (by have := hp.1; omega)
 have B := yq_ hp.1
 refine al_ (fn := Tryz.f53) [] Tryz.func53 rfl rfl (by simp) fun C => ?_
 rw [aw_]
 simp only [Tryz.ntmps53, T7_, List.length_nil, Nat.reduceAdd, Nat.reduceSub, List.replicate_succ, List.replicate_zero, List.cons_append, List.nil_append, bo_]
 refine .seq (.rgn [] (by simp only [go_sem, seval, aj_, ac_]; rfl) ?_ ?_)
 ·first | trivial | simp
 refine .seq (.rgnD [a4_ (o9_ p.line (by have := hp.1; omega)), a4_ P, a4_ (amv_ p (ec_ p.line) hp B)] enM (by simp only [go_sem, seval, aj_, ac_]; rfl) (by rfl) ?_ ?_)
 ·first | trivial | simp
 refine .ret ⟨.inr rfl, ?_⟩
 exact Out.plain (by simp only [Tryz.results53]; rfl) (by simp only [ay_, a6_, go_sem, seval, aj_, ac_] <;> (split <;> rfl)) (by simp only [a5_, go_sem, seval, aj_, ac_] <;> (rw [okP, Bool.not_and])) (by simp only [go_sem, seval, aj_, ac_])
theorem ajr_ (l : List Pg) (hs : ∀ p ∈ l, pgB p) (hl : l.length ≤ 1000000) : ACall En 84 [.sl false (pgR l), .fn (.func 53) [] []] [] [.i .i64 (w4_ (fun p => !okP p) l)] [] := by
 refine al_ (fn := Tryz.f84) [] Tryz.func84 rfl rfl (by simp) fun C => ?_
 rw [aw_]
 simp only [Tryz.ntmps84, T7_, List.length_nil, Nat.reduceAdd, Nat.reduceSub, List.replicate_succ, List.replicate_zero, List.cons_append, List.nil_append, bo_]
 refine .seq (.rgn [] (by simp only [go_sem, seval, ae_, ad_, aj_]; rfl) ?_ ?_)
 ·first | trivial | simp
 refine .seq (.seq (.rgn [] (by simp only [go_sem, seval, ae_, ad_, aj_]; rfl) ?_ ?_))
 ·first | trivial | simp
 refine .block (.loopK (fun k : Nat => ⟨[.sl false (pgR l), .fn (.func 53) [] [], .no, .no, .no, .no, .no, .i .i64 l.length, .i .i64 k, .no, .no, .no, .no, .no, .no, .no, .no, .no, .no], be_ [], us []⟩) (fun k : Nat => k ≤ l.length ∧ (l.take k).any (fun p => !okP p) = false) (fun k : Nat => l.length - k) (0) ?_ ?_ (fun k hI => ?_))
 ·simp
 ·exact Can.weak (Weak.lit (by simp only [go_sem, seval, ae_, ad_, aj_, as_, leV, ap_, ar_, V.inn, us, T9_, Ta_] <;> (simp)) (by simp only [go_sem, seval, ae_, ad_, aj_, as_, leV, ap_, ar_, V.inn, us, T9_, Ta_]) (by simp only [go_sem, seval, ae_, ad_, aj_, as_, leV, ap_, ar_, V.inn, us, T9_, Ta_]))
 refine .seq (.rgn [] (by simp only [go_sem, seval, ae_, ad_, aj_]; rfl) ?_ ?_)
 ·first | trivial | simp
 refine .seq (.condB (by simp only [go_sem, seval, ae_, ad_, aj_]; rfl) (by simp only [go_sem, seval, ae_, ad_, aj_]) (fun h9 => ?_) (fun h9 => ?_))
 ·refine .skip (.seq (.block (.seq (.rgn [] (by simp only [go_sem, seval, ae_, ad_, aj_]; rfl) ?_ ?_))))
  ·first | trivial | simp
  refine .seq (.rgn [cl_ (k < l.length) (fun h => abg_ (l.getD k Pg0) (hs _ (bh_ h)))] (by simp only [go_sem, seval, ae_, ad_, aj_, de_ (show k < l.length by simpa using h9)]; rfl) ?_ ?_)
  ·simp only [T3_] at h9; simp only [p4_, ac_, ci_, V.pure, Bool.and_true, true_and]; and_intros <;> first | omega | (simp; done) | trivial
  refine .condB (by simp only [go_sem, seval, ae_, ad_, aj_]; rfl) (by simp only [go_sem, seval, ae_, ad_, aj_]) (fun h16 => ?_) (fun h16 => ?_)
  ·refine .seq (.rgn [] (by simp only [go_sem, seval, ae_, ad_, aj_]; rfl) ?_ ?_)
   ·first | trivial | simp
   refine .ret ⟨.inr rfl, ?_⟩
   exact Out.plain (by simp only [Tryz.results84]; rfl) (by simp only [ay_, a6_, go_sem, seval, ae_, ad_, aj_] <;> (split <;> rfl)) (by simp only [a5_, go_sem, seval, ae_, ad_, aj_] <;> (simp at h9; rw [aag_ (d := Pg0) h9 hI.2 h16])) (by simp only [go_sem, seval, ae_, ad_, aj_])
  ·refine .skip (.rgn [] (by simp only [go_sem, seval, ae_, ad_, aj_]; rfl) ?_ ?_)
   ·first | trivial | simp
   refine Exists.intro (k + 1) ⟨?_, ?_, ?_⟩
   ·simp at h9; refine ⟨by omega, ?_⟩; rw [xb_ (d := Pg0) h9, hI.2, h16]; rfl
   ·simp at h9; omega
   exact Can.weak (Weak.lit (by simp only [go_sem, seval, ae_, ad_, aj_, as_, leV, ap_, ar_, V.inn, us, T9_, Ta_] <;> (rw [bd_ (by omega) (by omega)]; simp)) (by simp only [go_sem, seval, ae_, ad_, aj_, as_, leV, ap_, ar_, V.inn, us, T9_, Ta_]) (by simp only [go_sem, seval, ae_, ad_, aj_, as_, leV, ap_, ar_, V.inn, us, T9_, Ta_]))
 ·refine .exit (.seq (.rgn [] (by simp only [go_sem, seval, ae_, ad_, aj_]; rfl) ?_ ?_))
  ·first | trivial | simp
  refine .ret ⟨.inr rfl, ?_⟩
  exact Out.plain (by simp only [Tryz.results84]; rfl) (by simp only [ay_, a6_, go_sem, seval, ae_, ad_, aj_] <;> (split <;> rfl)) (by simp only [a5_, go_sem, seval, ae_, ad_, aj_] <;> (simp at h9; have h0 := hI.2; rw [T1_ h9] at h0; rw [ry_ h0])) (by simp only [go_sem, seval, ae_, ad_, aj_])
theorem ae2_ (l : List Pg) (hs : ∀ p ∈ l, pgB p) (hl : l.length ≤ 1000000) : ACall En 52 [.sl false (pgR l), .fn (.func 53) [] []] [] [.b (l.any fun p => !okP p)] [] := by
 refine al_ (fn := Tryz.f52) [] Tryz.func52 rfl rfl (by simp) fun C => ?_
 rw [aw_]
 simp only [Tryz.ntmps52, T7_, List.length_nil, Nat.reduceAdd, Nat.reduceSub, List.replicate_succ, List.replicate_zero, List.cons_append, List.nil_append, bo_]
 refine .seq (.rgn [] (by simp only [go_sem, seval, ad_]; rfl) ?_ ?_)
 ·first | trivial | simp
 refine .seq (.rgn [a4_ (ajr_ l hs hl)] (by simp only [go_sem, seval, ad_]; rfl) ?_ ?_)
 ·first | trivial | simp
 refine .ret ⟨.inr rfl, ?_⟩
 exact Out.plain (by simp only [Tryz.results52]; rfl) (by simp only [ay_, a6_, go_sem, seval, ad_] <;> (split <;> rfl)) (by simp only [a5_, go_sem, seval, ad_] <;> (rw [zd_])) (by simp only [go_sem, seval, ad_])
theorem akd_ (l : List Pg) : ct_ l = ((decide ((1 : Int) ≤ l.length) && decide ((l.length : Int) ≤ 16)) && !l.any fun p => !okP p) := by
 rw [List.any_eq_not_all_not]; simp only [ct_, Bool.not_not, h7_]; rfl
theorem j7_ (l : List Pg) (hs : ∀ p ∈ l, pgB p) (hl : l.length ≤ 1000000) : ACall En 19 [.sl false (pgR l)] [] [.b (ct_ l)] [] := by
 refine al_ (fn := Tryz.f19) [] Tryz.func19 rfl rfl (by simp) fun C => ?_
 rw [aw_]
 simp only [Tryz.ntmps19, T7_, List.length_nil, Nat.reduceAdd, Nat.reduceSub, List.replicate_succ, List.replicate_zero, List.cons_append, List.nil_append, bo_]
 refine .seq (.rgn [] (by simp only [go_sem, seval, ae_, ad_]; rfl) ?_ ?_)
 ·first | trivial | simp
 refine .seq (.rgn [a4_ (x0_ l.length 1 16), a4_ (ae2_ l hs hl)] (by simp only [go_sem, seval, ae_, ad_]; rfl) ?_ ?_)
 ·first | trivial | simp
 refine .ret ⟨.inr rfl, ?_⟩
 exact Out.plain (by simp only [Tryz.results19]; rfl) (by simp only [ay_, a6_, go_sem, seval, ae_, ad_] <;> (split <;> rfl)) (by simp only [a5_, go_sem, seval, ae_, ad_] <;> (rw [akd_])) (by simp only [go_sem, seval, ae_, ad_])
end
end Go.Proofs.YtpikbndepapbhaaGreatDoor
