/- Books: lines with what they are turned into, plainly. Conditions: none. -/
import Derived.Test.YtcigkafioinfoaaGreatDoorK11
import Derived.Test.YtcigkafioinfoaaGreatDoorK3
import Derived.Test.YtcigkafioinfoaaGreatDoorKr
set_option linter.unusedVariables false
set_option linter.unusedSimpArgs false
namespace Go.Proofs.YtcigkafioinfoaaGreatDoor
section
set_option maxRecDepth 100000
def okP (p : Pg) : Bool := qw_ p.line && decide (p = gn_ p.line)
def e6_ (l : List Pg) : Bool := decide (1 ≤ l.length) && decide (l.length ≤ 16) && l.all okP
def h3_ (s : Str) : List Pg := if (dc_ s).length ≤ 16 then (dc_ s).map gn_ else []
def md_ (s : Str) : Sl := (cw_ s).getD S0
def dq_ (l : List Pg) : List Sl := l.map fun p => md_ p.line
def io_ (l : List Pg) : Str := if e6_ l then cf_ (l.map (·.text)) else []
theorem ie_ {l : List Pg} (h : e6_ l = true) : 1 ≤ l.length ∧ l.length ≤ 16 ∧ ∀ k, k < l.length → okP (l.getD k Pg0) = true := by
 simp only [e6_, T5_, T3_] at h
 exact ⟨h.1.1, h.1.2, fun k hk => List.all_eq_true.1 h.2 _ (bp_ hk)⟩
theorem agz_ {p : Pg} (h : okP p = true) : qw_ p.line = true ∧ p = gn_ p.line := by
 simp only [okP, T5_, T3_] at h; exact h
theorem ae0_ (s : Str) : sok (md_ s) = true := by
 unfold md_
 cases h : cw_ s with
 | none => exact x3_
 | some x => exact (m9_.1 h).1
theorem emT_S0' : emT S0 = [] := by unfold emT; rw [if_pos x3_]; decide
theorem n9_ {p : Pg} (h : okP p = true) : p.text = emT (md_ p.line) ∧ p.frm = emF (md_ p.line) ∧ p.good = (cw_ p.line).isSome := by
 obtain ⟨h1, h2⟩ := agz_ h
 unfold md_
 cases hx : cw_ p.line with
 | none => rw [h2, pb_ h1 (by rw [hx]; rfl)]; exact ⟨emT_S0'.symm, emF_S0.symm, rfl⟩
 | some x => rw [h2, t8_ h1 (by rw [hx]; rfl), hx]; exact ⟨rfl, rfl, rfl⟩
theorem xz_ {l : List Pg} {k : Nat} (h : k < l.length) : (dq_ l).getD k S0 = md_ (l.getD k Pg0).line := by
 simp [dq_, T8_, T6_ h]
theorem im_ (l : List Pg) : (dq_ l).length = l.length := by simp [dq_]
theorem agj_ {l : List Pg} (h : e6_ l = true) : pok (dq_ l) = true := by
 obtain ⟨h1, h2, _⟩ := ie_ h
 simp only [pok, im_, T5_, T3_]
 refine ⟨⟨h1, h2⟩, List.all_eq_true.2 fun x hx => ?_⟩
 obtain ⟨p, _, rfl⟩ := List.mem_map.1 hx
 exact ae0_ _
theorem aka_ {l : List Pg} (h : ∀ p ∈ l, okP p = true) : l.map (·.text) = (dq_ l).map emT := by
 unfold dq_
 rw [List.map_map]
 exact List.map_congr_left fun p hp => (n9_ (h p hp)).1
theorem k4_ {l : List Pg} (h : e6_ l = true) : ∀ p ∈ l, okP p = true := by
 simp only [e6_, T5_] at h
 exact List.all_eq_true.1 h.2
theorem ac9_ {l : List Pg} (h : e6_ l = true) : io_ l = o6_ (dq_ l) := by
 unfold io_ o6_
 rw [if_pos h, if_pos (agj_ h), aka_ (k4_ h)]
theorem ja_ (s : Sl) : lnOk (emT s) := by
 by_cases h : sok s = true
 ·rw [sc_ h]; exact pw_ (aap_ h)
 ·unfold emT; rw [if_neg h]; exact ⟨rfl, by simp⟩
end
section
set_option maxRecDepth 100000
theorem ab2_ (l : List Pg) : (io_ l).length ≤ 3000 := by
 unfold io_; split
 ·rename_i h
  have h1 := (ie_ h).2.1
  have := ri_ (l := l.map (·.text)) (k := 120) fun s hs => by
   obtain ⟨p, hp, rfl⟩ := List.mem_map.1 hs
   rw [(n9_ (k4_ h p hp)).1]; exact (ja_ _).2
  rw [List.length_map] at this
  have := Nat.mul_le_mul_right 121 h1
  omega
 ·simp
theorem wl_ (s : Str) : (h3_ s).length ≤ 16 := by unfold h3_; split <;> simp; omega
end
section
set_option maxRecDepth 100000
def eg_ (b : Str) : Nat → Int → List Str → List Str × Int
 | 0, p, l => (l, p)
 | n + 1, p, l => eg_ b n (dTo b p).2 (l ++ [(dTo b p).1])
def uf_ : Str := [115, 97, 121, 32, 49]
def go_ (b : Str) : Nat → Int → List Str → List Str × Int
 | 0, p, l => (l, p)
 | n + 1, p, l => if (l.length : Int) < 16 + br_ b p 2 then go_ b n (p + 1) (l ++ [uf_]) else (l, p + 1)
def wL (l : List Str) : Prop := ∀ w ∈ l, w.length ≤ 300
theorem te_ {l : List Str} {w : Str} (h : wL l) (hw : w.length ≤ 300) : wL (l ++ [w]) := fun x hx => by
 rcases List.mem_append.1 hx with hx | hx
 ·exact h x hx
 ·simp at hx; subst hx; exact hw
theorem tu_ (b : Str) : ∀ (n : Nat) (p : Int) (l : List Str), 0 ≤ p → p + 1000 * n < 1000000 → wL l → p ≤ (eg_ b n p l).2 ∧ (eg_ b n p l).2 ≤ p + 1000 * n ∧ wL (eg_ b n p l).1 ∧ (eg_ b n p l).1.length = l.length + n
 | 0, p, l, hp, _, hl => ⟨Int.le_refl _, by simp [eg_], hl, rfl⟩
 | n + 1, p, l, hp, hp2, hl => by
  obtain ⟨q1, q2, q3⟩ := akt_ b hp (by omega)
  obtain ⟨r1, r2, r3, r4⟩ := tu_ b n (dTo b p).2 (l ++ [(dTo b p).1]) (by omega) (by omega) (te_ hl q3)
  rw [eg_]
  refine ⟨by omega, by omega, r3, ?_⟩
  rw [r4, T2_, List.length_singleton]; omega
theorem zk_ (b : Str) : ∀ (n : Nat) (p : Int) (l : List Str), 0 ≤ p → p + n < 1000000 → wL l → p ≤ (go_ b n p l).2 ∧ (go_ b n p l).2 ≤ p + n + 1 ∧ wL (go_ b n p l).1 ∧ (go_ b n p l).1.length ≤ l.length + n
 | 0, p, l, hp, _, hl => ⟨Int.le_refl _, by simp only [go_]; omega, hl, Nat.le_refl _⟩
 | n + 1, p, l, hp, hp2, hl => by
  obtain ⟨r1, r2, r3, r4⟩ := zk_ b n (p + 1) (l ++ [uf_]) (by omega) (by omega) (te_ hl (by decide))
  rw [go_]
  split
  ·refine ⟨by omega, by omega, r3, ?_⟩
   rw [T2_, List.length_singleton] at r4; omega
  ·exact ⟨by dsimp only; omega, by dsimp only; omega, hl, by dsimp only; omega⟩
def k7_ (b : Str) (p : Int) : List Str × Int :=
 if br_ b (eg_ b (1 + (br_ b p 6).toNat) (p + 1) []).2 30 = 0 then go_ b 20 ((eg_ b (1 + (br_ b p 6).toNat) (p + 1) []).2 + 1) (eg_ b (1 + (br_ b p 6).toNat) (p + 1) []).1
 else ((eg_ b (1 + (br_ b p 6).toNat) (p + 1) []).1, (eg_ b (1 + (br_ b p 6).toNat) (p + 1) []).2 + 1)
theorem yj_ (b : Str) {p : Int} (hp : 0 ≤ p) (hp2 : p < 100000) : p ≤ (k7_ b p).2 ∧ (k7_ b p).2 ≤ p + 9000 ∧ wL (k7_ b p).1 ∧ (k7_ b p).1.length ≤ 30 := by
 have h6 := d6_ b (p := p) (n := 6) hp (by omega) (by decide)
 obtain ⟨r1, r2, r3, r4⟩ := tu_ b (1 + (br_ b p 6).toNat) (p + 1) [] (by omega) (by omega) (fun w hw => by cases hw)
 unfold k7_
 simp only [List.length_nil] at r4
 split
 ·obtain ⟨s1, s2, s3, s4⟩ := zk_ b 20 ((eg_ b (1 + (br_ b p 6).toNat) (p + 1) []).2 + 1) (eg_ b (1 + (br_ b p 6).toNat) (p + 1) []).1 (by omega) (by omega) r3
  exact ⟨by omega, by omega, s3, by omega⟩
 ·exact ⟨by dsimp only; omega, by dsimp only; omega, r3, by dsimp only; omega⟩
def dTx (b : Str) (p : Int) : Str × Int := (cf_ (k7_ b p).1, (k7_ b p).2)
theorem ahw_ (b : Str) {p : Int} (hp : 0 ≤ p) (hp2 : p < 100000) : (dTx b p).1.length ≤ 10000 := by
 obtain ⟨h1, h2, h3, h4⟩ := yj_ b hp hp2
 have := ri_ (l := (k7_ b p).1) (k := 300) h3
 have := Nat.mul_le_mul_right 301 h4
 show (cf_ _).length ≤ _
 omega
def saySeven : Str := [115, 97, 121, 32, 55]
def ch_ (l : List Pg) (k : Nat) (c : Int) : List Pg :=
 if c = 0 then l.set k { l.getD k Pg0 with text := (l.getD k Pg0).text ++ [32] }
 else if c = 1 then l.set k { l.getD k Pg0 with good := !(l.getD k Pg0).good }
 else if c = 2 then l.set k { l.getD k Pg0 with line := saySeven }
 else if c = 3 then []
 else l
def dBk (b : Str) (p : Int) : List Pg × Int :=
 if h3_ (dTx b p).1 = [] then ([], (dTx b p).2)
 else (ch_ (h3_ (dTx b p).1) (br_ b (dTx b p).2 (h3_ (dTx b p).1).length).toNat (br_ b ((dTx b p).2 + 1) 40), (dTx b p).2 + 1 + 1)
def pgB (p : Pg) : Prop := p.line.length ≤ 2000000 ∧ p.text.length ≤ 2000000 ∧ p.frm.length ≤ 2000000
theorem ags_ (s : Sl) : (emF s).length ≤ 1000 := by
 by_cases h : sok s = true
 ·have := alu_ h; omega
 ·unfold emF; rw [if_neg h]; simp
theorem afk_ {s : Str} (h : s.length ≤ 2000000) : pgB (gn_ s) := by
 unfold gn_
 split
 ·cases hx : cw_ s with
  | none => exact ⟨h, by simp, by simp⟩
  | some x => exact ⟨h, by have := (ja_ x).2; dsimp only; omega, by have := ags_ x; dsimp only; omega⟩
 ·exact ⟨by simp [Pg0], by simp [Pg0], by simp [Pg0]⟩
theorem aag_ (s : Str) : ∀ p ∈ h3_ s, p.line.length ≤ 4000 ∧ p.text.length ≤ 120 ∧ p.frm.length ≤ 1000 := fun p hp => by
 unfold h3_ at hp
 split at hp
 ·obtain ⟨w, hw, rfl⟩ := List.mem_map.1 hp
  have hl := kf_ s w hw
  unfold gn_
  split
  ·cases hx : cw_ w with
   | none => exact ⟨hl, by simp, by simp⟩
   | some x => exact ⟨hl, (ja_ x).2, ags_ x⟩
  ·exact ⟨by simp [Pg0], by simp [Pg0], by simp [Pg0]⟩
 ·cases hp
theorem agk_ {l : List Pg} (h : ∀ p ∈ l, p.line.length ≤ 4000 ∧ p.text.length ≤ 120 ∧ p.frm.length ≤ 1000) (k : Nat) : (l.getD k Pg0).line.length ≤ 4000 ∧ (l.getD k Pg0).text.length ≤ 120 ∧ (l.getD k Pg0).frm.length ≤ 1000 := by
 rcases Nat.lt_or_ge k l.length with q | q
 ·exact h _ (bp_ q)
 ·rw [T8_, List.getElem?_eq_none q]; exact ⟨by simp [Pg0], by simp [Pg0], by simp [Pg0]⟩
theorem af6_ {l : List Pg} (h : ∀ p ∈ l, p.line.length ≤ 4000 ∧ p.text.length ≤ 120 ∧ p.frm.length ≤ 1000) (k : Nat) (c : Int) : ∀ p ∈ ch_ l k c, pgB p := by
 have hg := agk_ h k
 have hl : ∀ p ∈ l, pgB p := fun p hp => by have := h p hp; exact ⟨by omega, by omega, by omega⟩
 have hs : ∀ q : Pg, pgB q → ∀ p ∈ l.set k q, pgB p := fun q hq p hp => by
  rcases List.mem_or_eq_of_mem_set hp with h1 | h1
  ·exact hl p h1
  ·rw [h1]; exact hq
 unfold ch_
 split
 ·exact hs _ ⟨by dsimp only; omega, by dsimp only; rw [T2_, List.length_singleton]; omega, by dsimp only; omega⟩
 ·split
  ·exact hs _ ⟨by dsimp only; omega, by dsimp only; omega, by dsimp only; omega⟩
  ·split
   ·exact hs _ ⟨show saySeven.length ≤ 2000000 by decide, by dsimp only; omega, by dsimp only; omega⟩
   ·split
    ·intro p hp; cases hp
    ·exact hl
theorem ang_ (b : Str) (p : Int) : ∀ x ∈ (dBk b p).1, pgB x := by
 unfold dBk
 split
 ·intro x hx; cases hx
 ·exact af6_ (aag_ _) _ _
theorem yt_ (l : List Pg) (k : Nat) (c : Int) : (ch_ l k c).length ≤ l.length := by
 unfold ch_
 split
 ·simp
 ·split
  ·simp
  ·split
   ·simp
   ·split <;> simp
theorem aif_ (b : Str) (p : Int) : (dBk b p).1.length ≤ 16 := by
 unfold dBk
 split
 ·simp
 ·have := yt_ (h3_ (dTx b p).1) (br_ b (dTx b p).2 (h3_ (dTx b p).1).length).toNat (br_ b ((dTx b p).2 + 1) 40)
  have := wl_ (dTx b p).1
  dsimp only; omega
end
section
set_option maxRecDepth 100000
set_option maxHeartbeats 4000000
theorem afh_ (a b : List Int) (ha : a.length ≤ 1000000000) (hb : b.length ≤ 1000000000) : ACall En 210 [.sl false (inR a), .sl false (inR b)] [] [.b (a == b)] [] := by
 refine aj_ (fn := Tryz.f210) [] Tryz.func210 rfl rfl (by simp) fun C => ?_
 rw [ay_]
 simp only [Tryz.ntmps210, T7_, List.length_nil, Nat.reduceAdd, Nat.reduceSub, List.replicate_succ, List.replicate_zero, List.cons_append, List.nil_append, bu_]
 refine .seq (.rgn [] (by simp only [go_sem, seval, ae_, ac_]; rfl) ?_ ?_)
 ·first | trivial | simp
 refine .seq (.seq (.rgn [] (by simp only [go_sem, seval, ae_, ac_]; rfl) ?_ ?_))
 ·first | trivial | simp
 refine .condB (by simp only [go_sem, seval, ae_, ac_]; rfl) (by simp only [go_sem, seval, ae_, ac_]) (fun h10 => ?_) (fun h10 => ?_)
 ·refine .seq (.rgn [] (by simp only [go_sem, seval, ae_, ac_]; rfl) ?_ ?_)
  ·first | trivial | simp
  refine .ret ⟨.inr rfl, ?_⟩
  exact Out.plain (by simp only [Tryz.results210]; rfl) (by simp only [az_, bc_, go_sem, seval, ae_, ac_] <;> (split <;> rfl)) (by simp only [bb_, go_sem, seval, ae_, ac_] <;> (have : a ≠ b := (fun e => by simp [e] at h10); simp [this])) (by simp only [go_sem, seval, ae_, ac_])
 ·refine .skip (.seq (.seq (.rgn [] (by simp only [go_sem, seval, ae_, ac_]; rfl) ?_ ?_)))
  ·first | trivial | simp
  refine .block (.loopK (fun k : Nat => ⟨[.sl false (inR a), .sl false (inR b), .no, .no, .no, .no, .no, .no, .no, .no, .no, .no, .i .i64 a.length, .i .i64 k, .no, .no, .no, .no, .no, .no, .no, .no, .no, .no, .no, .no], bh_ [], us []⟩) (fun k : Nat => k ≤ a.length ∧ a.take k = b.take k) (fun k : Nat => a.length - k) (0) ?_ ?_ (fun k hI => ?_))
  ·exact ⟨Nat.zero_le _, rfl⟩
  ·exact Can.weak (Weak.lit (by simp only [go_sem, seval, ae_, ac_, ar_, leV, ap_, aq_, V.inn, us, T9_, Ta_] <;> (simp)) (by simp only [go_sem, seval, ae_, ac_, ar_, leV, ap_, aq_, V.inn, us, T9_, Ta_]) (by simp only [go_sem, seval, ae_, ac_, ar_, leV, ap_, aq_, V.inn, us, T9_, Ta_]))
  refine .seq (.rgn [] (by simp only [go_sem, seval, ae_, ac_]; rfl) ?_ ?_)
  ·first | trivial | simp
  refine .seq (.condB (by simp only [go_sem, seval, ae_, ac_]; rfl) (by simp only [go_sem, seval, ae_, ac_]) (fun h14 => ?_) (fun h14 => ?_))
  ·refine .skip (.seq (.block (.seq (.rgn [] (by simp only [go_sem, seval, ae_, ac_]; rfl) ?_ ?_))))
   ·first | trivial | simp
   refine .seq (.rgnD [] enM (by simp only [go_sem, seval, ae_, ac_, fj_ (show k < a.length by simpa using h14), fj_ (show k < b.length by simp at h14 h10; omega)]; rfl) (by rfl) ?_ ?_)
   ·simp at h14 h10; simp; omega
   refine .condB (by simp only [go_sem, seval, ae_, ac_]; rfl) (by simp only [go_sem, seval, ae_, ac_]) (fun h24 => ?_) (fun h24 => ?_)
   ·refine .seq (.rgn [] (by simp only [go_sem, seval, ae_, ac_]; rfl) ?_ ?_)
    ·first | trivial | simp
    refine .ret ⟨.inr rfl, ?_⟩
    exact Out.plain (by simp only [Tryz.results210]; rfl) (by simp only [az_, bc_, go_sem, seval, ae_, ac_] <;> (split <;> rfl)) (by simp only [bb_, go_sem, seval, ae_, ac_] <;> (have h2 : a.getD k 0 ≠ b.getD k 0 := bne_iff_ne.1 h24; have : a ≠ b := (fun e => h2 (by rw [e])); simp [this])) (by simp only [go_sem, seval, ae_, ac_])
   ·refine .skip (.rgn [] (by simp only [go_sem, seval, ae_, ac_]; rfl) ?_ ?_)
    ·first | trivial | simp
    refine Exists.intro (k + 1) ⟨?_, ?_, ?_⟩
    ·simp only [T3_] at h14; simp at h10; exact ⟨by omega, xr_ (d := 0) (by omega) (by omega) hI.2 (by simpa using h24)⟩
    ·simp at h14; omega
    exact Can.weak (Weak.lit (by simp only [go_sem, seval, ae_, ac_, ar_, leV, ap_, aq_, V.inn, us, T9_, Ta_] <;> (rw [bi_ (by simp at h14; omega) (by simp at h14; omega)]; simp)) (by simp only [go_sem, seval, ae_, ac_, ar_, leV, ap_, aq_, V.inn, us, T9_, Ta_]) (by simp only [go_sem, seval, ae_, ac_, ar_, leV, ap_, aq_, V.inn, us, T9_, Ta_]))
  ·refine .exit (.seq (.rgn [] (by simp only [go_sem, seval, ae_, ac_]; rfl) ?_ ?_))
   ·first | trivial | simp
   refine .ret ⟨.inr rfl, ?_⟩
   exact Out.plain (by simp only [Tryz.results210]; rfl) (by simp only [az_, bc_, go_sem, seval, ae_, ac_] <;> (split <;> rfl)) (by simp only [bb_, go_sem, seval, ae_, ac_] <;> (simp only [T4_] at h14; simp at h10; have q := hI.2; rw [T1_ (by omega), T1_ (by omega)] at q; simp [q])) (by simp only [go_sem, seval, ae_, ac_])
theorem um_ {p q : Pg} : (p = q) ↔ (((p.line = q.line ∧ p.good = q.good) ∧ p.text = q.text) ∧ p.frm = q.frm) := by
 constructor
 ·rintro rfl; exact ⟨⟨⟨rfl, rfl⟩, rfl⟩, rfl⟩
 ·intro h; obtain ⟨a, b, c, d⟩ := p; obtain ⟨a2, b2, c2, d2⟩ := q; simp_all
theorem al8_ (p q : Pg) (hp : pgB p) (hq : pgB q) : ACall En 167 [.ag (pgC p), .ag (pgC q)] [] [.b (decide (p = q))] [] := by
 have h1 := hp.2.2
 have h2 := hq.2.2
 have T := @um_ p q
 refine aj_ (fn := Tryz.f167) [] Tryz.func167 rfl rfl (by simp) fun C => ?_
 rw [ay_]
 simp only [Tryz.ntmps167, T7_, List.length_nil, Nat.reduceAdd, Nat.reduceSub, List.replicate_succ, List.replicate_zero, List.cons_append, List.nil_append, bu_]
 refine .seq (.rgn [] (by simp only [go_sem, seval, am_, ac_]; rfl) ?_ ?_)
 ·first | trivial | simp
 refine .seq (.rgn [a8_ (afh_ p.frm q.frm (by omega) (by omega))] (by simp only [go_sem, seval, am_, ac_]; rfl) ?_ ?_)
 ·first | trivial | simp
 refine .ret ⟨.inr rfl, ?_⟩
 exact Out.plain (by simp only [Tryz.results167]; rfl) (by simp only [az_, bc_, go_sem, seval, am_, ac_] <;> (split <;> rfl)) (by simp only [bb_, go_sem, seval, am_, ac_] <;> (have e : (p.line == q.line && p.good == q.good && p.text == q.text && p.frm == q.frm) = decide (p = q) := (by rw [Bool.eq_iff_iff]; simp only [T5_, beq_iff_eq, T3_]; exact T.symm); rw [e])) (by simp only [go_sem, seval, am_, ac_])
theorem aci_ (p : Pg) (hp : pgB p) : ACall En 165 [.ag (pgC p)] [] [.b (!okP p)] [] := by
 have P := ab6_ p.line (by have := hp.1; omega)
 have B := afk_ hp.1
 refine aj_ (fn := Tryz.f165) [] Tryz.func165 rfl rfl (by simp) fun C => ?_
 rw [ay_]
 simp only [Tryz.ntmps165, T7_, List.length_nil, Nat.reduceAdd, Nat.reduceSub, List.replicate_succ, List.replicate_zero, List.cons_append, List.nil_append, bu_]
 refine .seq (.rgn [] (by simp only [go_sem, seval, am_, ac_]; rfl) ?_ ?_)
 ·first | trivial | simp
 refine .seq (.rgnD [a8_ (u7_ p.line (by have := hp.1; omega)), a8_ P, a8_ (al8_ p (gn_ p.line) hp B)] enM (by simp only [go_sem, seval, am_, ac_]; rfl) (by rfl) ?_ ?_)
 ·first | trivial | simp
 refine .ret ⟨.inr rfl, ?_⟩
 exact Out.plain (by simp only [Tryz.results165]; rfl) (by simp only [az_, bc_, go_sem, seval, am_, ac_] <;> (split <;> rfl)) (by simp only [bb_, go_sem, seval, am_, ac_] <;> (rw [okP, Bool.not_and])) (by simp only [go_sem, seval, am_, ac_])
theorem akd_ (l : List Pg) (hs : ∀ p ∈ l, pgB p) (hl : l.length ≤ 2000000) : ACall En 208 [.sl false (pgR l), .fn (.func 165) [] []] [] [.i .i64 (ta_ (fun p => !okP p) l)] [] := by
 refine aj_ (fn := Tryz.f208) [] Tryz.func208 rfl rfl (by simp) fun C => ?_
 rw [ay_]
 simp only [Tryz.ntmps208, T7_, List.length_nil, Nat.reduceAdd, Nat.reduceSub, List.replicate_succ, List.replicate_zero, List.cons_append, List.nil_append, bu_]
 refine .seq (.rgn [] (by simp only [go_sem, seval, al_, ah_, am_]; rfl) ?_ ?_)
 ·first | trivial | simp
 refine .seq (.seq (.rgn [] (by simp only [go_sem, seval, al_, ah_, am_]; rfl) ?_ ?_))
 ·first | trivial | simp
 refine .block (.loopK (fun k : Nat => ⟨[.sl false (pgR l), .fn (.func 165) [] [], .no, .no, .no, .no, .no, .i .i64 l.length, .i .i64 k, .no, .no, .no, .no, .no, .no, .no, .no, .no, .no], bh_ [], us []⟩) (fun k : Nat => k ≤ l.length ∧ (l.take k).any (fun p => !okP p) = false) (fun k : Nat => l.length - k) (0) ?_ ?_ (fun k hI => ?_))
 ·simp
 ·exact Can.weak (Weak.lit (by simp only [go_sem, seval, al_, ah_, am_, ar_, leV, ap_, aq_, V.inn, us, T9_, Ta_] <;> (simp)) (by simp only [go_sem, seval, al_, ah_, am_, ar_, leV, ap_, aq_, V.inn, us, T9_, Ta_]) (by simp only [go_sem, seval, al_, ah_, am_, ar_, leV, ap_, aq_, V.inn, us, T9_, Ta_]))
 refine .seq (.rgn [] (by simp only [go_sem, seval, al_, ah_, am_]; rfl) ?_ ?_)
 ·first | trivial | simp
 refine .seq (.condB (by simp only [go_sem, seval, al_, ah_, am_]; rfl) (by simp only [go_sem, seval, al_, ah_, am_]) (fun h9 => ?_) (fun h9 => ?_))
 ·refine .skip (.seq (.block (.seq (.rgn [] (by simp only [go_sem, seval, al_, ah_, am_]; rfl) ?_ ?_))))
  ·first | trivial | simp
  refine .seq (.rgn [ce_ (k < l.length) (fun h => aci_ (l.getD k Pg0) (hs _ (bp_ h)))] (by simp only [go_sem, seval, al_, ah_, am_, hm_ (show k < l.length by simpa using h9)]; rfl) ?_ ?_)
  ·simp only [T3_] at h9; simp only [afw_, ac_, cd_, V.pure, Bool.and_true, true_and]; and_intros <;> first | omega | (simp; done) | trivial
  refine .condB (by simp only [go_sem, seval, al_, ah_, am_]; rfl) (by simp only [go_sem, seval, al_, ah_, am_]) (fun h16 => ?_) (fun h16 => ?_)
  ·refine .seq (.rgn [] (by simp only [go_sem, seval, al_, ah_, am_]; rfl) ?_ ?_)
   ·first | trivial | simp
   refine .ret ⟨.inr rfl, ?_⟩
   exact Out.plain (by simp only [Tryz.results208]; rfl) (by simp only [az_, bc_, go_sem, seval, al_, ah_, am_] <;> (split <;> rfl)) (by simp only [bb_, go_sem, seval, al_, ah_, am_] <;> (simp at h9; rw [tj_ (d := Pg0) h9 hI.2 h16])) (by simp only [go_sem, seval, al_, ah_, am_])
  ·refine .skip (.rgn [] (by simp only [go_sem, seval, al_, ah_, am_]; rfl) ?_ ?_)
   ·first | trivial | simp
   refine Exists.intro (k + 1) ⟨?_, ?_, ?_⟩
   ·simp at h9; refine ⟨by omega, ?_⟩; rw [o0_ (d := Pg0) h9, hI.2, h16]; rfl
   ·simp at h9; omega
   exact Can.weak (Weak.lit (by simp only [go_sem, seval, al_, ah_, am_, ar_, leV, ap_, aq_, V.inn, us, T9_, Ta_] <;> (rw [bi_ (by omega) (by omega)]; simp)) (by simp only [go_sem, seval, al_, ah_, am_, ar_, leV, ap_, aq_, V.inn, us, T9_, Ta_]) (by simp only [go_sem, seval, al_, ah_, am_, ar_, leV, ap_, aq_, V.inn, us, T9_, Ta_]))
 ·refine .exit (.seq (.rgn [] (by simp only [go_sem, seval, al_, ah_, am_]; rfl) ?_ ?_))
  ·first | trivial | simp
  refine .ret ⟨.inr rfl, ?_⟩
  exact Out.plain (by simp only [Tryz.results208]; rfl) (by simp only [az_, bc_, go_sem, seval, al_, ah_, am_] <;> (split <;> rfl)) (by simp only [bb_, go_sem, seval, al_, ah_, am_] <;> (simp at h9; have h0 := hI.2; rw [T1_ h9] at h0; rw [mi_ h0])) (by simp only [go_sem, seval, al_, ah_, am_])
theorem af1_ (l : List Pg) (hs : ∀ p ∈ l, pgB p) (hl : l.length ≤ 2000000) : ACall En 164 [.sl false (pgR l), .fn (.func 165) [] []] [] [.b (l.any fun p => !okP p)] [] := by
 refine aj_ (fn := Tryz.f164) [] Tryz.func164 rfl rfl (by simp) fun C => ?_
 rw [ay_]
 simp only [Tryz.ntmps164, T7_, List.length_nil, Nat.reduceAdd, Nat.reduceSub, List.replicate_succ, List.replicate_zero, List.cons_append, List.nil_append, bu_]
 refine .seq (.rgn [] (by simp only [go_sem, seval, ah_]; rfl) ?_ ?_)
 ·first | trivial | simp
 refine .seq (.rgn [a8_ (akd_ l hs hl)] (by simp only [go_sem, seval, ah_]; rfl) ?_ ?_)
 ·first | trivial | simp
 refine .ret ⟨.inr rfl, ?_⟩
 exact Out.plain (by simp only [Tryz.results164]; rfl) (by simp only [az_, bc_, go_sem, seval, ah_] <;> (split <;> rfl)) (by simp only [bb_, go_sem, seval, ah_] <;> (rw [s6_])) (by simp only [go_sem, seval, ah_])
theorem ah8_ (l : List Pg) : e6_ l = ((decide ((1 : Int) ≤ l.length) && decide ((l.length : Int) ≤ 16)) && !l.any fun p => !okP p) := by
 rw [List.any_eq_not_all_not]; simp only [e6_, Bool.not_not, e0_]; rfl
theorem abj_ (l : List Pg) (hs : ∀ p ∈ l, pgB p) (hl : l.length ≤ 2000000) : ACall En 106 [.sl false (pgR l)] [] [.b (e6_ l)] [] := by
 refine aj_ (fn := Tryz.f106) [] Tryz.func106 rfl rfl (by simp) fun C => ?_
 rw [ay_]
 simp only [Tryz.ntmps106, T7_, List.length_nil, Nat.reduceAdd, Nat.reduceSub, List.replicate_succ, List.replicate_zero, List.cons_append, List.nil_append, bu_]
 refine .seq (.rgn [] (by simp only [go_sem, seval, al_, ah_]; rfl) ?_ ?_)
 ·first | trivial | simp
 refine .seq (.rgn [a8_ (x2_ l.length 1 16), a8_ (af1_ l hs hl)] (by simp only [go_sem, seval, al_, ah_]; rfl) ?_ ?_)
 ·first | trivial | simp
 refine .ret ⟨.inr rfl, ?_⟩
 exact Out.plain (by simp only [Tryz.results106]; rfl) (by simp only [az_, bc_, go_sem, seval, al_, ah_] <;> (split <;> rfl)) (by simp only [bb_, go_sem, seval, al_, ah_] <;> (rw [ah8_])) (by simp only [go_sem, seval, al_, ah_])
end
end Go.Proofs.YtcigkafioinfoaaGreatDoor
