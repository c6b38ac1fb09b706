/- Books: lines with what they are turned into, plainly. Conditions: none. -/
import Derived.Test.YtpikbndepapbhaaGreatDoorK11
import Derived.Test.YtpikbndepapbhaaGreatDoorK3
import Derived.Test.YtpikbndepapbhaaGreatDoorKr
set_option linter.unusedVariables false
set_option linter.unusedSimpArgs false
namespace Go.Proofs.YtpikbndepapbhaaGreatDoor
section
set_option maxRecDepth 100000
def okP (p : Pg) : Bool := il_ p.line && decide (p = et_ p.line)
def e3_ (l : List Pg) : Bool := decide (1 ≤ l.length) && decide (l.length ≤ 16) && l.all okP
def do_ (s : Str) : List Pg := if (cb_ s).length ≤ 16 then (cb_ s).map et_ else []
def gi_ (s : Str) : Sl := (cu_ s).getD S0
def fh_ (l : List Pg) : List Sl := l.map fun p => gi_ p.line
def w0_ (l : List Pg) : Str := if e3_ l then cj_ (l.map (·.line)) else []
def wr_ (l : List Pg) : Str := if e3_ l then cj_ (l.map (·.text)) else []
def hs_ (l : List Pg) : Nat → List Sg
 | 0 => []
 | k + 1 => hs_ l k ++ (if (l.getD k Pg0).good then sgs k ((bt_ (l.getD k Pg0).text).getD []) (l.getD k Pg0).frm else [])
def jb_ (l : List Pg) : List Sg := if e3_ l then hs_ l l.length else []
def gr_ (l : List Pg) : Nat → List Int
 | 0 => []
 | k + 1 => gr_ l k ++ (if (l.getD k Pg0).good then [] else [(k : Int)])
def mw_ (l : List Pg) : List Int := if e3_ l then gr_ l l.length else []
theorem f1_ {l : List Pg} (h : e3_ l = true) : 1 ≤ l.length ∧ l.length ≤ 16 ∧ ∀ k, k < l.length → okP (l.getD k Pg0) = true := by
 simp only [e3_, T5_, T3_] at h
 exact ⟨h.1.1, h.1.2, fun k hk => List.all_eq_true.1 h.2 _ (bk_ hk)⟩
theorem wf_ {p : Pg} (h : okP p = true) : il_ p.line = true ∧ p = et_ p.line := by
 simp only [okP, T5_, T3_] at h; exact h
theorem vt_ (s : Str) : sok (gi_ s) = true := by
 unfold gi_
 cases h : cu_ s with
 | none => exact xr_
 | some x => exact (lw_.1 h).1
theorem emT_S0' : emT S0 = [] := by unfold emT; rw [if_pos xr_]; decide
theorem if_ {p : Pg} (h : okP p = true) : p.text = emT (gi_ p.line) ∧ p.frm = emF (gi_ p.line) ∧ p.good = (cu_ p.line).isSome := by
 obtain ⟨h1, h2⟩ := wf_ h
 unfold gi_
 cases hx : cu_ p.line with
 | none => rw [h2, og_ h1 (by rw [hx]; rfl)]; exact ⟨emT_S0'.symm, emF_S0.symm, rfl⟩
 | some x => rw [h2, r0_ h1 (by rw [hx]; rfl), hx]; exact ⟨rfl, rfl, rfl⟩
theorem w3_ {l : List Pg} {k : Nat} (h : k < l.length) : (fh_ l).getD k S0 = gi_ (l.getD k Pg0).line := by
 simp [fh_, T8_, T6_ h]
theorem kf_ (l : List Pg) : (fh_ l).length = l.length := by simp [fh_]
theorem sc_ {l : List Pg} (h : e3_ l = true) : pok (fh_ l) = true := by
 obtain ⟨h1, h2, _⟩ := f1_ h
 simp only [pok, kf_, T5_, T3_]
 refine ⟨⟨h1, h2⟩, List.all_eq_true.2 fun x hx => ?_⟩
 obtain ⟨p, _, rfl⟩ := List.mem_map.1 hx
 exact vt_ _
theorem ajm_ {p : Pg} (h : okP p = true) (hg : p.good = false) : gi_ p.line = S0 := by
 have := (if_ h).2.2
 unfold gi_
 cases hx : cu_ p.line with
 | none => rfl
 | some x => rw [hg, hx] at this; cases this
theorem w7_ {l : List Pg} (h : e3_ l = true) : ∀ k, k ≤ l.length → hs_ l k = sgN (fh_ l) k
 | 0, _ => rfl
 | k + 1, hk => by
  have ho := (f1_ h).2.2 k (by omega)
  rw [hs_, sgN, w7_ h k (by omega), w3_ (by omega)]
  congr 1
  cases hg : (l.getD k Pg0).good with
  | true => obtain ⟨q1, q2, _⟩ := if_ ho; rw [q1, q2]; rfl
  | false => rw [ajm_ ho hg, akk_]; rfl
theorem wd_ {l : List Pg} (h : e3_ l = true) : jb_ l = sgP (fh_ l) := by
 unfold jb_ sgP
 rw [if_pos h, if_pos (sc_ h), w7_ h _ (Nat.le_refl _), kf_]
theorem aga_ {l : List Pg} (h : ∀ p ∈ l, okP p = true) : l.map (·.text) = (fh_ l).map emT := by
 unfold fh_
 rw [List.map_map]
 exact List.map_congr_left fun p hp => (if_ (h p hp)).1
theorem ol_ {l : List Pg} (h : e3_ l = true) : ∀ p ∈ l, okP p = true := by
 simp only [e3_, T5_] at h
 exact List.all_eq_true.1 h.2
theorem ab1_ {l : List Pg} (h : e3_ l = true) : wr_ l = op_ (fh_ l) := by
 unfold wr_ op_
 rw [if_pos h, if_pos (sc_ h), aga_ (ol_ h)]
theorem zy_ : ∀ {l : Str} {w : Int}, g0_ l w = true → (10 : UInt8) ∉ l → w ≤ 120 → l.all prt = true ∧ w + l.length ≤ 120
 | [], w, _, _, hw => ⟨rfl, by simpa using hw⟩
 | c :: l, w, h, hn, hw => by
  simp only [List.mem_cons, not_or] at hn
  rw [g0_, if_neg (fun e => hn.1 e.symm)] at h
  simp only [T5_, T3_] at h
  obtain ⟨q1, q2⟩ := zy_ h.2 hn.2 h.1.2
  refine ⟨?_, by simp only [T7_]; omega⟩
  simp only [List.all_cons, q1, Bool.and_true, prt, T5_, T3_]
  exact h.1.1
theorem abf_ {s : Str} (h : il_ s = true) : lnOk s := by
 simp only [il_, tOk, lo_, T5_, Bool.not_eq_true'] at h
 have hn : (10 : UInt8) ∉ s := fun q => by rw [List.contains_iff_mem.2 q] at h; exact absurd h.2 (by decide)
 obtain ⟨q1, q2⟩ := zy_ h.1.1 hn (by decide)
 exact ⟨q1, by omega⟩
theorem u1_ (s : Sl) : lnOk (emT s) := by
 by_cases h : sok s = true
 ·rw [qv_ h]; exact xy_ (su_ h)
 ·unfold emT; rw [if_neg h]; exact ⟨rfl, by simp⟩
end
section
set_option maxRecDepth 100000
theorem o4_ (l : List Pg) : ∀ k, (gr_ l k).length ≤ k
 | 0 => by simp [gr_]
 | k + 1 => by
  have := o4_ l k
  rw [gr_, T2_]; split <;> simp <;> omega
theorem v0_ {l : List Pg} {i n : Nat} (h : (l.getD i Pg0).good = false) : (gr_ l (i + 1)).length = (gr_ l i).length + 1 := by rw [gr_, h]; simp
theorem js_ {l : List Pg} {i : Nat} (h : (l.getD i Pg0).good = true) : gr_ l (i + 1) = gr_ l i := by rw [gr_, h]; simp
theorem abb_ (l : List Pg) : (jb_ l).length ≤ 2000 := by
 cases h : e3_ l with
 | true => rw [wd_ h]; have := ae4_ (fh_ l); omega
 | false => unfold jb_; rw [h]; simp
theorem aff_ (l : List Pg) : (mw_ l).length ≤ 16 := by
 unfold mw_; split
 ·rename_i h; have := o4_ l l.length; have := (f1_ h).2.1; omega
 ·simp
theorem ad6_ (s : Str) : (do_ s).length ≤ 16 := by unfold do_; split <;> simp; omega
end
section
set_option maxRecDepth 100000
def d8_ (b : Str) : Nat → Int → List Str → List Str × Int
 | 0, p, l => (l, p)
 | n + 1, p, l => d8_ b n (dTo b p).2 (l ++ [(dTo b p).1])
def s8_ : Str := [115, 97, 121, 32, 49]
def gm_ (b : Str) : Nat → Int → List Str → List Str × Int
 | 0, p, l => (l, p)
 | n + 1, p, l => if (l.length : Int) < 16 + bx_ b p 2 then gm_ b n (p + 1) (l ++ [s8_]) else (l, p + 1)
def wL (l : List Str) : Prop := ∀ w ∈ l, w.length ≤ 300
theorem r4_ {l : List Str} {w : Str} (h : wL l) (hw : w.length ≤ 300) : wL (l ++ [w]) := fun x hx => by
 rcases List.mem_append.1 hx with hx | hx
 ·exact h x hx
 ·simp at hx; subst hx; exact hw
theorem sm_ (b : Str) : ∀ (n : Nat) (p : Int) (l : List Str), 0 ≤ p → p + 1000 * n < 1000000 → wL l → p ≤ (d8_ b n p l).2 ∧ (d8_ b n p l).2 ≤ p + 1000 * n ∧ wL (d8_ b n p l).1 ∧ (d8_ b n p l).1.length = l.length + n
 | 0, p, l, hp, _, hl => ⟨Int.le_refl _, by simp [d8_], hl, rfl⟩
 | n + 1, p, l, hp, hp2, hl => by
  obtain ⟨q1, q2, q3⟩ := ai9_ b hp (by omega)
  obtain ⟨r1, r2, r3, r4⟩ := sm_ b n (dTo b p).2 (l ++ [(dTo b p).1]) (by omega) (by omega) (r4_ hl q3)
  rw [d8_]
  refine ⟨by omega, by omega, r3, ?_⟩
  rw [r4, T2_, List.length_singleton]; omega
theorem yp_ (b : Str) : ∀ (n : Nat) (p : Int) (l : List Str), 0 ≤ p → p + n < 1000000 → wL l → p ≤ (gm_ b n p l).2 ∧ (gm_ b n p l).2 ≤ p + n + 1 ∧ wL (gm_ b n p l).1 ∧ (gm_ b n p l).1.length ≤ l.length + n
 | 0, p, l, hp, _, hl => ⟨Int.le_refl _, by simp only [gm_]; omega, hl, Nat.le_refl _⟩
 | n + 1, p, l, hp, hp2, hl => by
  obtain ⟨r1, r2, r3, r4⟩ := yp_ b n (p + 1) (l ++ [s8_]) (by omega) (by omega) (r4_ hl (by decide))
  rw [gm_]
  split
  ·refine ⟨by omega, by omega, r3, ?_⟩
   rw [T2_, List.length_singleton] at r4; omega
  ·exact ⟨by dsimp only; omega, by dsimp only; omega, hl, by dsimp only; omega⟩
def mn_ (b : Str) (p : Int) : List Str × Int :=
 if bx_ b (d8_ b (1 + (bx_ b p 6).toNat) (p + 1) []).2 30 = 0 then gm_ b 20 ((d8_ b (1 + (bx_ b p 6).toNat) (p + 1) []).2 + 1) (d8_ b (1 + (bx_ b p 6).toNat) (p + 1) []).1
 else ((d8_ b (1 + (bx_ b p 6).toNat) (p + 1) []).1, (d8_ b (1 + (bx_ b p 6).toNat) (p + 1) []).2 + 1)
theorem aej_ (b : Str) {p : Int} (hp : 0 ≤ p) (hp2 : p < 100000) : p ≤ (mn_ b p).2 ∧ (mn_ b p).2 ≤ p + 9000 ∧ wL (mn_ b p).1 ∧ (mn_ b p).1.length ≤ 30 := by
 have h6 := ej_ b (p := p) (n := 6) hp (by omega) (by decide)
 obtain ⟨r1, r2, r3, r4⟩ := sm_ b (1 + (bx_ b p 6).toNat) (p + 1) [] (by omega) (by omega) (fun w hw => by cases hw)
 unfold mn_
 simp only [List.length_nil] at r4
 split
 ·obtain ⟨s1, s2, s3, s4⟩ := yp_ b 20 ((d8_ b (1 + (bx_ b p 6).toNat) (p + 1) []).2 + 1) (d8_ b (1 + (bx_ b p 6).toNat) (p + 1) []).1 (by omega) (by omega) r3
  exact ⟨by omega, by omega, s3, by omega⟩
 ·exact ⟨by dsimp only; omega, by dsimp only; omega, r3, by dsimp only; omega⟩
def dTx (b : Str) (p : Int) : Str × Int := (cj_ (mn_ b p).1, (mn_ b p).2)
theorem ag2_ (b : Str) {p : Int} (hp : 0 ≤ p) (hp2 : p < 100000) : (dTx b p).1.length ≤ 10000 := by
 obtain ⟨h1, h2, h3, h4⟩ := aej_ b hp hp2
 have := yn_ (l := (mn_ b p).1) (k := 300) h3
 have := Nat.mul_le_mul_right 301 h4
 show (cj_ _).length ≤ _
 omega
def pgB (p : Pg) : Prop := p.line.length ≤ 2000000 ∧ p.text.length ≤ 2000000 ∧ p.frm.length ≤ 2000000
theorem akt_ (s : Sl) : (emF s).length ≤ 1000 := by
 by_cases h : sok s = true
 ·have := so_ h; omega
 ·unfold emF; rw [if_neg h]; simp
theorem aek_ {s : Str} (h : s.length ≤ 2000000) : pgB (et_ s) := by
 unfold et_
 split
 ·cases hx : cu_ s with
  | none => exact ⟨h, by simp, by simp⟩
  | some x => exact ⟨h, by have := (u1_ x).2; dsimp only; omega, by have := akt_ x; dsimp only; omega⟩
 ·exact ⟨by simp [Pg0], by simp [Pg0], by simp [Pg0]⟩
theorem ake_ (s : Str) : ∀ p ∈ do_ s, pgB p := fun p hp => by
 unfold do_ at hp
 split at hp
 ·obtain ⟨w, hw, rfl⟩ := List.mem_map.1 hp
  exact aek_ (by have := ii_ s w hw; omega)
 ·cases hp
end
section
set_option maxRecDepth 100000
set_option maxHeartbeats 4000000
theorem adj_ (a b : List Int) (ha : a.length ≤ 1000000000) (hb : b.length ≤ 1000000000) : ACall En 86 [.sl false (inR a), .sl false (inR b)] [] [.b (a == b)] [] := by
 refine aj_ (fn := Tryz.f86) [] Tryz.func86 rfl rfl (by simp) fun C => ?_
 rw [a0_]
 simp only [Tryz.ntmps86, T7_, List.length_nil, Nat.reduceAdd, Nat.reduceSub, List.replicate_succ, List.replicate_zero, List.cons_append, List.nil_append, bq_]
 refine .seq (.rgn [] (by simp only [go_sem, seval, ai_, ac_]; rfl) ?_ ?_)
 ·first | trivial | simp
 refine .seq (.seq (.rgn [] (by simp only [go_sem, seval, ai_, ac_]; rfl) ?_ ?_))
 ·first | trivial | simp
 refine .condB (by simp only [go_sem, seval, ai_, ac_]; rfl) (by simp only [go_sem, seval, ai_, ac_]) (fun h10 => ?_) (fun h10 => ?_)
 ·refine .seq (.rgn [] (by simp only [go_sem, seval, ai_, ac_]; rfl) ?_ ?_)
  ·first | trivial | simp
  refine .ret ⟨.inr rfl, ?_⟩
  exact Out.plain (by simp only [Tryz.results86]; rfl) (by simp only [a1_, a9_, go_sem, seval, ai_, ac_] <;> (split <;> rfl)) (by simp only [a8_, go_sem, seval, ai_, ac_] <;> (have : a ≠ b := (fun e => by simp [e] at h10); simp [this])) (by simp only [go_sem, seval, ai_, ac_])
 ·refine .skip (.seq (.seq (.rgn [] (by simp only [go_sem, seval, ai_, ac_]; rfl) ?_ ?_)))
  ·first | trivial | simp
  refine .block (.loopK (fun k : Nat => ⟨[.sl false (inR a), .sl false (inR b), .no, .no, .no, .no, .no, .no, .no, .no, .no, .no, .i .i64 a.length, .i .i64 k, .no, .no, .no, .no, .no, .no, .no, .no, .no, .no, .no, .no], bg_ [], us []⟩) (fun k : Nat => k ≤ a.length ∧ a.take k = b.take k) (fun k : Nat => a.length - k) (0) ?_ ?_ (fun k hI => ?_))
  ·exact ⟨Nat.zero_le _, rfl⟩
  ·exact Can.weak (Weak.lit (by simp only [go_sem, seval, ai_, ac_, av_, leV, at_, au_, V.inn, us, T9_, Ta_] <;> (simp)) (by simp only [go_sem, seval, ai_, ac_, av_, leV, at_, au_, V.inn, us, T9_, Ta_]) (by simp only [go_sem, seval, ai_, ac_, av_, leV, at_, au_, V.inn, us, T9_, Ta_]))
  refine .seq (.rgn [] (by simp only [go_sem, seval, ai_, ac_]; rfl) ?_ ?_)
  ·first | trivial | simp
  refine .seq (.condB (by simp only [go_sem, seval, ai_, ac_]; rfl) (by simp only [go_sem, seval, ai_, ac_]) (fun h14 => ?_) (fun h14 => ?_))
  ·refine .skip (.seq (.block (.seq (.rgn [] (by simp only [go_sem, seval, ai_, ac_]; rfl) ?_ ?_))))
   ·first | trivial | simp
   refine .seq (.rgnD [] enM (by simp only [go_sem, seval, ai_, ac_, fd_ (show k < a.length by simpa using h14), fd_ (show k < b.length by simp at h14 h10; omega)]; rfl) (by rfl) ?_ ?_)
   ·simp at h14 h10; simp; omega
   refine .condB (by simp only [go_sem, seval, ai_, ac_]; rfl) (by simp only [go_sem, seval, ai_, ac_]) (fun h24 => ?_) (fun h24 => ?_)
   ·refine .seq (.rgn [] (by simp only [go_sem, seval, ai_, ac_]; rfl) ?_ ?_)
    ·first | trivial | simp
    refine .ret ⟨.inr rfl, ?_⟩
    exact Out.plain (by simp only [Tryz.results86]; rfl) (by simp only [a1_, a9_, go_sem, seval, ai_, ac_] <;> (split <;> rfl)) (by simp only [a8_, go_sem, seval, ai_, ac_] <;> (have h2 : a.getD k 0 ≠ b.getD k 0 := bne_iff_ne.1 h24; have : a ≠ b := (fun e => h2 (by rw [e])); simp [this])) (by simp only [go_sem, seval, ai_, ac_])
   ·refine .skip (.rgn [] (by simp only [go_sem, seval, ai_, ac_]; rfl) ?_ ?_)
    ·first | trivial | simp
    refine Exists.intro (k + 1) ⟨?_, ?_, ?_⟩
    ·simp only [T3_] at h14; simp at h10; exact ⟨by omega, oy_ (d := 0) (by omega) (by omega) hI.2 (by simpa using h24)⟩
    ·simp at h14; omega
    exact Can.weak (Weak.lit (by simp only [go_sem, seval, ai_, ac_, av_, leV, at_, au_, V.inn, us, T9_, Ta_] <;> (rw [bh_ (by simp at h14; omega) (by simp at h14; omega)]; simp)) (by simp only [go_sem, seval, ai_, ac_, av_, leV, at_, au_, V.inn, us, T9_, Ta_]) (by simp only [go_sem, seval, ai_, ac_, av_, leV, at_, au_, V.inn, us, T9_, Ta_]))
  ·refine .exit (.seq (.rgn [] (by simp only [go_sem, seval, ai_, ac_]; rfl) ?_ ?_))
   ·first | trivial | simp
   refine .ret ⟨.inr rfl, ?_⟩
   exact Out.plain (by simp only [Tryz.results86]; rfl) (by simp only [a1_, a9_, go_sem, seval, ai_, ac_] <;> (split <;> rfl)) (by simp only [a8_, go_sem, seval, ai_, ac_] <;> (simp only [T4_] at h14; simp at h10; have q := hI.2; rw [T1_ (by omega), T1_ (by omega)] at q; simp [q])) (by simp only [go_sem, seval, ai_, ac_])
theorem ado_ {p q : Pg} : (p = q) ↔ (((p.line = q.line ∧ p.good = q.good) ∧ p.text = q.text) ∧ p.frm = q.frm) := by
 constructor
 ·rintro rfl; exact ⟨⟨⟨rfl, rfl⟩, rfl⟩, rfl⟩
 ·intro h; obtain ⟨a, b, c, d⟩ := p; obtain ⟨a2, b2, c2, d2⟩ := q; simp_all
theorem ajp_ (p q : Pg) (hp : pgB p) (hq : pgB q) : ACall En 55 [.ag (pgC p), .ag (pgC q)] [] [.b (decide (p = q))] [] := by
 have h1 := hp.2.2
 have h2 := hq.2.2
 have T := @ado_ p q
 refine aj_ (fn := Tryz.f55) [] Tryz.func55 rfl rfl (by simp) fun C => ?_
 rw [a0_]
 simp only [Tryz.ntmps55, T7_, List.length_nil, Nat.reduceAdd, Nat.reduceSub, List.replicate_succ, List.replicate_zero, List.cons_append, List.nil_append, bq_]
 refine .seq (.rgn [] (by simp only [go_sem, seval, an_, ac_]; rfl) ?_ ?_)
 ·first | trivial | simp
 refine .seq (.rgn [a5_ (adj_ p.frm q.frm (by omega) (by omega))] (by simp only [go_sem, seval, an_, ac_]; rfl) ?_ ?_)
 ·first | trivial | simp
 refine .ret ⟨.inr rfl, ?_⟩
 exact Out.plain (by simp only [Tryz.results55]; rfl) (by simp only [a1_, a9_, go_sem, seval, an_, ac_] <;> (split <;> rfl)) (by simp only [a8_, go_sem, seval, an_, ac_] <;> (have e : (p.line == q.line && p.good == q.good && p.text == q.text && p.frm == q.frm) = decide (p = q) := (by rw [Bool.eq_iff_iff]; simp only [T5_, beq_iff_eq, T3_]; exact T.symm); rw [e])) (by simp only [go_sem, seval, an_, ac_])
theorem z9_ (p : Pg) (hp : pgB p) : ACall En 53 [.ag (pgC p)] [] [.b (!okP p)] [] := by
 have P := rp_ p.line (by have := hp.1; omega)
 have B := aek_ hp.1
 refine aj_ (fn := Tryz.f53) [] Tryz.func53 rfl rfl (by simp) fun C => ?_
 rw [a0_]
 simp only [Tryz.ntmps53, T7_, List.length_nil, Nat.reduceAdd, Nat.reduceSub, List.replicate_succ, List.replicate_zero, List.cons_append, List.nil_append, bq_]
 refine .seq (.rgn [] (by simp only [go_sem, seval, an_, ac_]; rfl) ?_ ?_)
 ·first | trivial | simp
 refine .seq (.rgnD [a5_ (vn_ p.line (by have := hp.1; omega)), a5_ P, a5_ (ajp_ p (et_ p.line) hp B)] enM (by simp only [go_sem, seval, an_, ac_]; rfl) (by rfl) ?_ ?_)
 ·first | trivial | simp
 refine .ret ⟨.inr rfl, ?_⟩
 exact Out.plain (by simp only [Tryz.results53]; rfl) (by simp only [a1_, a9_, go_sem, seval, an_, ac_] <;> (split <;> rfl)) (by simp only [a8_, go_sem, seval, an_, ac_] <;> (rw [okP, Bool.not_and])) (by simp only [go_sem, seval, an_, ac_])
theorem agg_ (l : List Pg) (hs : ∀ p ∈ l, pgB p) (hl : l.length ≤ 1000000) : ACall En 84 [.sl false (pgR l), .fn (.func 53) [] []] [] [.i .i64 (vh_ (fun p => !okP p) l)] [] := by
 refine aj_ (fn := Tryz.f84) [] Tryz.func84 rfl rfl (by simp) fun C => ?_
 rw [a0_]
 simp only [Tryz.ntmps84, T7_, List.length_nil, Nat.reduceAdd, Nat.reduceSub, List.replicate_succ, List.replicate_zero, List.cons_append, List.nil_append, bq_]
 refine .seq (.rgn [] (by simp only [go_sem, seval, am_, ag_, an_]; rfl) ?_ ?_)
 ·first | trivial | simp
 refine .seq (.seq (.rgn [] (by simp only [go_sem, seval, am_, ag_, an_]; rfl) ?_ ?_))
 ·first | trivial | simp
 refine .block (.loopK (fun k : Nat => ⟨[.sl false (pgR l), .fn (.func 53) [] [], .no, .no, .no, .no, .no, .i .i64 l.length, .i .i64 k, .no, .no, .no, .no, .no, .no, .no, .no, .no, .no], bg_ [], us []⟩) (fun k : Nat => k ≤ l.length ∧ (l.take k).any (fun p => !okP p) = false) (fun k : Nat => l.length - k) (0) ?_ ?_ (fun k hI => ?_))
 ·simp
 ·exact Can.weak (Weak.lit (by simp only [go_sem, seval, am_, ag_, an_, av_, leV, at_, au_, V.inn, us, T9_, Ta_] <;> (simp)) (by simp only [go_sem, seval, am_, ag_, an_, av_, leV, at_, au_, V.inn, us, T9_, Ta_]) (by simp only [go_sem, seval, am_, ag_, an_, av_, leV, at_, au_, V.inn, us, T9_, Ta_]))
 refine .seq (.rgn [] (by simp only [go_sem, seval, am_, ag_, an_]; rfl) ?_ ?_)
 ·first | trivial | simp
 refine .seq (.condB (by simp only [go_sem, seval, am_, ag_, an_]; rfl) (by simp only [go_sem, seval, am_, ag_, an_]) (fun h9 => ?_) (fun h9 => ?_))
 ·refine .skip (.seq (.block (.seq (.rgn [] (by simp only [go_sem, seval, am_, ag_, an_]; rfl) ?_ ?_))))
  ·first | trivial | simp
  refine .seq (.rgn [cf_ (k < l.length) (fun h => z9_ (l.getD k Pg0) (hs _ (bk_ h)))] (by simp only [go_sem, seval, am_, ag_, an_, f5_ (show k < l.length by simpa using h9)]; rfl) ?_ ?_)
  ·simp only [T3_] at h9; simp only [abr_, ac_, cc_, V.pure, Bool.and_true, true_and]; and_intros <;> first | omega | (simp; done) | trivial
  refine .condB (by simp only [go_sem, seval, am_, ag_, an_]; rfl) (by simp only [go_sem, seval, am_, ag_, an_]) (fun h16 => ?_) (fun h16 => ?_)
  ·refine .seq (.rgn [] (by simp only [go_sem, seval, am_, ag_, an_]; rfl) ?_ ?_)
   ·first | trivial | simp
   refine .ret ⟨.inr rfl, ?_⟩
   exact Out.plain (by simp only [Tryz.results84]; rfl) (by simp only [a1_, a9_, go_sem, seval, am_, ag_, an_] <;> (split <;> rfl)) (by simp only [a8_, go_sem, seval, am_, ag_, an_] <;> (simp at h9; rw [zr_ (d := Pg0) h9 hI.2 h16])) (by simp only [go_sem, seval, am_, ag_, an_])
  ·refine .skip (.rgn [] (by simp only [go_sem, seval, am_, ag_, an_]; rfl) ?_ ?_)
   ·first | trivial | simp
   refine Exists.intro (k + 1) ⟨?_, ?_, ?_⟩
   ·simp at h9; refine ⟨by omega, ?_⟩; rw [t3_ (d := Pg0) h9, hI.2, h16]; rfl
   ·simp at h9; omega
   exact Can.weak (Weak.lit (by simp only [go_sem, seval, am_, ag_, an_, av_, leV, at_, au_, V.inn, us, T9_, Ta_] <;> (rw [bh_ (by omega) (by omega)]; simp)) (by simp only [go_sem, seval, am_, ag_, an_, av_, leV, at_, au_, V.inn, us, T9_, Ta_]) (by simp only [go_sem, seval, am_, ag_, an_, av_, leV, at_, au_, V.inn, us, T9_, Ta_]))
 ·refine .exit (.seq (.rgn [] (by simp only [go_sem, seval, am_, ag_, an_]; rfl) ?_ ?_))
  ·first | trivial | simp
  refine .ret ⟨.inr rfl, ?_⟩
  exact Out.plain (by simp only [Tryz.results84]; rfl) (by simp only [a1_, a9_, go_sem, seval, am_, ag_, an_] <;> (split <;> rfl)) (by simp only [a8_, go_sem, seval, am_, ag_, an_] <;> (simp at h9; have h0 := hI.2; rw [T1_ h9] at h0; rw [ri_ h0])) (by simp only [go_sem, seval, am_, ag_, an_])
theorem acn_ (l : List Pg) (hs : ∀ p ∈ l, pgB p) (hl : l.length ≤ 1000000) : ACall En 52 [.sl false (pgR l), .fn (.func 53) [] []] [] [.b (l.any fun p => !okP p)] [] := by
 refine aj_ (fn := Tryz.f52) [] Tryz.func52 rfl rfl (by simp) fun C => ?_
 rw [a0_]
 simp only [Tryz.ntmps52, T7_, List.length_nil, Nat.reduceAdd, Nat.reduceSub, List.replicate_succ, List.replicate_zero, List.cons_append, List.nil_append, bq_]
 refine .seq (.rgn [] (by simp only [go_sem, seval, ag_]; rfl) ?_ ?_)
 ·first | trivial | simp
 refine .seq (.rgn [a5_ (agg_ l hs hl)] (by simp only [go_sem, seval, ag_]; rfl) ?_ ?_)
 ·first | trivial | simp
 refine .ret ⟨.inr rfl, ?_⟩
 exact Out.plain (by simp only [Tryz.results52]; rfl) (by simp only [a1_, a9_, go_sem, seval, ag_] <;> (split <;> rfl)) (by simp only [a8_, go_sem, seval, ag_] <;> (rw [zf_])) (by simp only [go_sem, seval, ag_])
theorem aif_ (l : List Pg) : e3_ l = ((decide ((1 : Int) ≤ l.length) && decide ((l.length : Int) ≤ 16)) && !l.any fun p => !okP p) := by
 rw [List.any_eq_not_all_not]; simp only [e3_, Bool.not_not, hv_]; rfl
theorem ji_ (l : List Pg) (hs : ∀ p ∈ l, pgB p) (hl : l.length ≤ 1000000) : ACall En 19 [.sl false (pgR l)] [] [.b (e3_ l)] [] := by
 refine aj_ (fn := Tryz.f19) [] Tryz.func19 rfl rfl (by simp) fun C => ?_
 rw [a0_]
 simp only [Tryz.ntmps19, T7_, List.length_nil, Nat.reduceAdd, Nat.reduceSub, List.replicate_succ, List.replicate_zero, List.cons_append, List.nil_append, bq_]
 refine .seq (.rgn [] (by simp only [go_sem, seval, am_, ag_]; rfl) ?_ ?_)
 ·first | trivial | simp
 refine .seq (.rgn [a5_ (in_a l.length 1 16), a5_ (acn_ l hs hl)] (by simp only [go_sem, seval, am_, ag_]; rfl) ?_ ?_)
 ·first | trivial | simp
 refine .ret ⟨.inr rfl, ?_⟩
 exact Out.plain (by simp only [Tryz.results19]; rfl) (by simp only [a1_, a9_, go_sem, seval, am_, ag_] <;> (split <;> rfl)) (by simp only [a8_, go_sem, seval, am_, ag_] <;> (rw [aif_])) (by simp only [go_sem, seval, am_, ag_])
def zPg : List V := [.s [], .b false, .s [], .sl true []]
theorem e2_ (l : List Pg) (k j : Nat) : ((d7_ (pgR l) zPg k).getD j []).drop 4 = [] := by
 rw [T8_]
 cases h : (d7_ (pgR l) zPg k)[j]? with
 | none => rfl
 | some r =>
  have hm := List.mem_of_getElem? h
  have : r.length = 4 := by
   rcases lb_ hm with hm | rfl
   ·obtain ⟨s, _, rfl⟩ := List.mem_map.1 hm; rfl
   ·rfl
  simp only [Option.getD_some]; exact List.drop_of_length_le (by omega)
theorem agb_ {ls : List Str} {k : Nat} (h : k < ls.length) : (pgR (ls.map et_)).getD k [] = pgC (et_ (ls.getD k [])) := by
 rw [f5_ (by simpa using h)]
 simp [T8_, T6_ h]
theorem aaz_ (s : Str) (hs : s.length ≤ 281474976710656) : ACall En 13 [.s s] [] [.sl false (pgR (do_ s))] [] := by
 have hL := is_ s
 have hM := ii_ s
 have hb : do_ s = if (cb_ s).length ≤ 16 then (cb_ s).map et_ else [] := rfl
 have T := lh_ s hs
 generalize cb_ s = ls at *
 have hp : ∀ k, b5_ (d7_ (pgR (ls.map et_)) zPg k) = true := fun k => fy_ (ag_ _) rfl
 have hll : (pgR (ls.map et_)).length = ls.length := by simp [pgR]
 refine aj_ (fn := Tryz.f13) [] Tryz.func13 rfl rfl (by simp) fun C => ?_
 rw [a0_]
 simp only [Tryz.ntmps13, T7_, List.length_nil, Nat.reduceAdd, Nat.reduceSub, List.replicate_succ, List.replicate_zero, List.cons_append, List.nil_append, bq_]
 refine .seq (.rgn [] (by simp only [go_sem, seval, ab_, aa_, ag_, hp, hll, e2_, as_, an_]; rfl) ?_ ?_)
 ·(first | trivial | (simp; done) | (simp only [T3_, T4_] at h11 h18; and_intros <;> first | omega | exact ac_ _) | (simp only [T4_] at h11; and_intros <;> omega))
 refine .seq (.rgn [a5_ T] (by simp only [go_sem, seval, ab_, aa_, ag_, hp, hll, e2_, as_, an_]; rfl) ?_ ?_)
 ·(first | trivial | (simp; done) | (simp only [T3_, T4_] at h11 h18; and_intros <;> first | omega | exact ac_ _) | (simp only [T4_] at h11; and_intros <;> omega))
 refine .seq (.seq (.rgn [] (by simp only [go_sem, seval, ab_, aa_, ag_, hp, hll, e2_, as_, an_]; rfl) ?_ ?_))
 ·(first | trivial | (simp; done) | (simp only [T3_, T4_] at h11 h18; and_intros <;> first | omega | exact ac_ _) | (simp only [T4_] at h11; and_intros <;> omega))
 refine .condB (by simp only [go_sem, seval, ab_, aa_, ag_, hp, hll, e2_, as_, an_]; rfl) (by simp only [go_sem, seval, ab_, aa_, ag_, hp, hll, e2_, as_, an_]) (fun h11 => ?_) (fun h11 => ?_)
 ·refine .seq (.rgn [] (by simp only [go_sem, seval, ab_, aa_, ag_, hp, hll, e2_, as_, an_]; rfl) ?_ ?_)
  ·(first | trivial | (simp; done) | (simp only [T3_, T4_] at h11 h18; and_intros <;> first | omega | exact ac_ _) | (simp only [T4_] at h11; and_intros <;> omega))
  refine .ret ⟨.inr rfl, ?_⟩
  exact Out.plainL (by simp only [Tryz.results13]; rfl) (by simp only [a1_, a9_, go_sem, seval, ab_, aa_, ag_, hp, hll, e2_, as_, an_] <;> (split <;> rfl)) (by simp only [a8_, go_sem, seval, ab_, aa_, ag_, hp, hll, e2_, as_, an_] <;> (simp only [T3_] at h11; rw [hb, if_neg (by omega)]; simp [pgR, les, ler, leV])) (by simp only [go_sem, seval, ab_, aa_, ag_, hp, hll, e2_, as_, an_])
 ·refine .skip (.seq (.rgn [] (by simp only [go_sem, seval, ab_, aa_, ag_, hp, hll, e2_, as_, an_]; rfl) ?_ ?_))
  ·(first | trivial | (simp; done) | (simp only [T3_, T4_] at h11 h18; and_intros <;> first | omega | exact ac_ _) | (simp only [T4_] at h11; and_intros <;> omega))
  refine .seq (.seq (.rgn [] (by simp only [go_sem, seval, ab_, aa_, ag_, hp, hll, e2_, as_, an_]; rfl) ?_ ?_))
  ·(first | trivial | (simp; done) | (simp only [T3_, T4_] at h11 h18; and_intros <;> first | omega | exact ac_ _) | (simp only [T4_] at h11; and_intros <;> omega))
  refine .block (.loopK (fun k : Nat => ⟨[.no, .no, .no, .no, .ow 24 4 0 ls.length, .no, .no, .no, .no, .no, .no, .no, .no, .no, .no, .sl false (bo_ ls), .i .i64 ls.length, .i .i64 k, .no, .no, .no, .no, .no, .no, .no, .no, .no, .no, .no], bg_ [(24, ⟨47, 4, d7_ (pgR (ls.map et_)) zPg k⟩)], us [24]⟩) (fun k : Nat => k ≤ ls.length) (fun k : Nat => ls.length - k) (0) ?_ ?_ (fun k hI => ?_))
  ·simp
  ·exact Can.weak (Weak.lit (by simp only [go_sem, seval, ab_, aa_, ag_, hp, hll, e2_, as_, an_, av_, leV, at_, au_, V.inn, us, T9_, Ta_] <;> ((try simp))) (by simp only [go_sem, seval, ab_, aa_, ag_, hp, hll, e2_, as_, an_, av_, leV, at_, au_, V.inn, us, T9_, Ta_]) (by simp only [go_sem, seval, ab_, aa_, ag_, hp, hll, e2_, as_, an_, av_, leV, at_, au_, V.inn, us, T9_, Ta_] <;> (simp [fo_, zPg, hll])))
  refine .seq (.rgn [] (by simp only [go_sem, seval, ab_, aa_, ag_, hp, hll, e2_, as_, an_]; rfl) ?_ ?_)
  ·(first | trivial | (simp; done) | (simp only [T3_, T4_] at h11 h18; and_intros <;> first | omega | exact ac_ _) | (simp only [T4_] at h11; and_intros <;> omega))
  refine .seq (.condB (by simp only [go_sem, seval, ab_, aa_, ag_, hp, hll, e2_, as_, an_]; rfl) (by simp only [go_sem, seval, ab_, aa_, ag_, hp, hll, e2_, as_, an_]) (fun h18 => ?_) (fun h18 => ?_))
  ·refine .skip (.seq (.block (.seq (.rgn [] (by simp only [go_sem, seval, ab_, aa_, ag_, hp, hll, e2_, as_, an_, b8_ (show k < ls.length by simpa using h18)]; rfl) ?_ ?_))))
   ·(first | trivial | (simp; done) | (simp only [T3_, T4_] at h11 h18; and_intros <;> first | omega | exact ac_ _) | (simp only [T4_] at h11; and_intros <;> omega))
   refine .rgn [cf_ (k < ls.length) (fun h => rp_ (ls.getD k []) (by have := hM _ (bk_ (d := []) h); omega))] (by simp only [go_sem, seval, ab_, aa_, ag_, hp, hll, e2_, as_, an_]; rfl) ?_ ?_
   ·(first | trivial | (simp; done) | (simp only [T3_, T4_] at h11 h18; and_intros <;> first | omega | exact ac_ _) | (simp only [T4_] at h11; and_intros <;> omega))
   refine .rgn [] (by simp only [go_sem, seval, ab_, aa_, ag_, hp, hll, e2_, as_, an_]; rfl) ?_ ?_
   ·(first | trivial | (simp; done) | (simp only [T3_, T4_] at h11 h18; and_intros <;> first | omega | exact ac_ _) | (simp only [T4_] at h11; and_intros <;> omega))
   refine Exists.intro (k + 1) ⟨?_, ?_, ?_⟩
   ·simp at h18; omega
   ·simp at h18; omega
   exact Can.weak (Weak.lit (by simp only [go_sem, seval, ab_, aa_, ag_, hp, hll, e2_, as_, an_, av_, leV, at_, au_, V.inn, us, T9_, Ta_] <;> (rw [bh_ (by simp at h18; omega) (by simp at h18; omega)]; (try simp))) (by simp only [go_sem, seval, ab_, aa_, ag_, hp, hll, e2_, as_, an_, av_, leV, at_, au_, V.inn, us, T9_, Ta_]) (by simp only [go_sem, seval, ab_, aa_, ag_, hp, hll, e2_, as_, an_, av_, leV, at_, au_, V.inn, us, T9_, Ta_] <;> (rw [← f9_ (by rw [hll]; simpa using h18), agb_ (by simpa using h18), an_])))
  ·refine .exit (.seq (.rgn [] (by simp only [go_sem, seval, ab_, aa_, ag_, hp, hll, e2_, as_, an_]; rfl) ?_ ?_))
   ·(first | trivial | (simp; done) | (simp only [T3_, T4_] at h11 h18; and_intros <;> first | omega | exact ac_ _) | (simp only [T4_] at h11; and_intros <;> omega))
   refine .frz 24 (by simp only [go_sem, seval, ab_, aa_, ag_, hp, hll, e2_, as_, an_]; rfl) (by simp only [go_sem, seval, ab_, aa_, ag_, hp, hll, e2_, as_, an_]) (by simp only [go_sem, seval, ab_, aa_, ag_, hp, hll, e2_, as_, an_]; rfl) (by simp only [go_sem, seval, ab_, aa_, ag_, hp, hll, e2_, as_, an_]; rfl) ?_
   refine .ret ⟨.inr rfl, ?_⟩
   exact Out.plainL (by simp only [Tryz.results13]; rfl) (by simp only [a1_, a9_, go_sem, seval, ab_, aa_, ag_, hp, hll, e2_, as_, an_] <;> (split <;> rfl)) (by simp only [a8_, go_sem, seval, ab_, aa_, ag_, hp, hll, e2_, as_, an_] <;> (simp only [T4_] at h11 h18; rw [hb, if_pos (by omega), g4_ (by rw [hll]; omega), T1_ (by rw [hll]; exact Nat.le_refl _)]; simp [les, leV, be_])) (by simp only [go_sem, seval, ab_, aa_, ag_, hp, hll, e2_, as_, an_])
end
end Go.Proofs.YtpikbndepapbhaaGreatDoor
