/- Books: lines with what they are turned into, plainly. Conditions: none. -/
import Derived.Test.YtpikbndepapbhaaGreatDoorK11
import Derived.Test.YtpikbndepapbhaaGreatDoorK3
import Derived.Test.YtpikbndepapbhaaGreatDoorKr
set_option linter.unusedVariables false
set_option linter.unusedSimpArgs false
namespace Go.Proofs.YtpikbndepapbhaaGreatDoor
section
set_option maxRecDepth 100000
def okP (p : Pg) : Bool := fe_ p.line && decide (p = d2_ p.line)
def d0_ (l : List Pg) : Bool := decide (1 ≤ l.length) && decide (l.length ≤ 16) && l.all okP
def fp_ (s : Str) : List Pg := if (dk_ s).length ≤ 16 then (dk_ s).map d2_ else []
def iu_ (l : List Pg) : Str := if d0_ l then cf_ (l.map (·.line)) else []
theorem ej_ {l : List Pg} (h : d0_ l = true) : 1 ≤ l.length ∧ l.length ≤ 16 ∧ ∀ k, k < l.length → okP (l.getD k Pg0) = true := by
 simp only [d0_, T5_, T3_] at h
 exact ⟨h.1.1, h.1.2, fun k hk => List.all_eq_true.1 h.2 _ (bp_ hk)⟩
theorem jf_ {p : Pg} (h : okP p = true) : fe_ p.line = true ∧ p = d2_ p.line := by
 simp only [okP, T5_, T3_] at h; exact h
theorem jd_ {l : List Pg} (h : d0_ l = true) : ∀ p ∈ l, okP p = true := by
 simp only [d0_, T5_] at h
 exact List.all_eq_true.1 h.2
theorem yj_ : ∀ {l : Str} {w : Int}, gg_ l w = true → (10 : UInt8) ∉ l → w ≤ 120 → l.all prt = true ∧ w + l.length ≤ 120
 | [], w, _, _, hw => ⟨rfl, by simpa using hw⟩
 | c :: l, w, h, hn, hw => by
  simp only [List.mem_cons, not_or] at hn
  rw [gg_, if_neg (fun e => hn.1 e.symm)] at h
  simp only [T5_, T3_] at h
  obtain ⟨q1, q2⟩ := yj_ h.2 hn.2 h.1.2
  refine ⟨?_, by simp only [T7_]; omega⟩
  simp only [List.all_cons, q1, Bool.and_true, prt, T5_, T3_]
  exact h.1.1
theorem j7_ {s : Str} (h : fe_ s = true) : lnOk s := by
 simp only [fe_, tOk, op_, T5_, Bool.not_eq_true'] at h
 have hn : (10 : UInt8) ∉ s := fun q => by rw [List.contains_iff_mem.2 q] at h; exact absurd h.2 (by decide)
 obtain ⟨q1, q2⟩ := yj_ h.1.1 hn (by decide)
 exact ⟨q1, by omega⟩
theorem t8_ (s : Sl) : lnOk (emT s) := by
 by_cases h : sok s = true
 ·rw [zx_ h]; exact xu_ (aig_ h)
 ·unfold emT; rw [if_neg h]; exact ⟨rfl, by simp⟩
theorem ru_ {α : Type} {l : List α} (h : 1 ≤ l.length) : l ≠ [] := List.length_pos_iff.1 h
theorem sh_ {l : List Pg} (h : d0_ l = true) : dk_ (iu_ l) = l.map (·.line) := by
 obtain ⟨h1, h2, _⟩ := ej_ h
 unfold iu_
 rw [if_pos h]
 refine nf_ (fun w hw => ?_) (ru_ (by simpa using h1)) (by simpa using h2)
 obtain ⟨p, hp, rfl⟩ := List.mem_map.1 hw
 exact j7_ (jf_ (jd_ h p hp)).1
end
section
set_option maxRecDepth 100000
theorem abi_ (l : List Pg) : (iu_ l).length ≤ 3000 := by
 unfold iu_; split
 ·rename_i h
  have h1 := (ej_ h).2.1
  have := r6_ (l := l.map (·.line)) (k := 120) fun s hs => by
   obtain ⟨p, hp, rfl⟩ := List.mem_map.1 hs
   exact (j7_ (jf_ (jd_ h p hp)).1).2
  rw [List.length_map] at this
  have := Nat.mul_le_mul_right 121 h1
  omega
 ·simp
theorem jh_ (s : Str) : (fp_ s).length ≤ 16 := by unfold fp_; split <;> simp; omega
end
section
set_option maxRecDepth 100000
def en_ (b : Str) : Nat → Int → List Str → List Str × Int
 | 0, p, l => (l, p)
 | n + 1, p, l => en_ b n (dTo b p).2 (l ++ [(dTo b p).1])
def sz_ : Str := [115, 97, 121, 32, 49]
def gq_ (b : Str) : Nat → Int → List Str → List Str × Int
 | 0, p, l => (l, p)
 | n + 1, p, l => if (l.length : Int) < 16 + br_ b p 2 then gq_ b n (p + 1) (l ++ [sz_]) else (l, p + 1)
def wL (l : List Str) : Prop := ∀ w ∈ l, w.length ≤ 300
theorem tk_ {l : List Str} {w : Str} (h : wL l) (hw : w.length ≤ 300) : wL (l ++ [w]) := fun x hx => by
 rcases List.mem_append.1 hx with hx | hx
 ·exact h x hx
 ·simp at hx; subst hx; exact hw
theorem tr_ (b : Str) : ∀ (n : Nat) (p : Int) (l : List Str), 0 ≤ p → p + 1000 * n < 1000000 → wL l → p ≤ (en_ b n p l).2 ∧ (en_ b n p l).2 ≤ p + 1000 * n ∧ wL (en_ b n p l).1 ∧ (en_ b n p l).1.length = l.length + n
 | 0, p, l, hp, _, hl => ⟨Int.le_refl _, by simp [en_], hl, rfl⟩
 | n + 1, p, l, hp, hp2, hl => by
  obtain ⟨q1, q2, q3⟩ := af5_ b hp (by omega)
  obtain ⟨r1, r2, r3, r4⟩ := tr_ b n (dTo b p).2 (l ++ [(dTo b p).1]) (by omega) (by omega) (tk_ hl q3)
  rw [en_]
  refine ⟨by omega, by omega, r3, ?_⟩
  rw [r4, T2_, List.length_singleton]; omega
theorem x8_ (b : Str) : ∀ (n : Nat) (p : Int) (l : List Str), 0 ≤ p → p + n < 1000000 → wL l → p ≤ (gq_ b n p l).2 ∧ (gq_ b n p l).2 ≤ p + n + 1 ∧ wL (gq_ b n p l).1 ∧ (gq_ b n p l).1.length ≤ l.length + n
 | 0, p, l, hp, _, hl => ⟨Int.le_refl _, by simp only [gq_]; omega, hl, Nat.le_refl _⟩
 | n + 1, p, l, hp, hp2, hl => by
  obtain ⟨r1, r2, r3, r4⟩ := x8_ b n (p + 1) (l ++ [sz_]) (by omega) (by omega) (tk_ hl (by decide))
  rw [gq_]
  split
  ·refine ⟨by omega, by omega, r3, ?_⟩
   rw [T2_, List.length_singleton] at r4; omega
  ·exact ⟨by dsimp only; omega, by dsimp only; omega, hl, by dsimp only; omega⟩
def kr_ (b : Str) (p : Int) : List Str × Int :=
 if br_ b (en_ b (1 + (br_ b p 6).toNat) (p + 1) []).2 30 = 0 then gq_ b 20 ((en_ b (1 + (br_ b p 6).toNat) (p + 1) []).2 + 1) (en_ b (1 + (br_ b p 6).toNat) (p + 1) []).1
 else ((en_ b (1 + (br_ b p 6).toNat) (p + 1) []).1, (en_ b (1 + (br_ b p 6).toNat) (p + 1) []).2 + 1)
theorem tp_ (b : Str) {p : Int} (hp : 0 ≤ p) (hp2 : p < 100000) : p ≤ (kr_ b p).2 ∧ (kr_ b p).2 ≤ p + 9000 ∧ wL (kr_ b p).1 ∧ (kr_ b p).1.length ≤ 30 := by
 have h6 := d3_ b (p := p) (n := 6) hp (by omega) (by decide)
 obtain ⟨r1, r2, r3, r4⟩ := tr_ b (1 + (br_ b p 6).toNat) (p + 1) [] (by omega) (by omega) (fun w hw => by cases hw)
 unfold kr_
 simp only [List.length_nil] at r4
 split
 ·obtain ⟨s1, s2, s3, s4⟩ := x8_ b 20 ((en_ b (1 + (br_ b p 6).toNat) (p + 1) []).2 + 1) (en_ b (1 + (br_ b p 6).toNat) (p + 1) []).1 (by omega) (by omega) r3
  exact ⟨by omega, by omega, s3, by omega⟩
 ·exact ⟨by dsimp only; omega, by dsimp only; omega, r3, by dsimp only; omega⟩
def dTx (b : Str) (p : Int) : Str × Int := (cf_ (kr_ b p).1, (kr_ b p).2)
theorem af9_ (b : Str) {p : Int} (hp : 0 ≤ p) (hp2 : p < 100000) : (dTx b p).1.length ≤ 10000 := by
 obtain ⟨h1, h2, h3, h4⟩ := tp_ b hp hp2
 have := r6_ (l := (kr_ b p).1) (k := 300) h3
 have := Nat.mul_le_mul_right 301 h4
 show (cf_ _).length ≤ _
 omega
def saySeven : Str := [115, 97, 121, 32, 55]
def co_ (l : List Pg) (k : Nat) (c : Int) : List Pg :=
 if c = 0 then l.set k { l.getD k Pg0 with text := (l.getD k Pg0).text ++ [32] }
 else if c = 1 then l.set k { l.getD k Pg0 with good := !(l.getD k Pg0).good }
 else if c = 2 then l.set k { l.getD k Pg0 with line := saySeven }
 else if c = 3 then []
 else l
def dBk (b : Str) (p : Int) : List Pg × Int :=
 if fp_ (dTx b p).1 = [] then ([], (dTx b p).2)
 else (co_ (fp_ (dTx b p).1) (br_ b (dTx b p).2 (fp_ (dTx b p).1).length).toNat (br_ b ((dTx b p).2 + 1) 40), (dTx b p).2 + 1 + 1)
def pgB (p : Pg) : Prop := p.line.length ≤ 2000000 ∧ p.text.length ≤ 2000000 ∧ p.frm.length ≤ 2000000
theorem aes_ (s : Sl) : (emF s).length ≤ 1000 := by
 by_cases h : sok s = true
 ·have := akm_ h; omega
 ·unfold emF; rw [if_neg h]; simp
theorem w8_ {s : Str} (h : s.length ≤ 2000000) : pgB (d2_ s) := by
 unfold d2_
 split
 ·cases hx : dy_ s with
  | none => exact ⟨h, by simp, by simp⟩
  | some x => exact ⟨h, by have := (t8_ x).2; dsimp only; omega, by have := aes_ x; dsimp only; omega⟩
 ·exact ⟨by simp [Pg0], by simp [Pg0], by simp [Pg0]⟩
theorem ya_ (s : Str) : ∀ p ∈ fp_ s, p.line.length ≤ 4000 ∧ p.text.length ≤ 120 ∧ p.frm.length ≤ 1000 := fun p hp => by
 unfold fp_ at hp
 split at hp
 ·obtain ⟨w, hw, rfl⟩ := List.mem_map.1 hp
  have hl := it_ s w hw
  unfold d2_
  split
  ·cases hx : dy_ w with
   | none => exact ⟨hl, by simp, by simp⟩
   | some x => exact ⟨hl, (t8_ x).2, aes_ x⟩
  ·exact ⟨by simp [Pg0], by simp [Pg0], by simp [Pg0]⟩
 ·cases hp
theorem ack_ {l : List Pg} (h : ∀ p ∈ l, p.line.length ≤ 4000 ∧ p.text.length ≤ 120 ∧ p.frm.length ≤ 1000) (k : Nat) : (l.getD k Pg0).line.length ≤ 4000 ∧ (l.getD k Pg0).text.length ≤ 120 ∧ (l.getD k Pg0).frm.length ≤ 1000 := by
 rcases Nat.lt_or_ge k l.length with q | q
 ·exact h _ (bp_ q)
 ·rw [T8_, List.getElem?_eq_none q]; exact ⟨by simp [Pg0], by simp [Pg0], by simp [Pg0]⟩
theorem ac3_ {l : List Pg} (h : ∀ p ∈ l, p.line.length ≤ 4000 ∧ p.text.length ≤ 120 ∧ p.frm.length ≤ 1000) (k : Nat) (c : Int) : ∀ p ∈ co_ l k c, pgB p := by
 have hg := ack_ h k
 have hl : ∀ p ∈ l, pgB p := fun p hp => by have := h p hp; exact ⟨by omega, by omega, by omega⟩
 have hs : ∀ q : Pg, pgB q → ∀ p ∈ l.set k q, pgB p := fun q hq p hp => by
  rcases List.mem_or_eq_of_mem_set hp with h1 | h1
  ·exact hl p h1
  ·rw [h1]; exact hq
 unfold co_
 split
 ·exact hs _ ⟨by dsimp only; omega, by dsimp only; rw [T2_, List.length_singleton]; omega, by dsimp only; omega⟩
 ·split
  ·exact hs _ ⟨by dsimp only; omega, by dsimp only; omega, by dsimp only; omega⟩
  ·split
   ·exact hs _ ⟨show saySeven.length ≤ 2000000 by decide, by dsimp only; omega, by dsimp only; omega⟩
   ·split
    ·intro p hp; cases hp
    ·exact hl
theorem amj_ (b : Str) (p : Int) : ∀ x ∈ (dBk b p).1, pgB x := by
 unfold dBk
 split
 ·intro x hx; cases hx
 ·exact ac3_ (ya_ _) _ _
theorem xp_ (l : List Pg) (k : Nat) (c : Int) : (co_ l k c).length ≤ l.length := by
 unfold co_
 split
 ·simp
 ·split
  ·simp
  ·split
   ·simp
   ·split <;> simp
theorem to_ (b : Str) (p : Int) : (dBk b p).1.length ≤ 16 := by
 unfold dBk
 split
 ·simp
 ·have := xp_ (fp_ (dTx b p).1) (br_ b (dTx b p).2 (fp_ (dTx b p).1).length).toNat (br_ b ((dTx b p).2 + 1) 40)
  have := jh_ (dTx b p).1
  dsimp only; omega
end
section
set_option maxRecDepth 100000
set_option maxHeartbeats 4000000
theorem afn_ (a b : List Int) (ha : a.length ≤ 1000000000) (hb : b.length ≤ 1000000000) : ACall En 86 [.sl false (inR a), .sl false (inR b)] [] [.b (a == b)] [] := by
 refine al_ (fn := Tryz.f86) [] Tryz.func86 rfl rfl (by simp) fun C => ?_
 rw [av_]
 simp only [Tryz.ntmps86, T7_, List.length_nil, Nat.reduceAdd, Nat.reduceSub, List.replicate_succ, List.replicate_zero, List.cons_append, List.nil_append, bt_]
 refine .seq (.rgn [] (by simp only [go_sem, seval, an_, ac_]; rfl) ?_ ?_)
 ·first | trivial | simp
 refine .seq (.seq (.rgn [] (by simp only [go_sem, seval, an_, ac_]; rfl) ?_ ?_))
 ·first | trivial | simp
 refine .condB (by simp only [go_sem, seval, an_, ac_]; rfl) (by simp only [go_sem, seval, an_, ac_]) (fun h10 => ?_) (fun h10 => ?_)
 ·refine .seq (.rgn [] (by simp only [go_sem, seval, an_, ac_]; rfl) ?_ ?_)
  ·first | trivial | simp
  refine .ret ⟨.inr rfl, ?_⟩
  exact Out.plain (by simp only [Tryz.results86]; rfl) (by simp only [ax_, a6_, go_sem, seval, an_, ac_] <;> (split <;> rfl)) (by simp only [a4_, go_sem, seval, an_, ac_] <;> (have : a ≠ b := (fun e => by simp [e] at h10); simp [this])) (by simp only [go_sem, seval, an_, ac_])
 ·refine .skip (.seq (.seq (.rgn [] (by simp only [go_sem, seval, an_, ac_]; rfl) ?_ ?_)))
  ·first | trivial | simp
  refine .block (.loopK (fun k : Nat => ⟨[.sl false (inR a), .sl false (inR b), .no, .no, .no, .no, .no, .no, .no, .no, .no, .no, .i .i64 a.length, .i .i64 k, .no, .no, .no, .no, .no, .no, .no, .no, .no, .no, .no, .no], be_ [], us []⟩) (fun k : Nat => k ≤ a.length ∧ a.take k = b.take k) (fun k : Nat => a.length - k) (0) ?_ ?_ (fun k hI => ?_))
  ·exact ⟨Nat.zero_le _, rfl⟩
  ·exact Can.weak (Weak.lit (by simp only [go_sem, seval, an_, ac_, as_, leV, aq_, ar_, V.inn, us, T9_, Ta_] <;> (simp)) (by simp only [go_sem, seval, an_, ac_, as_, leV, aq_, ar_, V.inn, us, T9_, Ta_]) (by simp only [go_sem, seval, an_, ac_, as_, leV, aq_, ar_, V.inn, us, T9_, Ta_]))
  refine .seq (.rgn [] (by simp only [go_sem, seval, an_, ac_]; rfl) ?_ ?_)
  ·first | trivial | simp
  refine .seq (.condB (by simp only [go_sem, seval, an_, ac_]; rfl) (by simp only [go_sem, seval, an_, ac_]) (fun h14 => ?_) (fun h14 => ?_))
  ·refine .skip (.seq (.block (.seq (.rgn [] (by simp only [go_sem, seval, an_, ac_]; rfl) ?_ ?_))))
   ·first | trivial | simp
   refine .seq (.rgnD [] enM (by simp only [go_sem, seval, an_, ac_, fy_ (show k < a.length by simpa using h14), fy_ (show k < b.length by simp at h14 h10; omega)]; rfl) (by rfl) ?_ ?_)
   ·simp at h14 h10; simp; omega
   refine .condB (by simp only [go_sem, seval, an_, ac_]; rfl) (by simp only [go_sem, seval, an_, ac_]) (fun h24 => ?_) (fun h24 => ?_)
   ·refine .seq (.rgn [] (by simp only [go_sem, seval, an_, ac_]; rfl) ?_ ?_)
    ·first | trivial | simp
    refine .ret ⟨.inr rfl, ?_⟩
    exact Out.plain (by simp only [Tryz.results86]; rfl) (by simp only [ax_, a6_, go_sem, seval, an_, ac_] <;> (split <;> rfl)) (by simp only [a4_, go_sem, seval, an_, ac_] <;> (have h2 : a.getD k 0 ≠ b.getD k 0 := bne_iff_ne.1 h24; have : a ≠ b := (fun e => h2 (by rw [e])); simp [this])) (by simp only [go_sem, seval, an_, ac_])
   ·refine .skip (.rgn [] (by simp only [go_sem, seval, an_, ac_]; rfl) ?_ ?_)
    ·first | trivial | simp
    refine Exists.intro (k + 1) ⟨?_, ?_, ?_⟩
    ·simp only [T3_] at h14; simp at h10; exact ⟨by omega, lp_ (d := 0) (by omega) (by omega) hI.2 (by simpa using h24)⟩
    ·simp at h14; omega
    exact Can.weak (Weak.lit (by simp only [go_sem, seval, an_, ac_, as_, leV, aq_, ar_, V.inn, us, T9_, Ta_] <;> (rw [bd_ (by simp at h14; omega) (by simp at h14; omega)]; simp)) (by simp only [go_sem, seval, an_, ac_, as_, leV, aq_, ar_, V.inn, us, T9_, Ta_]) (by simp only [go_sem, seval, an_, ac_, as_, leV, aq_, ar_, V.inn, us, T9_, Ta_]))
  ·refine .exit (.seq (.rgn [] (by simp only [go_sem, seval, an_, ac_]; rfl) ?_ ?_))
   ·first | trivial | simp
   refine .ret ⟨.inr rfl, ?_⟩
   exact Out.plain (by simp only [Tryz.results86]; rfl) (by simp only [ax_, a6_, go_sem, seval, an_, ac_] <;> (split <;> rfl)) (by simp only [a4_, go_sem, seval, an_, ac_] <;> (simp only [T4_] at h14; simp at h10; have q := hI.2; rw [T1_ (by omega), T1_ (by omega)] at q; simp [q])) (by simp only [go_sem, seval, an_, ac_])
theorem uw_ {p q : Pg} : (p = q) ↔ (((p.line = q.line ∧ p.good = q.good) ∧ p.text = q.text) ∧ p.frm = q.frm) := by
 constructor
 ·rintro rfl; exact ⟨⟨⟨rfl, rfl⟩, rfl⟩, rfl⟩
 ·intro h; obtain ⟨a, b, c, d⟩ := p; obtain ⟨a2, b2, c2, d2⟩ := q; simp_all
theorem akg_ (p q : Pg) (hp : pgB p) (hq : pgB q) : ACall En 55 [.ag (pgC p), .ag (pgC q)] [] [.b (decide (p = q))] [] := by
 have h1 := hp.2.2
 have h2 := hq.2.2
 have T := @uw_ p q
 refine al_ (fn := Tryz.f55) [] Tryz.func55 rfl rfl (by simp) fun C => ?_
 rw [av_]
 simp only [Tryz.ntmps55, T7_, List.length_nil, Nat.reduceAdd, Nat.reduceSub, List.replicate_succ, List.replicate_zero, List.cons_append, List.nil_append, bt_]
 refine .seq (.rgn [] (by simp only [go_sem, seval, ai_, ac_]; rfl) ?_ ?_)
 ·first | trivial | simp
 refine .seq (.rgn [a3_ (afn_ p.frm q.frm (by omega) (by omega))] (by simp only [go_sem, seval, ai_, ac_]; rfl) ?_ ?_)
 ·first | trivial | simp
 refine .ret ⟨.inr rfl, ?_⟩
 exact Out.plain (by simp only [Tryz.results55]; rfl) (by simp only [ax_, a6_, go_sem, seval, ai_, ac_] <;> (split <;> rfl)) (by simp only [a4_, go_sem, seval, ai_, ac_] <;> (have e : (p.line == q.line && p.good == q.good && p.text == q.text && p.frm == q.frm) = decide (p = q) := (by rw [Bool.eq_iff_iff]; simp only [T5_, beq_iff_eq, T3_]; exact T.symm); rw [e])) (by simp only [go_sem, seval, ai_, ac_])
theorem z5_ (p : Pg) (hp : pgB p) : ACall En 53 [.ag (pgC p)] [] [.b (!okP p)] [] := by
 have P := mh_ p.line (by have := hp.1; omega)
 have B := w8_ hp.1
 refine al_ (fn := Tryz.f53) [] Tryz.func53 rfl rfl (by simp) fun C => ?_
 rw [av_]
 simp only [Tryz.ntmps53, T7_, List.length_nil, Nat.reduceAdd, Nat.reduceSub, List.replicate_succ, List.replicate_zero, List.cons_append, List.nil_append, bt_]
 refine .seq (.rgn [] (by simp only [go_sem, seval, ai_, ac_]; rfl) ?_ ?_)
 ·first | trivial | simp
 refine .seq (.rgnD [a3_ (ok_ p.line (by have := hp.1; omega)), a3_ P, a3_ (akg_ p (d2_ p.line) hp B)] enM (by simp only [go_sem, seval, ai_, ac_]; rfl) (by rfl) ?_ ?_)
 ·first | trivial | simp
 refine .ret ⟨.inr rfl, ?_⟩
 exact Out.plain (by simp only [Tryz.results53]; rfl) (by simp only [ax_, a6_, go_sem, seval, ai_, ac_] <;> (split <;> rfl)) (by simp only [a4_, go_sem, seval, ai_, ac_] <;> (rw [okP, Bool.not_and])) (by simp only [go_sem, seval, ai_, ac_])
theorem ahn_ (l : List Pg) (hs : ∀ p ∈ l, pgB p) (hl : l.length ≤ 1000000) : ACall En 84 [.sl false (pgR l), .fn (.func 53) [] []] [] [.i .i64 (t0_ (fun p => !okP p) l)] [] := by
 refine al_ (fn := Tryz.f84) [] Tryz.func84 rfl rfl (by simp) fun C => ?_
 rw [av_]
 simp only [Tryz.ntmps84, T7_, List.length_nil, Nat.reduceAdd, Nat.reduceSub, List.replicate_succ, List.replicate_zero, List.cons_append, List.nil_append, bt_]
 refine .seq (.rgn [] (by simp only [go_sem, seval, af_, ad_, ai_]; rfl) ?_ ?_)
 ·first | trivial | simp
 refine .seq (.seq (.rgn [] (by simp only [go_sem, seval, af_, ad_, ai_]; rfl) ?_ ?_))
 ·first | trivial | simp
 refine .block (.loopK (fun k : Nat => ⟨[.sl false (pgR l), .fn (.func 53) [] [], .no, .no, .no, .no, .no, .i .i64 l.length, .i .i64 k, .no, .no, .no, .no, .no, .no, .no, .no, .no, .no], be_ [], us []⟩) (fun k : Nat => k ≤ l.length ∧ (l.take k).any (fun p => !okP p) = false) (fun k : Nat => l.length - k) (0) ?_ ?_ (fun k hI => ?_))
 ·simp
 ·exact Can.weak (Weak.lit (by simp only [go_sem, seval, af_, ad_, ai_, as_, leV, aq_, ar_, V.inn, us, T9_, Ta_] <;> (simp)) (by simp only [go_sem, seval, af_, ad_, ai_, as_, leV, aq_, ar_, V.inn, us, T9_, Ta_]) (by simp only [go_sem, seval, af_, ad_, ai_, as_, leV, aq_, ar_, V.inn, us, T9_, Ta_]))
 refine .seq (.rgn [] (by simp only [go_sem, seval, af_, ad_, ai_]; rfl) ?_ ?_)
 ·first | trivial | simp
 refine .seq (.condB (by simp only [go_sem, seval, af_, ad_, ai_]; rfl) (by simp only [go_sem, seval, af_, ad_, ai_]) (fun h9 => ?_) (fun h9 => ?_))
 ·refine .skip (.seq (.block (.seq (.rgn [] (by simp only [go_sem, seval, af_, ad_, ai_]; rfl) ?_ ?_))))
  ·first | trivial | simp
  refine .seq (.rgn [cm_ (k < l.length) (fun h => z5_ (l.getD k Pg0) (hs _ (bp_ h)))] (by simp only [go_sem, seval, af_, ad_, ai_, dq_ (show k < l.length by simpa using h9)]; rfl) ?_ ?_)
  ·simp only [T3_] at h9; simp only [qi_, ac_, cs_, V.pure, Bool.and_true, true_and]; and_intros <;> first | omega | (simp; done) | trivial
  refine .condB (by simp only [go_sem, seval, af_, ad_, ai_]; rfl) (by simp only [go_sem, seval, af_, ad_, ai_]) (fun h16 => ?_) (fun h16 => ?_)
  ·refine .seq (.rgn [] (by simp only [go_sem, seval, af_, ad_, ai_]; rfl) ?_ ?_)
   ·first | trivial | simp
   refine .ret ⟨.inr rfl, ?_⟩
   exact Out.plain (by simp only [Tryz.results84]; rfl) (by simp only [ax_, a6_, go_sem, seval, af_, ad_, ai_] <;> (split <;> rfl)) (by simp only [a4_, go_sem, seval, af_, ad_, ai_] <;> (simp at h9; rw [yi_ (d := Pg0) h9 hI.2 h16])) (by simp only [go_sem, seval, af_, ad_, ai_])
  ·refine .skip (.rgn [] (by simp only [go_sem, seval, af_, ad_, ai_]; rfl) ?_ ?_)
   ·first | trivial | simp
   refine Exists.intro (k + 1) ⟨?_, ?_, ?_⟩
   ·simp at h9; refine ⟨by omega, ?_⟩; rw [wk_ (d := Pg0) h9, hI.2, h16]; rfl
   ·simp at h9; omega
   exact Can.weak (Weak.lit (by simp only [go_sem, seval, af_, ad_, ai_, as_, leV, aq_, ar_, V.inn, us, T9_, Ta_] <;> (rw [bd_ (by omega) (by omega)]; simp)) (by simp only [go_sem, seval, af_, ad_, ai_, as_, leV, aq_, ar_, V.inn, us, T9_, Ta_]) (by simp only [go_sem, seval, af_, ad_, ai_, as_, leV, aq_, ar_, V.inn, us, T9_, Ta_]))
 ·refine .exit (.seq (.rgn [] (by simp only [go_sem, seval, af_, ad_, ai_]; rfl) ?_ ?_))
  ·first | trivial | simp
  refine .ret ⟨.inr rfl, ?_⟩
  exact Out.plain (by simp only [Tryz.results84]; rfl) (by simp only [ax_, a6_, go_sem, seval, af_, ad_, ai_] <;> (split <;> rfl)) (by simp only [a4_, go_sem, seval, af_, ad_, ai_] <;> (simp at h9; have h0 := hI.2; rw [T1_ h9] at h0; rw [rl_ h0])) (by simp only [go_sem, seval, af_, ad_, ai_])
theorem adr_ (l : List Pg) (hs : ∀ p ∈ l, pgB p) (hl : l.length ≤ 1000000) : ACall En 52 [.sl false (pgR l), .fn (.func 53) [] []] [] [.b (l.any fun p => !okP p)] [] := by
 refine al_ (fn := Tryz.f52) [] Tryz.func52 rfl rfl (by simp) fun C => ?_
 rw [av_]
 simp only [Tryz.ntmps52, T7_, List.length_nil, Nat.reduceAdd, Nat.reduceSub, List.replicate_succ, List.replicate_zero, List.cons_append, List.nil_append, bt_]
 refine .seq (.rgn [] (by simp only [go_sem, seval, ad_]; rfl) ?_ ?_)
 ·first | trivial | simp
 refine .seq (.rgn [a3_ (ahn_ l hs hl)] (by simp only [go_sem, seval, ad_]; rfl) ?_ ?_)
 ·first | trivial | simp
 refine .ret ⟨.inr rfl, ?_⟩
 exact Out.plain (by simp only [Tryz.results52]; rfl) (by simp only [ax_, a6_, go_sem, seval, ad_] <;> (split <;> rfl)) (by simp only [a4_, go_sem, seval, ad_] <;> (rw [yu_])) (by simp only [go_sem, seval, ad_])
theorem agz_ (l : List Pg) : d0_ l = ((decide ((1 : Int) ≤ l.length) && decide ((l.length : Int) ≤ 16)) && !l.any fun p => !okP p) := by
 rw [List.any_eq_not_all_not]; simp only [d0_, Bool.not_not, im_]; rfl
theorem mb_ (l : List Pg) (hs : ∀ p ∈ l, pgB p) (hl : l.length ≤ 1000000) : ACall En 19 [.sl false (pgR l)] [] [.b (d0_ l)] [] := by
 refine al_ (fn := Tryz.f19) [] Tryz.func19 rfl rfl (by simp) fun C => ?_
 rw [av_]
 simp only [Tryz.ntmps19, T7_, List.length_nil, Nat.reduceAdd, Nat.reduceSub, List.replicate_succ, List.replicate_zero, List.cons_append, List.nil_append, bt_]
 refine .seq (.rgn [] (by simp only [go_sem, seval, af_, ad_]; rfl) ?_ ?_)
 ·first | trivial | simp
 refine .seq (.rgn [a3_ (w2_ l.length 1 16), a3_ (adr_ l hs hl)] (by simp only [go_sem, seval, af_, ad_]; rfl) ?_ ?_)
 ·first | trivial | simp
 refine .ret ⟨.inr rfl, ?_⟩
 exact Out.plain (by simp only [Tryz.results19]; rfl) (by simp only [ax_, a6_, go_sem, seval, af_, ad_] <;> (split <;> rfl)) (by simp only [a4_, go_sem, seval, af_, ad_] <;> (rw [agz_])) (by simp only [go_sem, seval, af_, ad_])
def zPg : List V := [.s [], .b false, .s [], .sl true []]
theorem fh_ (l : List Pg) (k j : Nat) : ((es_ (pgR l) zPg k).getD j []).drop 4 = [] := by
 rw [T8_]
 cases h : (es_ (pgR l) zPg k)[j]? with
 | none => rfl
 | some r =>
  have hm := List.mem_of_getElem? h
  have : r.length = 4 := by
   rcases lb_ hm with hm | rfl
   ·obtain ⟨s, _, rfl⟩ := List.mem_map.1 hm; rfl
   ·rfl
  simp only [Option.getD_some]; exact List.drop_of_length_le (by omega)
theorem ahu_ {ls : List Str} {k : Nat} (h : k < ls.length) : (pgR (ls.map d2_)).getD k [] = pgC (d2_ (ls.getD k [])) := by
 rw [dq_ (by simpa using h)]
 simp [T8_, T6_ h]
theorem m5_ (s : Str) (hs : s.length ≤ 281474976710656) : ACall En 13 [.s s] [] [.sl false (pgR (fp_ s))] [] := by
 have hL := qf_ s
 have hM := it_ s
 have hb : fp_ s = if (dk_ s).length ≤ 16 then (dk_ s).map d2_ else [] := rfl
 have T := lx_ s hs
 generalize dk_ s = ls at *
 have hp : ∀ k, ch_ (es_ (pgR (ls.map d2_)) zPg k) = true := fun k => gz_ (ad_ _) rfl
 have hll : (pgR (ls.map d2_)).length = ls.length := by simp [pgR]
 refine al_ (fn := Tryz.f13) [] Tryz.func13 rfl rfl (by simp) fun C => ?_
 rw [av_]
 simp only [Tryz.ntmps13, T7_, List.length_nil, Nat.reduceAdd, Nat.reduceSub, List.replicate_succ, List.replicate_zero, List.cons_append, List.nil_append, bt_]
 refine .seq (.rgn [] (by simp only [go_sem, seval, ab_, aa_, ad_, hp, hll, fh_, at_, ai_]; rfl) ?_ ?_)
 ·(first | trivial | (simp; done) | (simp only [T3_, T4_] at h11 h18; and_intros <;> first | omega | exact ac_ _) | (simp only [T4_] at h11; and_intros <;> omega))
 refine .seq (.rgn [a3_ T] (by simp only [go_sem, seval, ab_, aa_, ad_, hp, hll, fh_, at_, ai_]; rfl) ?_ ?_)
 ·(first | trivial | (simp; done) | (simp only [T3_, T4_] at h11 h18; and_intros <;> first | omega | exact ac_ _) | (simp only [T4_] at h11; and_intros <;> omega))
 refine .seq (.seq (.rgn [] (by simp only [go_sem, seval, ab_, aa_, ad_, hp, hll, fh_, at_, ai_]; rfl) ?_ ?_))
 ·(first | trivial | (simp; done) | (simp only [T3_, T4_] at h11 h18; and_intros <;> first | omega | exact ac_ _) | (simp only [T4_] at h11; and_intros <;> omega))
 refine .condB (by simp only [go_sem, seval, ab_, aa_, ad_, hp, hll, fh_, at_, ai_]; rfl) (by simp only [go_sem, seval, ab_, aa_, ad_, hp, hll, fh_, at_, ai_]) (fun h11 => ?_) (fun h11 => ?_)
 ·refine .seq (.rgn [] (by simp only [go_sem, seval, ab_, aa_, ad_, hp, hll, fh_, at_, ai_]; rfl) ?_ ?_)
  ·(first | trivial | (simp; done) | (simp only [T3_, T4_] at h11 h18; and_intros <;> first | omega | exact ac_ _) | (simp only [T4_] at h11; and_intros <;> omega))
  refine .ret ⟨.inr rfl, ?_⟩
  exact Out.plainL (by simp only [Tryz.results13]; rfl) (by simp only [ax_, a6_, go_sem, seval, ab_, aa_, ad_, hp, hll, fh_, at_, ai_] <;> (split <;> rfl)) (by simp only [a4_, go_sem, seval, ab_, aa_, ad_, hp, hll, fh_, at_, ai_] <;> (simp only [T3_] at h11; rw [hb, if_neg (by omega)]; simp [pgR, les, ler, leV])) (by simp only [go_sem, seval, ab_, aa_, ad_, hp, hll, fh_, at_, ai_])
 ·refine .skip (.seq (.rgn [] (by simp only [go_sem, seval, ab_, aa_, ad_, hp, hll, fh_, at_, ai_]; rfl) ?_ ?_))
  ·(first | trivial | (simp; done) | (simp only [T3_, T4_] at h11 h18; and_intros <;> first | omega | exact ac_ _) | (simp only [T4_] at h11; and_intros <;> omega))
  refine .seq (.seq (.rgn [] (by simp only [go_sem, seval, ab_, aa_, ad_, hp, hll, fh_, at_, ai_]; rfl) ?_ ?_))
  ·(first | trivial | (simp; done) | (simp only [T3_, T4_] at h11 h18; and_intros <;> first | omega | exact ac_ _) | (simp only [T4_] at h11; and_intros <;> omega))
  refine .block (.loopK (fun k : Nat => ⟨[.no, .no, .no, .no, .ow 24 4 0 ls.length, .no, .no, .no, .no, .no, .no, .no, .no, .no, .no, .sl false (bm_ ls), .i .i64 ls.length, .i .i64 k, .no, .no, .no, .no, .no, .no, .no, .no, .no, .no, .no], be_ [(24, ⟨47, 4, es_ (pgR (ls.map d2_)) zPg k⟩)], us [24]⟩) (fun k : Nat => k ≤ ls.length) (fun k : Nat => ls.length - k) (0) ?_ ?_ (fun k hI => ?_))
  ·simp
  ·exact Can.weak (Weak.lit (by simp only [go_sem, seval, ab_, aa_, ad_, hp, hll, fh_, at_, ai_, as_, leV, aq_, ar_, V.inn, us, T9_, Ta_] <;> ((try simp))) (by simp only [go_sem, seval, ab_, aa_, ad_, hp, hll, fh_, at_, ai_, as_, leV, aq_, ar_, V.inn, us, T9_, Ta_]) (by simp only [go_sem, seval, ab_, aa_, ad_, hp, hll, fh_, at_, ai_, as_, leV, aq_, ar_, V.inn, us, T9_, Ta_] <;> (simp [g1_, zPg, hll])))
  refine .seq (.rgn [] (by simp only [go_sem, seval, ab_, aa_, ad_, hp, hll, fh_, at_, ai_]; rfl) ?_ ?_)
  ·(first | trivial | (simp; done) | (simp only [T3_, T4_] at h11 h18; and_intros <;> first | omega | exact ac_ _) | (simp only [T4_] at h11; and_intros <;> omega))
  refine .seq (.condB (by simp only [go_sem, seval, ab_, aa_, ad_, hp, hll, fh_, at_, ai_]; rfl) (by simp only [go_sem, seval, ab_, aa_, ad_, hp, hll, fh_, at_, ai_]) (fun h18 => ?_) (fun h18 => ?_))
  ·refine .skip (.seq (.block (.seq (.rgn [] (by simp only [go_sem, seval, ab_, aa_, ad_, hp, hll, fh_, at_, ai_, cj_ (show k < ls.length by simpa using h18)]; rfl) ?_ ?_))))
   ·(first | trivial | (simp; done) | (simp only [T3_, T4_] at h11 h18; and_intros <;> first | omega | exact ac_ _) | (simp only [T4_] at h11; and_intros <;> omega))
   refine .rgn [cm_ (k < ls.length) (fun h => mh_ (ls.getD k []) (by have := hM _ (bp_ (d := []) h); omega))] (by simp only [go_sem, seval, ab_, aa_, ad_, hp, hll, fh_, at_, ai_]; rfl) ?_ ?_
   ·(first | trivial | (simp; done) | (simp only [T3_, T4_] at h11 h18; and_intros <;> first | omega | exact ac_ _) | (simp only [T4_] at h11; and_intros <;> omega))
   refine .rgn [] (by simp only [go_sem, seval, ab_, aa_, ad_, hp, hll, fh_, at_, ai_]; rfl) ?_ ?_
   ·(first | trivial | (simp; done) | (simp only [T3_, T4_] at h11 h18; and_intros <;> first | omega | exact ac_ _) | (simp only [T4_] at h11; and_intros <;> omega))
   refine Exists.intro (k + 1) ⟨?_, ?_, ?_⟩
   ·simp at h18; omega
   ·simp at h18; omega
   exact Can.weak (Weak.lit (by simp only [go_sem, seval, ab_, aa_, ad_, hp, hll, fh_, at_, ai_, as_, leV, aq_, ar_, V.inn, us, T9_, Ta_] <;> (rw [bd_ (by simp at h18; omega) (by simp at h18; omega)]; (try simp))) (by simp only [go_sem, seval, ab_, aa_, ad_, hp, hll, fh_, at_, ai_, as_, leV, aq_, ar_, V.inn, us, T9_, Ta_]) (by simp only [go_sem, seval, ab_, aa_, ad_, hp, hll, fh_, at_, ai_, as_, leV, aq_, ar_, V.inn, us, T9_, Ta_] <;> (rw [← g8_ (by rw [hll]; simpa using h18), ahu_ (by simpa using h18), ai_])))
  ·refine .exit (.seq (.rgn [] (by simp only [go_sem, seval, ab_, aa_, ad_, hp, hll, fh_, at_, ai_]; rfl) ?_ ?_))
   ·(first | trivial | (simp; done) | (simp only [T3_, T4_] at h11 h18; and_intros <;> first | omega | exact ac_ _) | (simp only [T4_] at h11; and_intros <;> omega))
   refine .frz 24 (by simp only [go_sem, seval, ab_, aa_, ad_, hp, hll, fh_, at_, ai_]; rfl) (by simp only [go_sem, seval, ab_, aa_, ad_, hp, hll, fh_, at_, ai_]) (by simp only [go_sem, seval, ab_, aa_, ad_, hp, hll, fh_, at_, ai_]; rfl) (by simp only [go_sem, seval, ab_, aa_, ad_, hp, hll, fh_, at_, ai_]; rfl) ?_
   refine .ret ⟨.inr rfl, ?_⟩
   exact Out.plainL (by simp only [Tryz.results13]; rfl) (by simp only [ax_, a6_, go_sem, seval, ab_, aa_, ad_, hp, hll, fh_, at_, ai_] <;> (split <;> rfl)) (by simp only [a4_, go_sem, seval, ab_, aa_, ad_, hp, hll, fh_, at_, ai_] <;> (simp only [T4_] at h11 h18; rw [hb, if_pos (by omega), ik_ (by rw [hll]; omega), T1_ (by rw [hll]; exact Nat.le_refl _)]; simp [les, leV, a8_])) (by simp only [go_sem, seval, ab_, aa_, ad_, hp, hll, fh_, at_, ai_])
end
end Go.Proofs.YtpikbndepapbhaaGreatDoor
