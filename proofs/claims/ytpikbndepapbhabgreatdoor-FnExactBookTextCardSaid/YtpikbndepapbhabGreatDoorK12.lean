/- Books: lines with what they are turned into, plainly. Conditions: none. -/
import Derived.Test.YtpikbndepapbhabGreatDoorK11
import Derived.Test.YtpikbndepapbhabGreatDoorK3
import Derived.Test.YtpikbndepapbhabGreatDoorKr
set_option linter.unusedVariables false
set_option linter.unusedSimpArgs false
namespace Go.Proofs.YtpikbndepapbhabGreatDoor
section
set_option maxRecDepth 100000
def okP (p : Pg) : Bool := jo_ p.line && decide (p = fx_ p.line)
def gc_ (l : List Pg) : Bool := decide (1 ≤ l.length) && decide (l.length ≤ 16) && l.all okP
def stOf (s : Str) : Sl := (ck_ s).getD S0
def vz_ (l : List Pg) : Str := if gc_ l then cj_ (l.map (·.line)) else []
def w5_ (l : List Pg) : Str := if gc_ l then cj_ (l.map (·.text)) else []
theorem mo_ {l : List Pg} (h : gc_ l = true) : 1 ≤ l.length ∧ l.length ≤ 16 ∧ ∀ k, k < l.length → okP (l.getD k Pg0) = true := by
 simp only [gc_, T5_, T3_] at h
 exact ⟨h.1.1, h.1.2, fun k hk => List.all_eq_true.1 h.2 _ (bo_ hk)⟩
theorem ox_ {p : Pg} (h : okP p = true) : jo_ p.line = true ∧ p = fx_ p.line := by
 simp only [okP, T5_, T3_] at h; exact h
theorem emT_S0' : emT S0 = [] := by unfold emT; rw [if_pos adg_]; decide
theorem xz_ {p : Pg} (h : okP p = true) : p.text = emT (stOf p.line) ∧ p.frm = emF (stOf p.line) ∧ p.good = (ck_ p.line).isSome := by
 obtain ⟨h1, h2⟩ := ox_ h
 unfold stOf
 cases hx : ck_ p.line with
 | none => rw [h2, i1_ h1 (by rw [hx]; rfl)]; exact ⟨emT_S0'.symm, emF_S0.symm, rfl⟩
 | some x => rw [h2, ln_ h1 (by rw [hx]; rfl), hx]; exact ⟨rfl, rfl, rfl⟩
theorem ua_ {l : List Pg} (h : gc_ l = true) : ∀ p ∈ l, okP p = true := by
 simp only [gc_, T5_] at h
 exact List.all_eq_true.1 h.2
theorem yx_ : ∀ {l : Str} {w : Int}, hj_ l w = true → (10 : UInt8) ∉ l → w ≤ 120 → l.all prt = true ∧ w + l.length ≤ 120
 | [], w, _, _, hw => ⟨rfl, by simpa using hw⟩
 | c :: l, w, h, hn, hw => by
  simp only [List.mem_cons, not_or] at hn
  rw [hj_, if_neg (fun e => hn.1 e.symm)] at h
  simp only [T5_, T3_] at h
  obtain ⟨q1, q2⟩ := yx_ h.2 hn.2 h.1.2
  refine ⟨?_, by simp only [T7_]; omega⟩
  simp only [List.all_cons, q1, Bool.and_true, prt, T5_, T3_]
  exact h.1.1
theorem rr_ {s : Str} (h : jo_ s = true) : lnOk s := by
 simp only [jo_, tOk, kz_, T5_, Bool.not_eq_true'] at h
 have hn : (10 : UInt8) ∉ s := fun q => by rw [List.contains_iff_mem.2 q] at h; exact absurd h.2 (by decide)
 obtain ⟨q1, q2⟩ := yx_ h.1.1 hn (by decide)
 exact ⟨q1, by omega⟩
theorem pu_ (s : Sl) : lnOk (emT s) := by
 by_cases h : sok s = true
 ·rw [aav_ h]; exact wk_ (xy_ h)
 ·unfold emT; rw [if_neg h]; exact ⟨rfl, by simp⟩
end
section
set_option maxRecDepth 100000
end
section
set_option maxRecDepth 100000
def pgB (p : Pg) : Prop := p.line.length ≤ 2000000 ∧ p.text.length ≤ 2000000 ∧ p.frm.length ≤ 2000000
theorem ajq_ (s : Sl) : (emF s).length ≤ 1000 := by
 by_cases h : sok s = true
 ·have := ajr_ h; omega
 ·unfold emF; rw [if_neg h]; simp
theorem afe_ {s : Str} (h : s.length ≤ 2000000) : pgB (fx_ s) := by
 unfold fx_
 split
 ·cases hx : ck_ s with
  | none => exact ⟨h, by simp, by simp⟩
  | some x => exact ⟨h, by have := (pu_ x).2; dsimp only; omega, by have := ajq_ x; dsimp only; omega⟩
 ·exact ⟨by simp [Pg0], by simp [Pg0], by simp [Pg0]⟩
end
section
set_option maxRecDepth 100000
set_option maxHeartbeats 4000000
theorem abb_ (a b : List Int) (ha : a.length ≤ 1000000000) (hb : b.length ≤ 1000000000) : ACall En 151 [.sl false (inR a), .sl false (inR b)] [] [.b (a == b)] [] := by
 refine ak_ (fn := Tryz.f151) [] Tryz.func151 rfl rfl (by simp) fun C => ?_
 rw [aw_]
 simp only [Tryz.ntmps151, T7_, List.length_nil, Nat.reduceAdd, Nat.reduceSub, List.replicate_succ, List.replicate_zero, List.cons_append, List.nil_append, bk_]
 refine .seq (.rgn [] (by simp only [go_sem, seval, ad_, ab_]; rfl) ?_ ?_)
 ·first | trivial | simp
 refine .seq (.seq (.rgn [] (by simp only [go_sem, seval, ad_, ab_]; rfl) ?_ ?_))
 ·first | trivial | simp
 refine .condB (by simp only [go_sem, seval, ad_, ab_]; rfl) (by simp only [go_sem, seval, ad_, ab_]) (fun h10 => ?_) (fun h10 => ?_)
 ·refine .seq (.rgn [] (by simp only [go_sem, seval, ad_, ab_]; rfl) ?_ ?_)
  ·first | trivial | simp
  refine .ret ⟨.inr rfl, ?_⟩
  exact Out.plain (by simp only [Tryz.results151]; rfl) (by simp only [av_, a5_, go_sem, seval, ad_, ab_] <;> (split <;> rfl)) (by simp only [a2_, go_sem, seval, ad_, ab_] <;> (have : a ≠ b := (fun e => by simp [e] at h10); simp [this])) (by simp only [go_sem, seval, ad_, ab_])
 ·refine .skip (.seq (.seq (.rgn [] (by simp only [go_sem, seval, ad_, ab_]; rfl) ?_ ?_)))
  ·first | trivial | simp
  refine .block (.loopK (fun k : Nat => ⟨[.sl false (inR a), .sl false (inR b), .no, .no, .no, .no, .no, .no, .no, .no, .no, .no, .i .i64 a.length, .i .i64 k, .no, .no, .no, .no, .no, .no, .no, .no, .no, .no, .no, .no], be_ [], us []⟩) (fun k : Nat => k ≤ a.length ∧ a.take k = b.take k) (fun k : Nat => a.length - k) (0) ?_ ?_ (fun k hI => ?_))
  ·exact ⟨Nat.zero_le _, rfl⟩
  ·exact Can.weak (Weak.lit (by simp only [go_sem, seval, ad_, ab_, as_, leV, aq_, ar_, V.inn, us, T9_, Ta_] <;> (simp)) (by simp only [go_sem, seval, ad_, ab_, as_, leV, aq_, ar_, V.inn, us, T9_, Ta_]) (by simp only [go_sem, seval, ad_, ab_, as_, leV, aq_, ar_, V.inn, us, T9_, Ta_]))
  refine .seq (.rgn [] (by simp only [go_sem, seval, ad_, ab_]; rfl) ?_ ?_)
  ·first | trivial | simp
  refine .seq (.condB (by simp only [go_sem, seval, ad_, ab_]; rfl) (by simp only [go_sem, seval, ad_, ab_]) (fun h14 => ?_) (fun h14 => ?_))
  ·refine .skip (.seq (.block (.seq (.rgn [] (by simp only [go_sem, seval, ad_, ab_]; rfl) ?_ ?_))))
   ·first | trivial | simp
   refine .seq (.rgnD [] enM (by simp only [go_sem, seval, ad_, ab_, dj_ (show k < a.length by simpa using h14), dj_ (show k < b.length by simp at h14 h10; omega)]; rfl) (by rfl) ?_ ?_)
   ·simp at h14 h10; simp; omega
   refine .condB (by simp only [go_sem, seval, ad_, ab_]; rfl) (by simp only [go_sem, seval, ad_, ab_]) (fun h24 => ?_) (fun h24 => ?_)
   ·refine .seq (.rgn [] (by simp only [go_sem, seval, ad_, ab_]; rfl) ?_ ?_)
    ·first | trivial | simp
    refine .ret ⟨.inr rfl, ?_⟩
    exact Out.plain (by simp only [Tryz.results151]; rfl) (by simp only [av_, a5_, go_sem, seval, ad_, ab_] <;> (split <;> rfl)) (by simp only [a2_, go_sem, seval, ad_, ab_] <;> (have h2 : a.getD k 0 ≠ b.getD k 0 := bne_iff_ne.1 h24; have : a ≠ b := (fun e => h2 (by rw [e])); simp [this])) (by simp only [go_sem, seval, ad_, ab_])
   ·refine .skip (.rgn [] (by simp only [go_sem, seval, ad_, ab_]; rfl) ?_ ?_)
    ·first | trivial | simp
    refine Exists.intro (k + 1) ⟨?_, ?_, ?_⟩
    ·simp only [T3_] at h14; simp at h10; exact ⟨by omega, h7_ (d := 0) (by omega) (by omega) hI.2 (by simpa using h24)⟩
    ·simp at h14; omega
    exact Can.weak (Weak.lit (by simp only [go_sem, seval, ad_, ab_, as_, leV, aq_, ar_, V.inn, us, T9_, Ta_] <;> (rw [bg_ (by simp at h14; omega) (by simp at h14; omega)]; simp)) (by simp only [go_sem, seval, ad_, ab_, as_, leV, aq_, ar_, V.inn, us, T9_, Ta_]) (by simp only [go_sem, seval, ad_, ab_, as_, leV, aq_, ar_, V.inn, us, T9_, Ta_]))
  ·refine .exit (.seq (.rgn [] (by simp only [go_sem, seval, ad_, ab_]; rfl) ?_ ?_))
   ·first | trivial | simp
   refine .ret ⟨.inr rfl, ?_⟩
   exact Out.plain (by simp only [Tryz.results151]; rfl) (by simp only [av_, a5_, go_sem, seval, ad_, ab_] <;> (split <;> rfl)) (by simp only [a2_, go_sem, seval, ad_, ab_] <;> (simp only [T4_] at h14; simp at h10; have q := hI.2; rw [T1_ (by omega), T1_ (by omega)] at q; simp [q])) (by simp only [go_sem, seval, ad_, ab_])
theorem uf_ {p q : Pg} : (p = q) ↔ (((p.line = q.line ∧ p.good = q.good) ∧ p.text = q.text) ∧ p.frm = q.frm) := by
 constructor
 ·rintro rfl; exact ⟨⟨⟨rfl, rfl⟩, rfl⟩, rfl⟩
 ·intro h; obtain ⟨a, b, c, d⟩ := p; obtain ⟨a2, b2, c2, d2⟩ := q; simp_all
theorem ai2_ (p q : Pg) (hp : pgB p) (hq : pgB q) : ACall En 100 [.ag (pgC p), .ag (pgC q)] [] [.b (decide (p = q))] [] := by
 have h1 := hp.2.2
 have h2 := hq.2.2
 have T := @uf_ p q
 refine ak_ (fn := Tryz.f100) [] Tryz.func100 rfl rfl (by simp) fun C => ?_
 rw [aw_]
 simp only [Tryz.ntmps100, T7_, List.length_nil, Nat.reduceAdd, Nat.reduceSub, List.replicate_succ, List.replicate_zero, List.cons_append, List.nil_append, bk_]
 refine .seq (.rgn [] (by simp only [go_sem, seval, ag_, ab_]; rfl) ?_ ?_)
 ·first | trivial | simp
 refine .seq (.rgn [a3_ (abb_ p.frm q.frm (by omega) (by omega))] (by simp only [go_sem, seval, ag_, ab_]; rfl) ?_ ?_)
 ·first | trivial | simp
 refine .ret ⟨.inr rfl, ?_⟩
 exact Out.plain (by simp only [Tryz.results100]; rfl) (by simp only [av_, a5_, go_sem, seval, ag_, ab_] <;> (split <;> rfl)) (by simp only [a2_, go_sem, seval, ag_, ab_] <;> (have e : (p.line == q.line && p.good == q.good && p.text == q.text && p.frm == q.frm) = decide (p = q) := (by rw [Bool.eq_iff_iff]; simp only [T5_, beq_iff_eq, T3_]; exact T.symm); rw [e])) (by simp only [go_sem, seval, ag_, ab_])
theorem aay_ (p : Pg) (hp : pgB p) : ACall En 99 [.ag (pgC p)] [] [.b (!okP p)] [] := by
 have P := l8_ p.line (by have := hp.1; omega)
 have B := afe_ hp.1
 refine ak_ (fn := Tryz.f99) [] Tryz.func99 rfl rfl (by simp) fun C => ?_
 rw [aw_]
 simp only [Tryz.ntmps99, T7_, List.length_nil, Nat.reduceAdd, Nat.reduceSub, List.replicate_succ, List.replicate_zero, List.cons_append, List.nil_append, bk_]
 refine .seq (.rgn [] (by simp only [go_sem, seval, ag_, ab_]; rfl) ?_ ?_)
 ·first | trivial | simp
 refine .seq (.rgnD [a3_ (of_ p.line (by have := hp.1; omega)), a3_ P, a3_ (ai2_ p (fx_ p.line) hp B)] enM (by simp only [go_sem, seval, ag_, ab_]; rfl) (by rfl) ?_ ?_)
 ·first | trivial | simp
 refine .ret ⟨.inr rfl, ?_⟩
 exact Out.plain (by simp only [Tryz.results99]; rfl) (by simp only [av_, a5_, go_sem, seval, ag_, ab_] <;> (split <;> rfl)) (by simp only [a2_, go_sem, seval, ag_, ab_] <;> (rw [okP, Bool.not_and])) (by simp only [go_sem, seval, ag_, ab_])
theorem ahy_ (l : List Pg) (hs : ∀ p ∈ l, pgB p) (hl : l.length ≤ 2000000) : ACall En 150 [.sl false (pgR l), .fn (.func 99) [] []] [] [.i .i64 (w4_ (fun p => !okP p) l)] [] := by
 refine ak_ (fn := Tryz.f150) [] Tryz.func150 rfl rfl (by simp) fun C => ?_
 rw [aw_]
 simp only [Tryz.ntmps150, T7_, List.length_nil, Nat.reduceAdd, Nat.reduceSub, List.replicate_succ, List.replicate_zero, List.cons_append, List.nil_append, bk_]
 refine .seq (.rgn [] (by simp only [go_sem, seval, al_, ah_, ag_]; rfl) ?_ ?_)
 ·first | trivial | simp
 refine .seq (.seq (.rgn [] (by simp only [go_sem, seval, al_, ah_, ag_]; rfl) ?_ ?_))
 ·first | trivial | simp
 refine .block (.loopK (fun k : Nat => ⟨[.sl false (pgR l), .fn (.func 99) [] [], .no, .no, .no, .no, .no, .i .i64 l.length, .i .i64 k, .no, .no, .no, .no, .no, .no, .no, .no, .no, .no], be_ [], us []⟩) (fun k : Nat => k ≤ l.length ∧ (l.take k).any (fun p => !okP p) = false) (fun k : Nat => l.length - k) (0) ?_ ?_ (fun k hI => ?_))
 ·simp
 ·exact Can.weak (Weak.lit (by simp only [go_sem, seval, al_, ah_, ag_, as_, leV, aq_, ar_, V.inn, us, T9_, Ta_] <;> (simp)) (by simp only [go_sem, seval, al_, ah_, ag_, as_, leV, aq_, ar_, V.inn, us, T9_, Ta_]) (by simp only [go_sem, seval, al_, ah_, ag_, as_, leV, aq_, ar_, V.inn, us, T9_, Ta_]))
 refine .seq (.rgn [] (by simp only [go_sem, seval, al_, ah_, ag_]; rfl) ?_ ?_)
 ·first | trivial | simp
 refine .seq (.condB (by simp only [go_sem, seval, al_, ah_, ag_]; rfl) (by simp only [go_sem, seval, al_, ah_, ag_]) (fun h9 => ?_) (fun h9 => ?_))
 ·refine .skip (.seq (.block (.seq (.rgn [] (by simp only [go_sem, seval, al_, ah_, ag_]; rfl) ?_ ?_))))
  ·first | trivial | simp
  refine .seq (.rgn [by_ (k < l.length) (fun h => aay_ (l.getD k Pg0) (hs _ (bo_ h)))] (by simp only [go_sem, seval, al_, ah_, ag_, dt_ (show k < l.length by simpa using h9)]; rfl) ?_ ?_)
  ·simp only [T3_] at h9; simp only [ac7_, ab_, cd_, V.pure, Bool.and_true, true_and]; and_intros <;> first | omega | (simp; done) | trivial
  refine .condB (by simp only [go_sem, seval, al_, ah_, ag_]; rfl) (by simp only [go_sem, seval, al_, ah_, ag_]) (fun h16 => ?_) (fun h16 => ?_)
  ·refine .seq (.rgn [] (by simp only [go_sem, seval, al_, ah_, ag_]; rfl) ?_ ?_)
   ·first | trivial | simp
   refine .ret ⟨.inr rfl, ?_⟩
   exact Out.plain (by simp only [Tryz.results150]; rfl) (by simp only [av_, a5_, go_sem, seval, al_, ah_, ag_] <;> (split <;> rfl)) (by simp only [a2_, go_sem, seval, al_, ah_, ag_] <;> (simp at h9; rw [agx_ (d := Pg0) h9 hI.2 h16])) (by simp only [go_sem, seval, al_, ah_, ag_])
  ·refine .skip (.rgn [] (by simp only [go_sem, seval, al_, ah_, ag_]; rfl) ?_ ?_)
   ·first | trivial | simp
   refine Exists.intro (k + 1) ⟨?_, ?_, ?_⟩
   ·simp at h9; refine ⟨by omega, ?_⟩; rw [aea_ (d := Pg0) h9, hI.2, h16]; rfl
   ·simp at h9; omega
   exact Can.weak (Weak.lit (by simp only [go_sem, seval, al_, ah_, ag_, as_, leV, aq_, ar_, V.inn, us, T9_, Ta_] <;> (rw [bg_ (by omega) (by omega)]; simp)) (by simp only [go_sem, seval, al_, ah_, ag_, as_, leV, aq_, ar_, V.inn, us, T9_, Ta_]) (by simp only [go_sem, seval, al_, ah_, ag_, as_, leV, aq_, ar_, V.inn, us, T9_, Ta_]))
 ·refine .exit (.seq (.rgn [] (by simp only [go_sem, seval, al_, ah_, ag_]; rfl) ?_ ?_))
  ·first | trivial | simp
  refine .ret ⟨.inr rfl, ?_⟩
  exact Out.plain (by simp only [Tryz.results150]; rfl) (by simp only [av_, a5_, go_sem, seval, al_, ah_, ag_] <;> (split <;> rfl)) (by simp only [a2_, go_sem, seval, al_, ah_, ag_] <;> (simp at h9; have h0 := hI.2; rw [T1_ h9] at h0; rw [aat_ h0])) (by simp only [go_sem, seval, al_, ah_, ag_])
theorem acu_ (l : List Pg) (hs : ∀ p ∈ l, pgB p) (hl : l.length ≤ 2000000) : ACall En 98 [.sl false (pgR l), .fn (.func 99) [] []] [] [.b (l.any fun p => !okP p)] [] := by
 refine ak_ (fn := Tryz.f98) [] Tryz.func98 rfl rfl (by simp) fun C => ?_
 rw [aw_]
 simp only [Tryz.ntmps98, T7_, List.length_nil, Nat.reduceAdd, Nat.reduceSub, List.replicate_succ, List.replicate_zero, List.cons_append, List.nil_append, bk_]
 refine .seq (.rgn [] (by simp only [go_sem, seval, ah_]; rfl) ?_ ?_)
 ·first | trivial | simp
 refine .seq (.rgn [a3_ (ahy_ l hs hl)] (by simp only [go_sem, seval, ah_]; rfl) ?_ ?_)
 ·first | trivial | simp
 refine .ret ⟨.inr rfl, ?_⟩
 exact Out.plain (by simp only [Tryz.results98]; rfl) (by simp only [av_, a5_, go_sem, seval, ah_] <;> (split <;> rfl)) (by simp only [a2_, go_sem, seval, ah_] <;> (rw [ahh_])) (by simp only [go_sem, seval, ah_])
theorem agw_ (l : List Pg) : gc_ l = ((decide ((1 : Int) ≤ l.length) && decide ((l.length : Int) ≤ 16)) && !l.any fun p => !okP p) := by
 rw [List.any_eq_not_all_not]; simp only [gc_, Bool.not_not, f1_]; rfl
theorem qe_ (l : List Pg) (hs : ∀ p ∈ l, pgB p) (hl : l.length ≤ 2000000) : ACall En 45 [.sl false (pgR l)] [] [.b (gc_ l)] [] := by
 refine ak_ (fn := Tryz.f45) [] Tryz.func45 rfl rfl (by simp) fun C => ?_
 rw [aw_]
 simp only [Tryz.ntmps45, T7_, List.length_nil, Nat.reduceAdd, Nat.reduceSub, List.replicate_succ, List.replicate_zero, List.cons_append, List.nil_append, bk_]
 refine .seq (.rgn [] (by simp only [go_sem, seval, al_, ah_]; rfl) ?_ ?_)
 ·first | trivial | simp
 refine .seq (.rgn [a3_ (in_a l.length 1 16), a3_ (acu_ l hs hl)] (by simp only [go_sem, seval, al_, ah_]; rfl) ?_ ?_)
 ·first | trivial | simp
 refine .ret ⟨.inr rfl, ?_⟩
 exact Out.plain (by simp only [Tryz.results45]; rfl) (by simp only [av_, a5_, go_sem, seval, al_, ah_] <;> (split <;> rfl)) (by simp only [a2_, go_sem, seval, al_, ah_] <;> (rw [agw_])) (by simp only [go_sem, seval, al_, ah_])
def zPg : List V := [.s [], .b false, .s [], .sl true []]
theorem filP (l : List Pg) (k j : Nat) : ((ds_ (pgR l) zPg k).getD j []).drop 4 = [] := by
 rw [T8_]
 cases h : (ds_ (pgR l) zPg k)[j]? with
 | none => rfl
 | some r =>
  have hm := List.mem_of_getElem? h
  have : r.length = 4 := by
   rcases lp_ hm with hm | rfl
   ·obtain ⟨s, _, rfl⟩ := List.mem_map.1 hm; rfl
   ·rfl
  simp only [Option.getD_some]; exact List.drop_of_length_le (by omega)
end
end Go.Proofs.YtpikbndepapbhabGreatDoor
