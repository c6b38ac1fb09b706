/- Books: what the program's tell. Conditions: none. -/
import Derived.Test.YtpikbndepapbhaaGreatDoorK12
import Derived.Test.YtpikbndepapbhaaGreatDoorK1
import Derived.Test.YtpikbndepapbhaaGreatDoorK4
set_option linter.unusedVariables false
set_option linter.unusedSimpArgs false
namespace Go.Proofs.YtpikbndepapbhaaGreatDoor
section
set_option maxRecDepth 100000
set_option maxHeartbeats 4000000
theorem q2_ {l : List Pg} {f : Pg → Str} (h : d0_ l = true) (hf : ∀ p, okP p = true → (f p).length ≤ 120) : (cf_ (l.map f)).length ≤ 3000 ∧ (l.map f).length ≤ 16 := by
 have h1 := (ej_ h).2.1
 have := r6_ (l := l.map f) (k := 120) fun s hs => by
  obtain ⟨p, hp, rfl⟩ := List.mem_map.1 hs
  exact hf p (jd_ h p hp)
 rw [List.length_map] at this
 have := Nat.mul_le_mul_right 121 h1
 exact ⟨by omega, by rw [List.length_map]; exact h1⟩
theorem afe_ (F : Nat) (f : Pg → Str) (hF : ∀ p : Pg, ACall En F [.ag (pgC p)] [] [.s (f p)] []) (hf : ∀ p, okP p = true → (f p).length ≤ 120) (l : List Pg) (hs : ∀ p ∈ l, pgB p) (hl : l.length ≤ 1000000) : ACall En 49 [.sl false (pgR l), .fn (.func F) [] []] [] [.s (if d0_ l then cf_ (l.map f) else [])] [] := by
 have hp : ∀ k, ch_ (es_ (bm_ (l.map f)) [.s []] k) = true := fun k => gz_ (aa_ _) rfl
 have hll : (bm_ (l.map f)).length = l.length := by simp [bm_]
 have hf1 : ∀ k, k < l.length → (l.map f).getD k [] = f (l.getD k Pg0) := fun k h => by simp [T8_, T6_ h]
 refine al_ (fn := Tryz.f49) [] Tryz.func49 rfl rfl (by simp) fun C => ?_
 rw [av_]
 simp only [Tryz.ntmps49, T7_, List.length_nil, Nat.reduceAdd, Nat.reduceSub, List.replicate_succ, List.replicate_zero, List.cons_append, List.nil_append, bt_]
 refine .seq (.rgn [] (by simp only [go_sem, seval, af_, ad_, ai_, aa_, ac_, hp, hll, at_, a0_]; rfl) ?_ ?_)
 ·(first | trivial | (simp; done) | (simp only [T3_] at h17; and_intros <;> omega) | (and_intros <;> omega))
 refine .seq (.seq (.rgn [a3_ (mb_ l hs hl)] (by simp only [go_sem, seval, af_, ad_, ai_, aa_, ac_, hp, hll, at_, a0_]; rfl) ?_ ?_))
 ·(first | trivial | (simp; done) | (simp only [T3_] at h17; and_intros <;> omega) | (and_intros <;> omega))
 refine .condB (by simp only [go_sem, seval, af_, ad_, ai_, aa_, ac_, hp, hll, at_, a0_]; rfl) (by simp only [go_sem, seval, af_, ad_, ai_, aa_, ac_, hp, hll, at_, a0_]) (fun h10 => ?_) (fun h10 => ?_)
 ·refine .seq (.rgn [] (by simp only [go_sem, seval, af_, ad_, ai_, aa_, ac_, hp, hll, at_, a0_]; rfl) ?_ ?_)
  ·(first | trivial | (simp; done) | (simp only [T3_] at h17; and_intros <;> omega) | (and_intros <;> omega))
  refine .ret ⟨.inr rfl, ?_⟩
  exact Out.plain (by simp only [Tryz.results49]; rfl) (by simp only [ax_, a6_, go_sem, seval, af_, ad_, ai_, aa_, ac_, hp, hll, at_, a0_] <;> (split <;> rfl)) (by simp only [a4_, go_sem, seval, af_, ad_, ai_, aa_, ac_, hp, hll, at_, a0_] <;> (simp at h10; simp [h10])) (by simp only [go_sem, seval, af_, ad_, ai_, aa_, ac_, hp, hll, at_, a0_])
 ·refine .skip (.seq (.rgn [] (by simp only [go_sem, seval, af_, ad_, ai_, aa_, ac_, hp, hll, at_, a0_]; rfl) ?_ ?_))
  ·(first | trivial | (simp; done) | (simp only [T3_] at h17; and_intros <;> omega) | (and_intros <;> omega))
  refine .seq (.seq (.rgn [] (by simp only [go_sem, seval, af_, ad_, ai_, aa_, ac_, hp, hll, at_, a0_]; rfl) ?_ ?_))
  ·(first | trivial | (simp; done) | (simp only [T3_] at h17; and_intros <;> omega) | (and_intros <;> omega))
  refine .block (.loopK (fun k : Nat => ⟨[.no, .fn (.func F) [] [], .no, .no, .no, .ow 23 1 0 l.length, .no, .no, .no, .no, .no, .no, .no, .no, .sl false (pgR l), .i .i64 l.length, .i .i64 k, .no, .no, .no, .no, .no, .no, .no, .no, .no, .no, .no, .no, .no], be_ [(23, ⟨9, 1, es_ (bm_ (l.map f)) [.s []] k⟩)], us [23]⟩) (fun k : Nat => k ≤ l.length ∧ d0_ l = true) (fun k : Nat => l.length - k) (0) ?_ ?_ (fun k hI => ?_))
  ·exact ⟨by simp, by simpa using h10⟩
  ·exact Can.weak (Weak.lit (by simp only [go_sem, seval, af_, ad_, ai_, aa_, ac_, hp, hll, at_, a0_, as_, leV, aq_, ar_, V.inn, us, T9_, Ta_] <;> (simp)) (by simp only [go_sem, seval, af_, ad_, ai_, aa_, ac_, hp, hll, at_, a0_, as_, leV, aq_, ar_, V.inn, us, T9_, Ta_]) (by simp only [go_sem, seval, af_, ad_, ai_, aa_, ac_, hp, hll, at_, a0_, as_, leV, aq_, ar_, V.inn, us, T9_, Ta_] <;> (simp [g1_, hll])))
  refine .seq (.rgn [] (by simp only [go_sem, seval, af_, ad_, ai_, aa_, ac_, hp, hll, at_, a0_]; rfl) ?_ ?_)
  ·(first | trivial | (simp; done) | (simp only [T3_] at h17; and_intros <;> omega) | (and_intros <;> omega))
  refine .seq (.condB (by simp only [go_sem, seval, af_, ad_, ai_, aa_, ac_, hp, hll, at_, a0_]; rfl) (by simp only [go_sem, seval, af_, ad_, ai_, aa_, ac_, hp, hll, at_, a0_]) (fun h17 => ?_) (fun h17 => ?_))
  ·refine .skip (.seq (.block (.seq (.rgn [] (by simp only [go_sem, seval, af_, ad_, ai_, aa_, ac_, hp, hll, at_, a0_, dq_ (show k < l.length by simpa using h17)]; rfl) ?_ ?_))))
   ·(first | trivial | (simp; done) | (simp only [T3_] at h17; and_intros <;> omega) | (and_intros <;> omega))
   refine .rgn [cm_ (k < l.length) (fun h => hF (l.getD k Pg0))] (by simp only [go_sem, seval, af_, ad_, ai_, aa_, ac_, hp, hll, at_, a0_]; rfl) ?_ ?_
   ·(first | trivial | (simp; done) | (simp only [T3_] at h17; and_intros <;> omega) | (and_intros <;> omega))
   refine .rgn [] (by simp only [go_sem, seval, af_, ad_, ai_, aa_, ac_, hp, hll, at_, a0_]; rfl) ?_ ?_
   ·(first | trivial | (simp; done) | (simp only [T3_] at h17; and_intros <;> omega) | (and_intros <;> omega))
   refine Exists.intro (k + 1) ⟨?_, ?_, ?_⟩
   ·simp at h17; exact ⟨by omega, hI.2⟩
   ·simp at h17; omega
   exact Can.weak (Weak.lit (by simp only [go_sem, seval, af_, ad_, ai_, aa_, ac_, hp, hll, at_, a0_, as_, leV, aq_, ar_, V.inn, us, T9_, Ta_] <;> (rw [bd_ (by simp at h17; omega) (by simp at h17; omega)]; simp)) (by simp only [go_sem, seval, af_, ad_, ai_, aa_, ac_, hp, hll, at_, a0_, as_, leV, aq_, ar_, V.inn, us, T9_, Ta_]) (by simp only [go_sem, seval, af_, ad_, ai_, aa_, ac_, hp, hll, at_, a0_, as_, leV, aq_, ar_, V.inn, us, T9_, Ta_] <;> ((simp only [T3_] at h17); rw [← g8_ (by rw [hll]; omega), cj_ (by rw [List.length_map]; omega), hf1 _ (by omega)])))
  ·refine .exit (.seq (.rgn [mw_ (d0_ l = true) (fun h => hw_ (l.map f) (by have := (q2_ h hf).1; omega) (by have := (q2_ h hf).2; omega))] (by simp only [go_sem, seval, af_, ad_, ai_, aa_, ac_, hp, hll, at_, a0_]; rfl) ?_ ?_))
   ·simp only [T4_] at h17; refine ⟨?_, hI.2⟩; rw [ik_ (by rw [hll]; omega), T1_ (by rw [hll]; exact Nat.le_refl _)]; exact a8_ _
   refine .ret ⟨.inr rfl, ?_⟩
   exact Out.plain (by simp only [Tryz.results49]; rfl) (by simp only [ax_, a6_, go_sem, seval, af_, ad_, ai_, aa_, ac_, hp, hll, at_, a0_] <;> (split <;> rfl)) (by simp only [a4_, go_sem, seval, af_, ad_, ai_, aa_, ac_, hp, hll, at_, a0_] <;> (simp [hI.2])) (by simp only [go_sem, seval, af_, ad_, ai_, aa_, ac_, hp, hll, at_, a0_])
theorem v5_ (p : Pg) : ACall En 50 [.ag (pgC p)] [] [.s p.line] [] := by
 refine al_ (fn := Tryz.f50) [] Tryz.func50 rfl rfl (by simp) fun C => ?_
 rw [av_]
 simp only [Tryz.ntmps50, T7_, List.length_nil, Nat.reduceAdd, Nat.reduceSub, List.replicate_succ, List.replicate_zero, List.cons_append, List.nil_append, bt_]
 refine .seq (.rgn [] (by simp only [go_sem, seval, ai_, ac_]; rfl) ?_ ?_)
 ·first | trivial | simp
 refine .seq (.rgn [] (by simp only [go_sem, seval, ai_, ac_]; rfl) ?_ ?_)
 ·first | trivial | simp
 refine .ret ⟨.inr rfl, ?_⟩
 exact Out.plain (by simp only [Tryz.results50]; rfl) (by simp only [ax_, a6_, go_sem, seval, ai_, ac_] <;> (split <;> rfl)) (by simp only [a4_, go_sem, seval, ai_, ac_] <;> (simp_all)) (by simp only [go_sem, seval, ai_, ac_])
theorem t6_ (l : List Pg) (hs : ∀ p ∈ l, pgB p) (hl : l.length ≤ 1000000) : ACall En 18 [.sl false (pgR l)] [] [.s (iu_ l)] [] := by
 refine al_ (fn := Tryz.f18) [] Tryz.func18 rfl rfl (by simp) fun C => ?_
 rw [av_]
 simp only [Tryz.ntmps18, T7_, List.length_nil, Nat.reduceAdd, Nat.reduceSub, List.replicate_succ, List.replicate_zero, List.cons_append, List.nil_append, bt_]
 refine .seq (.rgn [] (by simp only [go_sem, seval, ad_]; rfl) ?_ ?_)
 ·first | trivial | simp
 refine .seq (.rgn [a3_ (afe_ _ (·.line) v5_ (fun p hp => (j7_ (jf_ hp).1).2) l hs hl)] (by simp only [go_sem, seval, ad_]; rfl) ?_ ?_)
 ·first | trivial | simp
 refine .ret ⟨.inr rfl, ?_⟩
 exact Out.plain (by simp only [Tryz.results18]; rfl) (by simp only [ax_, a6_, go_sem, seval, ad_] <;> (split <;> rfl)) (by simp only [a4_, go_sem, seval, ad_] <;> (rfl)) (by simp only [go_sem, seval, ad_])
end
section
set_option maxRecDepth 100000
set_option maxHeartbeats 4000000
theorem aa5_ (p q : Pg) (hp : pgB p) (hq : pgB q) : ACall En 69 [.ag (pgC p), .ag (pgC q)] [] [.b (decide (p = q))] [] := by
 have h1 := hp.2.2
 have h2 := hq.2.2
 refine al_ (fn := Tryz.f69) [] Tryz.func69 rfl rfl (by simp) fun C => ?_
 rw [av_]
 simp only [Tryz.ntmps69, T7_, List.length_nil, Nat.reduceAdd, Nat.reduceSub, List.replicate_succ, List.replicate_zero, List.cons_append, List.nil_append, bt_]
 refine .seq (.rgn [] (by simp only [go_sem, seval, ai_, ac_, an_]; rfl) ?_ ?_)
 ·first | trivial | simp
 refine .seq (.seq (.rgn [] (by simp only [go_sem, seval, ai_, ac_, an_]; rfl) ?_ ?_))
 ·first | trivial | simp
 refine .condB (by simp only [go_sem, seval, ai_, ac_, an_]; rfl) (by simp only [go_sem, seval, ai_, ac_, an_]) (fun h33 => ?_) (fun h33 => ?_)
 ·refine .seq (.rgn [] (by simp only [go_sem, seval, ai_, ac_, an_]; rfl) ?_ ?_)
  ·first | trivial | simp
  refine .ret ⟨.inr rfl, ?_⟩
  exact Out.plain (by simp only [Tryz.results69]; rfl) (by simp only [ax_, a6_, go_sem, seval, ai_, ac_, an_] <;> (split <;> rfl)) (by simp only [a4_, go_sem, seval, ai_, ac_, an_] <;> (rw [decide_eq_false]; rintro rfl; simp at h33)) (by simp only [go_sem, seval, ai_, ac_, an_])
 ·refine .skip (.seq (.seq (.rgn [] (by simp only [go_sem, seval, ai_, ac_, an_]; rfl) ?_ ?_)))
  ·first | trivial | simp
  refine .block (.loopK (fun k : Nat => ⟨[.no, .no, .pt 12 4 0 0, .pt 13 4 0 0, .no, .i .i64 k, .no, .no, .no, .no, .no, .no, .no, .no, .no, .no, .no, .no, .no, .no, .no, .no, .no, .no, .no, .no, .no, .no, .no, .no, .no, .no, .no, .no, .no, .no, .no, .no, .no, .no, .no, .no, .no, .no, .no, .no, .no, .no, .no, .no, .no, .no], be_ [(12, ⟨47, 4, [pgC p]⟩), (13, ⟨47, 4, [pgC q]⟩)], us [12, 13]⟩) (fun k : Nat => k ≤ p.frm.length ∧ p.frm.take k = q.frm.take k) (fun k : Nat => p.frm.length - k) (0) ?_ ?_ (fun k hI => ?_))
  ·exact ⟨Nat.zero_le _, rfl⟩
  ·exact Can.weak (Weak.lit (by simp only [go_sem, seval, ai_, ac_, an_, as_, leV, aq_, ar_, V.inn, us, T9_, Ta_] <;> ((try simp))) (by simp only [go_sem, seval, ai_, ac_, an_, as_, leV, aq_, ar_, V.inn, us, T9_, Ta_]) (by simp only [go_sem, seval, ai_, ac_, an_, as_, leV, aq_, ar_, V.inn, us, T9_, Ta_]))
  refine .seq (.seq (.rgn [] (by simp only [go_sem, seval, ai_, ac_, an_]; rfl) ?_ ?_))
  ·first | trivial | simp
  refine .condB (by simp only [go_sem, seval, ai_, ac_, an_]; rfl) (by simp only [go_sem, seval, ai_, ac_, an_]) (fun h38 => ?_) (fun h38 => ?_)
  ·refine .skip (.seq (.block (.seq (.rgnD [] enM (by simp only [go_sem, seval, ai_, ac_, an_, fy_ (show k < p.frm.length by simpa using h38), fy_ (show k < q.frm.length by have e := (c8_ h33).2.2.2; simp only [T3_] at h38; omega)]; rfl) (by rfl) ?_ ?_))))
   ·have e := (c8_ h33).2.2.2; simp only [T3_] at h38; and_intros <;> omega
   refine .condB (by simp only [go_sem, seval, ai_, ac_, an_]; rfl) (by simp only [go_sem, seval, ai_, ac_, an_]) (fun h51 => ?_) (fun h51 => ?_)
   ·refine .seq (.rgn [] (by simp only [go_sem, seval, ai_, ac_, an_]; rfl) ?_ ?_)
    ·first | trivial | simp
    refine .ret ⟨.inr rfl, ?_⟩
    exact Out.plain (by simp only [Tryz.results69]; rfl) (by simp only [ax_, a6_, go_sem, seval, ai_, ac_, an_] <;> (split <;> rfl)) (by simp only [a4_, go_sem, seval, ai_, ac_, an_] <;> (rw [decide_eq_false]; rintro rfl; simp at h51)) (by simp only [go_sem, seval, ai_, ac_, an_])
   ·refine .skip (.rgn [] (by simp only [go_sem, seval, ai_, ac_, an_]; rfl) ?_ ?_)
    ·first | trivial | simp
    refine Exists.intro (k + 1) ⟨?_, ?_, ?_⟩
    ·have e := (c8_ h33).2.2.2; simp only [T3_] at h38; exact ⟨by omega, lp_ (d := 0) (by omega) (by omega) hI.2 (bne_eq_false_iff_eq.1 h51)⟩
    ·simp only [T3_] at h38; omega
    exact Can.weak (Weak.lit (by simp only [go_sem, seval, ai_, ac_, an_, as_, leV, aq_, ar_, V.inn, us, T9_, Ta_] <;> (simp only [T3_] at h38; exact bd_ (n := ((k + 1 : Nat) : Int)) (by omega) (by omega))) (by simp only [go_sem, seval, ai_, ac_, an_, as_, leV, aq_, ar_, V.inn, us, T9_, Ta_]) (by simp only [go_sem, seval, ai_, ac_, an_, as_, leV, aq_, ar_, V.inn, us, T9_, Ta_]))
  ·refine .exit (.seq (.rgn [] (by simp only [go_sem, seval, ai_, ac_, an_]; rfl) ?_ ?_))
   ·first | trivial | simp
   refine .ret ⟨.inr rfl, ?_⟩
   exact Out.plain (by simp only [Tryz.results69]; rfl) (by simp only [ax_, a6_, go_sem, seval, ai_, ac_, an_] <;> (split <;> rfl)) (by simp only [a4_, go_sem, seval, ai_, ac_, an_] <;> (simp only [T4_] at h38; have e := c8_ h33; have e2 := hI.2; rw [T1_ (by omega), T1_ (by omega)] at e2; rw [decide_eq_true (uw_.2 ⟨⟨⟨e.1, e.2.1⟩, e.2.2.1⟩, e2⟩)])) (by simp only [go_sem, seval, ai_, ac_, an_])
theorem ag2_ {l : List Pg} {k : Nat} (h : k < l.length) : (l.take (k + 1)).all okP = ((l.take k).all okP && okP (l.getD k Pg0)) := by
 rw [List.take_add_one, T6_ h, List.all_append, T8_, T6_ h]; simp
theorem ady_ {l : List Pg} {k : Nat} (hk : k < l.length) (h : okP (l.getD k Pg0) = false) : d0_ l = false := by
 rw [Bool.eq_false_iff]; intro q
 rw [(ej_ q).2.2 k hk] at h; cases h
theorem aiu_ {p : Pg} (h : (!tOk p.line || decide (((spl p.line).length : Int) > 1) || !decide (p = d2_ p.line)) = false) : okP p = true := by
 rw [re_, ← Bool.not_and, Bool.not_eq_false'] at h; exact h
theorem ain_ {p : Pg} (h : (!tOk p.line || decide (((spl p.line).length : Int) > 1) || !decide (p = d2_ p.line)) = true) : okP p = false := by
 rw [re_, ← Bool.not_and, Bool.not_eq_true'] at h; exact h
theorem bkTk {ls : List Str} {k : Nat} (h : k < ls.length) : pgR ((ls.take (k + 1)).map d2_) = pgR ((ls.take k).map d2_) ++ [pgC (d2_ (ls.getD k []))] := by
 rw [List.take_add_one, T6_ h, T8_, T6_ h, List.map_append]; unfold pgR; rw [List.map_append]; rfl
theorem ia_ (l : List Pg) (hs : ∀ p ∈ l, pgB p) (hl : l.length ≤ 1000000) : ACall En 34 [.sl false (pgR l)] [] [.b (d0_ l)] [] := by
 have hB : ∀ k, k < l.length → pgB (l.getD k Pg0) := fun k h => hs _ (bp_ h)
 refine al_ (fn := Tryz.f34) [] Tryz.func34 rfl rfl (by simp) fun C => ?_
 rw [av_]
 simp only [Tryz.ntmps34, T7_, List.length_nil, Nat.reduceAdd, Nat.reduceSub, List.replicate_succ, List.replicate_zero, List.cons_append, List.nil_append, bt_]
 refine .seq (.rgn [] (by simp only [go_sem, seval, af_, ad_, ai_, ac_, ab_, aa_]; rfl) ?_ ?_)
 ·first | trivial | simp
 refine .seq (.seq (.rgn [] (by simp only [go_sem, seval, af_, ad_, ai_, ac_, ab_, aa_]; rfl) ?_ ?_))
 ·first | trivial | simp
 refine .block (.loopK (fun k : Nat => ⟨[.sl false (pgR l), .no, .no, .i .i64 k, .no, .no, .no, .no, .no, .no, .no, .no, .no, .no, .no, .no, .no, .no, .no, .no, .no, .no, .no, .no, .no, .no, .no, .no, .no, .no, .no, .no, .no, .no, .no, .no, .no, .no, .no, .no, .no, .no, .no, .no, .no, .no, .no, .no, .no], be_ [], us []⟩) (fun k : Nat => k ≤ l.length ∧ (l.take k).all okP = true) (fun k : Nat => l.length - k) (0) ?_ ?_ (fun k hI => ?_))
 ·exact ⟨Nat.zero_le _, rfl⟩
 ·exact Can.weak (Weak.lit (by simp only [go_sem, seval, af_, ad_, ai_, ac_, ab_, aa_, as_, leV, aq_, ar_, V.inn, us, T9_, Ta_] <;> ((try simp))) (by simp only [go_sem, seval, af_, ad_, ai_, ac_, ab_, aa_, as_, leV, aq_, ar_, V.inn, us, T9_, Ta_]) (by simp only [go_sem, seval, af_, ad_, ai_, ac_, ab_, aa_, as_, leV, aq_, ar_, V.inn, us, T9_, Ta_]))
 refine .seq (.seq (.rgn [] (by simp only [go_sem, seval, af_, ad_, ai_, ac_, ab_, aa_]; rfl) ?_ ?_))
 ·first | trivial | simp
 refine .condB (by simp only [go_sem, seval, af_, ad_, ai_, ac_, ab_, aa_]; rfl) (by simp only [go_sem, seval, af_, ad_, ai_, ac_, ab_, aa_]) (fun h7 => ?_) (fun h7 => ?_)
 ·refine .skip (.seq (.block (.seq (.rgnD [cm_ (k < l.length) (fun h => j4_ (l.getD k Pg0).line (by have := (hB k h).1; omega)), cm_ (k < l.length ∧ tOk (l.getD k Pg0).line = true) (fun h => k5_ (l.getD k Pg0).line (j5_ h.2)), cm_ (k < l.length) (fun h => j9_ (l.getD k Pg0).line (by have := (hB k h).1; omega)), cm_ (k < l.length) (fun h => aa5_ (l.getD k Pg0) (d2_ (l.getD k Pg0).line) (hB k h) (w8_ (hB k h).1))] enM (by simp only [go_sem, seval, af_, ad_, ai_, ac_, ab_, aa_, dq_ (show k < l.length by simpa using h7)]; rfl) (by rfl) ?_ ?_))))
  ·simp only [T3_] at h7; and_intros <;> first | omega | trivial | exact fun h => ⟨h, by omega, by omega⟩ | exact fun h => ⟨h, by omega⟩ | exact fun h => ⟨h, by omega, by simpa using h⟩ | exact fun h => by rw [h]; rfl
  refine .condB (by simp only [go_sem, seval, af_, ad_, ai_, ac_, ab_, aa_]; rfl) (by simp only [go_sem, seval, af_, ad_, ai_, ac_, ab_, aa_]) (fun h40 => ?_) (fun h40 => ?_)
  ·refine .seq (.rgn [] (by simp only [go_sem, seval, af_, ad_, ai_, ac_, ab_, aa_]; rfl) ?_ ?_)
   ·first | trivial | simp
   refine .ret ⟨.inr rfl, ?_⟩
   exact Out.plain (by simp only [Tryz.results34]; rfl) (by simp only [ax_, a6_, go_sem, seval, af_, ad_, ai_, ac_, ab_, aa_] <;> (split <;> rfl)) (by simp only [a4_, go_sem, seval, af_, ad_, ai_, ac_, ab_, aa_] <;> (rw [ady_ (k := k) (by simpa using h7) (ain_ h40)])) (by simp only [go_sem, seval, af_, ad_, ai_, ac_, ab_, aa_])
  ·refine .skip (.rgn [] (by simp only [go_sem, seval, af_, ad_, ai_, ac_, ab_, aa_]; rfl) ?_ ?_)
   ·first | trivial | simp
   refine Exists.intro (k + 1) ⟨?_, ?_, ?_⟩
   ·simp at h7; refine ⟨by omega, ?_⟩; rw [ag2_ h7, hI.2, aiu_ h40]; rfl
   ·simp at h7; omega
   exact Can.weak (Weak.lit (by simp only [go_sem, seval, af_, ad_, ai_, ac_, ab_, aa_, as_, leV, aq_, ar_, V.inn, us, T9_, Ta_] <;> (rw [bd_ (by simp at h7; omega) (by simp at h7; omega)]; (try simp))) (by simp only [go_sem, seval, af_, ad_, ai_, ac_, ab_, aa_, as_, leV, aq_, ar_, V.inn, us, T9_, Ta_]) (by simp only [go_sem, seval, af_, ad_, ai_, ac_, ab_, aa_, as_, leV, aq_, ar_, V.inn, us, T9_, Ta_]))
 ·refine .exit (.seq (.rgn [] (by simp only [go_sem, seval, af_, ad_, ai_, ac_, ab_, aa_]; rfl) ?_ ?_))
  ·first | trivial | simp
  refine .ret ⟨.inr rfl, ?_⟩
  exact Out.plain (by simp only [Tryz.results34]; rfl) (by simp only [ax_, a6_, go_sem, seval, af_, ad_, ai_, ac_, ab_, aa_] <;> (split <;> rfl)) (by simp only [a4_, go_sem, seval, af_, ad_, ai_, ac_, ab_, aa_] <;> (simp only [T4_] at h7; have e := hI.2; rw [T1_ (by omega)] at e; unfold d0_; rw [e]; simp only [im_, Bool.and_true]; rfl)) (by simp only [go_sem, seval, af_, ad_, ai_, ac_, ab_, aa_])
theorem wu_ (s : Str) (hs : s.length ≤ 281474976710656) : ACall En 14 [.s s] [] [.ow 0 4 0 (fp_ s).length] [⟨47, 4, pgR (fp_ s)⟩] := by
 have hL := qf_ s
 have hM := it_ s
 have hb : fp_ s = if (dk_ s).length ≤ 16 then (dk_ s).map d2_ else [] := rfl
 have T := sn_ s hs
 generalize dk_ s = ls at *
 refine al_ (fn := Tryz.f14) [60] Tryz.func14 rfl rfl (by simp) fun C => ?_
 rw [av_]
 simp only [Tryz.ntmps14, T7_, List.length_nil, Nat.reduceAdd, Nat.reduceSub, List.replicate_succ, List.replicate_zero, List.cons_append, List.nil_append, bt_]
 refine .seq (.rgn [] (by simp only [go_sem, seval, ab_, aa_, ad_, af_, ai_, ac_]; rfl) ?_ ?_)
 ·(first | trivial | (simp; done) | (simp only [T3_, T4_] at h11 h16; and_intros <;> first | omega | (simp; done) | (simp; omega)))
 refine .seq (.rgn [] (by simp only [go_sem, seval, ab_, aa_, ad_, af_, ai_, ac_]; rfl) ?_ ?_)
 ·(first | trivial | (simp; done) | (simp only [T3_, T4_] at h11 h16; and_intros <;> first | omega | (simp; done) | (simp; omega)))
 refine .seq (.rgn [a3_ T] (by simp only [go_sem, seval, ab_, aa_, ad_, af_, ai_, ac_]; rfl) ?_ ?_)
 ·(first | trivial | (simp; done) | (simp only [T3_, T4_] at h11 h16; and_intros <;> first | omega | (simp; done) | (simp; omega)))
 refine .seq (.seq (.rgn [] (by simp only [go_sem, seval, ab_, aa_, ad_, af_, ai_, ac_]; rfl) ?_ ?_))
 ·(first | trivial | (simp; done) | (simp only [T3_, T4_] at h11 h16; and_intros <;> first | omega | (simp; done) | (simp; omega)))
 refine .condB (by simp only [go_sem, seval, ab_, aa_, ad_, af_, ai_, ac_]; rfl) (by simp only [go_sem, seval, ab_, aa_, ad_, af_, ai_, ac_]) (fun h11 => ?_) (fun h11 => ?_)
 ·refine .seq (.rgn [] (by simp only [go_sem, seval, ab_, aa_, ad_, af_, ai_, ac_]; rfl) ?_ ?_)
  ·(first | trivial | (simp; done) | (simp only [T3_, T4_] at h11 h16; and_intros <;> first | omega | (simp; done) | (simp; omega)))
  refine .can (Can.ownSlot 2 60 47 4 (by simp only [go_sem, seval, ab_, aa_, ad_, af_, ai_, ac_] <;> rfl) (by simp only [go_sem, seval, ab_, aa_, ad_, af_, ai_, ac_]) (by simp only [go_sem, seval, ab_, aa_, ad_, af_, ai_, ac_] <;> rfl)) ?_
  refine .ret ⟨.inr rfl, ?_⟩
  exact Out.mem' (by simp only [Tryz.results14]; rfl) (by simp only [ax_, a6_, go_sem, seval, ab_, aa_, ad_, af_, ai_, ac_]) (by simp only [a4_, rns, rn, go_sem, seval, ab_, aa_, ad_, af_, ai_, ac_] <;> (rw [show fp_ s = [] by rw [hb, if_neg (by simp at h11; omega)]]; rfl)) (by simp) rfl (by decide) (by simp only [go_sem, seval, ab_, aa_, ad_, af_, ai_, ac_]) (by simp only [ak_, go_sem, seval, ab_, aa_, ad_, af_, ai_, ac_]) (by simp only [ag_, go_sem, seval, ab_, aa_, ad_, af_, ai_, ac_] <;> (rw [show fp_ s = [] by rw [hb, if_neg (by simp at h11; omega)]]; rfl))
 ·refine .skip (.seq (.seq (.rgn [] (by simp only [go_sem, seval, ab_, aa_, ad_, af_, ai_, ac_]; rfl) ?_ ?_)))
  ·(first | trivial | (simp; done) | (simp only [T3_, T4_] at h11 h16; and_intros <;> first | omega | (simp; done) | (simp; omega)))
  refine .block (.loopK (fun k : Nat => ⟨[.no, .no, .no, .ow 60 4 0 k, .sl false (bm_ ls), .i .i64 k, .no, .no, .no, .no, .no, .no, .no, .no, .no, .no, .no, .no, .no, .no, .no, .no, .no, .no, .no, .no, .no, .no], be_ [(60, ⟨47, 4, pgR ((ls.take k).map d2_)⟩)], us [60]⟩) (fun k : Nat => k ≤ ls.length) (fun k : Nat => ls.length - k) (0) ?_ ?_ (fun k hI => ?_))
  ·simp
  ·refine Can.trans (Can.ownSlot 3 60 47 4 (by simp only [go_sem, seval, ab_, aa_, ad_, af_, ai_, ac_] <;> rfl) (by simp only [go_sem, seval, ab_, aa_, ad_, af_, ai_, ac_]) (by simp only [go_sem, seval, ab_, aa_, ad_, af_, ai_, ac_] <;> rfl)) ?_
   exact Can.weak (Weak.lit (by simp only [go_sem, seval, ab_, aa_, ad_, af_, ai_, ac_, as_, leV, aq_, ar_, V.inn, us, T9_, Ta_] <;> ((try simp))) (by simp only [go_sem, seval, ab_, aa_, ad_, af_, ai_, ac_, as_, leV, aq_, ar_, V.inn, us, T9_, Ta_]) (by simp only [go_sem, seval, ab_, aa_, ad_, af_, ai_, ac_, as_, leV, aq_, ar_, V.inn, us, T9_, Ta_] <;> ((try simp [pgR]))))
  refine .seq (.seq (.rgn [] (by simp only [go_sem, seval, ab_, aa_, ad_, af_, ai_, ac_]; rfl) ?_ ?_))
  ·(first | trivial | (simp; done) | (simp only [T3_, T4_] at h11 h16; and_intros <;> first | omega | (simp; done) | (simp; omega)))
  refine .condB (by simp only [go_sem, seval, ab_, aa_, ad_, af_, ai_, ac_]; rfl) (by simp only [go_sem, seval, ab_, aa_, ad_, af_, ai_, ac_]) (fun h16 => ?_) (fun h16 => ?_)
  ·refine .skip (.seq (.block (.rgn [cm_ (k < ls.length) (fun h => j9_ (ls.getD k []) (by have := hM _ (bp_ (d := []) h); omega))] (by simp only [go_sem, seval, ab_, aa_, ad_, af_, ai_, ac_, cj_ (show k < ls.length by simpa using h16)]; rfl) ?_ ?_)))
   ·(first | trivial | (simp; done) | (simp only [T3_, T4_] at h11 h16; and_intros <;> first | omega | (simp; done) | (simp; omega)))
   refine .rgn [] (by simp only [go_sem, seval, ab_, aa_, ad_, af_, ai_, ac_]; rfl) ?_ ?_
   ·(first | trivial | (simp; done) | (simp only [T3_, T4_] at h11 h16; and_intros <;> first | omega | (simp; done) | (simp; omega)))
   refine Exists.intro (k + 1) ⟨?_, ?_, ?_⟩
   ·simp at h16; omega
   ·simp at h16; omega
   refine Can.trans (Can.swap 36 60 (by decide) (by decide) (by decide) (by decide) (by simp only [go_sem, seval, ab_, aa_, ad_, af_, ai_, ac_, V.cl]) (by simp only [go_sem, seval, ab_, aa_, ad_, af_, ai_, ac_, V.cl]) (by simp only [go_sem, seval, ab_, aa_, ad_, af_, ai_, ac_, bq_, sw, swM, rnB] <;> rfl) (by simp only [go_sem, seval, ab_, aa_, ad_, af_, ai_, ac_, bq_, sw, swM, rnB] <;> rfl) (by simp only [go_sem, seval, ab_, aa_, ad_, af_, ai_, ac_, bq_, sw, swM, rnB] <;> rfl)) ?_
   exact Can.weak (Weak.lit (by simp only [go_sem, seval, ab_, aa_, ad_, af_, ai_, ac_, as_, leV, aq_, ar_, V.inn, us, T9_, Ta_] <;> (rw [bd_ (by simp at h16; omega) (by simp at h16; omega)]; (try simp))) (by simp only [go_sem, seval, ab_, aa_, ad_, af_, ai_, ac_, as_, leV, aq_, ar_, V.inn, us, T9_, Ta_]) (by simp only [go_sem, seval, ab_, aa_, ad_, af_, ai_, ac_, as_, leV, aq_, ar_, V.inn, us, T9_, Ta_] <;> (rw [bkTk (by simpa using h16), ai_])))
  ·refine .exit (.seq (.rgn [] (by simp only [go_sem, seval, ab_, aa_, ad_, af_, ai_, ac_]; rfl) ?_ ?_))
   ·(first | trivial | (simp; done) | (simp only [T3_, T4_] at h11 h16; and_intros <;> first | omega | (simp; done) | (simp; omega)))
   refine .ret ⟨.inr rfl, ?_⟩
   exact Out.mem' (by simp only [Tryz.results14]; rfl) (by simp only [ax_, a6_, go_sem, seval, ab_, aa_, ad_, af_, ai_, ac_]) (by simp only [a4_, rns, rn, go_sem, seval, ab_, aa_, ad_, af_, ai_, ac_] <;> (simp only [T4_] at h11 h16; rw [show fp_ s = ls.map d2_ by rw [hb, if_pos (by omega)], List.length_map, show k = ls.length by omega])) (by simp) rfl (by decide) (by simp only [go_sem, seval, ab_, aa_, ad_, af_, ai_, ac_]) (by simp only [ak_, go_sem, seval, ab_, aa_, ad_, af_, ai_, ac_]) (by simp only [ag_, go_sem, seval, ab_, aa_, ad_, af_, ai_, ac_] <;> (simp only [T4_] at h11 h16; rw [show fp_ s = ls.map d2_ by rw [hb, if_pos (by omega)], T1_ (show ls.length ≤ k by omega)]))
end
section
set_option maxRecDepth 100000
set_option maxHeartbeats 4000000
end
end Go.Proofs.YtpikbndepapbhaaGreatDoor
