/- Books: what the program's tell. Conditions: none. -/
import Derived.Test.YtcigkafioinfoaaGreatDoorK12
import Derived.Test.YtcigkafioinfoaaGreatDoorK1
import Derived.Test.YtcigkafioinfoaaGreatDoorK4
set_option linter.unusedVariables false
set_option linter.unusedSimpArgs false
namespace Go.Proofs.YtcigkafioinfoaaGreatDoor
section
set_option maxRecDepth 100000
set_option maxHeartbeats 4000000
theorem rk_ {l : List Pg} {f : Pg → Str} (h : e6_ l = true) (hf : ∀ p, okP p = true → (f p).length ≤ 120) : (cf_ (l.map f)).length ≤ 3000 ∧ (l.map f).length ≤ 16 := by
 have h1 := (ie_ h).2.1
 have := ri_ (l := l.map f) (k := 120) fun s hs => by
  obtain ⟨p, hp, rfl⟩ := List.mem_map.1 hs
  exact hf p (k4_ h p hp)
 rw [List.length_map] at this
 have := Nat.mul_le_mul_right 121 h1
 exact ⟨by omega, by rw [List.length_map]; exact h1⟩
theorem agq_ (F : Nat) (f : Pg → Str) (hF : ∀ p : Pg, ACall En F [.ag (pgC p)] [] [.s (f p)] []) (hf : ∀ p, okP p = true → (f p).length ≤ 120) (l : List Pg) (hs : ∀ p ∈ l, pgB p) (hl : l.length ≤ 2000000) : ACall En 65 [.sl false (pgR l), .fn (.func F) [] []] [] [.s (if e6_ l then cf_ (l.map f) else [])] [] := by
 have hp : ∀ k, b9_ (e7_ (bo_ (l.map f)) [.s []] k) = true := fun k => h7_ (aa_ _) rfl
 have hll : (bo_ (l.map f)).length = l.length := by simp [bo_]
 have hf1 : ∀ k, k < l.length → (l.map f).getD k [] = f (l.getD k Pg0) := fun k h => by simp [T8_, T6_ h]
 refine aj_ (fn := Tryz.f65) [] Tryz.func65 rfl rfl (by simp) fun C => ?_
 rw [ay_]
 simp only [Tryz.ntmps65, T7_, List.length_nil, Nat.reduceAdd, Nat.reduceSub, List.replicate_succ, List.replicate_zero, List.cons_append, List.nil_append, bu_]
 refine .seq (.rgn [] (by simp only [go_sem, seval, al_, ah_, am_, aa_, ac_, hp, hll, a0_, a6_]; rfl) ?_ ?_)
 ·(first | trivial | (simp; done) | (simp only [T3_] at h17; and_intros <;> omega) | (and_intros <;> omega))
 refine .seq (.seq (.rgn [a8_ (abj_ l hs hl)] (by simp only [go_sem, seval, al_, ah_, am_, aa_, ac_, hp, hll, a0_, a6_]; rfl) ?_ ?_))
 ·(first | trivial | (simp; done) | (simp only [T3_] at h17; and_intros <;> omega) | (and_intros <;> omega))
 refine .condB (by simp only [go_sem, seval, al_, ah_, am_, aa_, ac_, hp, hll, a0_, a6_]; rfl) (by simp only [go_sem, seval, al_, ah_, am_, aa_, ac_, hp, hll, a0_, a6_]) (fun h10 => ?_) (fun h10 => ?_)
 ·refine .seq (.rgn [] (by simp only [go_sem, seval, al_, ah_, am_, aa_, ac_, hp, hll, a0_, a6_]; rfl) ?_ ?_)
  ·(first | trivial | (simp; done) | (simp only [T3_] at h17; and_intros <;> omega) | (and_intros <;> omega))
  refine .ret ⟨.inr rfl, ?_⟩
  exact Out.plain (by simp only [Tryz.results65]; rfl) (by simp only [az_, bc_, go_sem, seval, al_, ah_, am_, aa_, ac_, hp, hll, a0_, a6_] <;> (split <;> rfl)) (by simp only [bb_, go_sem, seval, al_, ah_, am_, aa_, ac_, hp, hll, a0_, a6_] <;> (simp at h10; simp [h10])) (by simp only [go_sem, seval, al_, ah_, am_, aa_, ac_, hp, hll, a0_, a6_])
 ·refine .skip (.seq (.rgn [] (by simp only [go_sem, seval, al_, ah_, am_, aa_, ac_, hp, hll, a0_, a6_]; rfl) ?_ ?_))
  ·(first | trivial | (simp; done) | (simp only [T3_] at h17; and_intros <;> omega) | (and_intros <;> omega))
  refine .seq (.seq (.rgn [] (by simp only [go_sem, seval, al_, ah_, am_, aa_, ac_, hp, hll, a0_, a6_]; rfl) ?_ ?_))
  ·(first | trivial | (simp; done) | (simp only [T3_] at h17; and_intros <;> omega) | (and_intros <;> omega))
  refine .block (.loopK (fun k : Nat => ⟨[.no, .fn (.func F) [] [], .no, .no, .no, .ow 23 1 0 l.length, .no, .no, .no, .no, .no, .no, .no, .no, .sl false (pgR l), .i .i64 l.length, .i .i64 k, .no, .no, .no, .no, .no, .no, .no, .no, .no, .no, .no, .no, .no], bh_ [(23, ⟨9, 1, e7_ (bo_ (l.map f)) [.s []] k⟩)], us [23]⟩) (fun k : Nat => k ≤ l.length ∧ e6_ l = true) (fun k : Nat => l.length - k) (0) ?_ ?_ (fun k hI => ?_))
  ·exact ⟨by simp, by simpa using h10⟩
  ·exact Can.weak (Weak.lit (by simp only [go_sem, seval, al_, ah_, am_, aa_, ac_, hp, hll, a0_, a6_, ar_, leV, ap_, aq_, V.inn, us, T9_, Ta_] <;> (simp)) (by simp only [go_sem, seval, al_, ah_, am_, aa_, ac_, hp, hll, a0_, a6_, ar_, leV, ap_, aq_, V.inn, us, T9_, Ta_]) (by simp only [go_sem, seval, al_, ah_, am_, aa_, ac_, hp, hll, a0_, a6_, ar_, leV, ap_, aq_, V.inn, us, T9_, Ta_] <;> (simp [hz_, hll])))
  refine .seq (.rgn [] (by simp only [go_sem, seval, al_, ah_, am_, aa_, ac_, hp, hll, a0_, a6_]; rfl) ?_ ?_)
  ·(first | trivial | (simp; done) | (simp only [T3_] at h17; and_intros <;> omega) | (and_intros <;> omega))
  refine .seq (.condB (by simp only [go_sem, seval, al_, ah_, am_, aa_, ac_, hp, hll, a0_, a6_]; rfl) (by simp only [go_sem, seval, al_, ah_, am_, aa_, ac_, hp, hll, a0_, a6_]) (fun h17 => ?_) (fun h17 => ?_))
  ·refine .skip (.seq (.block (.seq (.rgn [] (by simp only [go_sem, seval, al_, ah_, am_, aa_, ac_, hp, hll, a0_, a6_, hm_ (show k < l.length by simpa using h17)]; rfl) ?_ ?_))))
   ·(first | trivial | (simp; done) | (simp only [T3_] at h17; and_intros <;> omega) | (and_intros <;> omega))
   refine .rgn [ce_ (k < l.length) (fun h => hF (l.getD k Pg0))] (by simp only [go_sem, seval, al_, ah_, am_, aa_, ac_, hp, hll, a0_, a6_]; rfl) ?_ ?_
   ·(first | trivial | (simp; done) | (simp only [T3_] at h17; and_intros <;> omega) | (and_intros <;> omega))
   refine .rgn [] (by simp only [go_sem, seval, al_, ah_, am_, aa_, ac_, hp, hll, a0_, a6_]; rfl) ?_ ?_
   ·(first | trivial | (simp; done) | (simp only [T3_] at h17; and_intros <;> omega) | (and_intros <;> omega))
   refine Exists.intro (k + 1) ⟨?_, ?_, ?_⟩
   ·simp at h17; exact ⟨by omega, hI.2⟩
   ·simp at h17; omega
   exact Can.weak (Weak.lit (by simp only [go_sem, seval, al_, ah_, am_, aa_, ac_, hp, hll, a0_, a6_, ar_, leV, ap_, aq_, V.inn, us, T9_, Ta_] <;> (rw [bi_ (by simp at h17; omega) (by simp at h17; omega)]; simp)) (by simp only [go_sem, seval, al_, ah_, am_, aa_, ac_, hp, hll, a0_, a6_, ar_, leV, ap_, aq_, V.inn, us, T9_, Ta_]) (by simp only [go_sem, seval, al_, ah_, am_, aa_, ac_, hp, hll, a0_, a6_, ar_, leV, ap_, aq_, V.inn, us, T9_, Ta_] <;> ((simp only [T3_] at h17); rw [← h8_ (by rw [hll]; omega), cc_ (by rw [List.length_map]; omega), hf1 _ (by omega)])))
  ·refine .exit (.seq (.rgn [x9_ (e6_ l = true) (fun h => wy_ (l.map f) (by have := (rk_ h hf).1; omega) (by have := (rk_ h hf).2; omega))] (by simp only [go_sem, seval, al_, ah_, am_, aa_, ac_, hp, hll, a0_, a6_]; rfl) ?_ ?_))
   ·simp only [T4_] at h17; refine ⟨?_, hI.2⟩; rw [jf_ (by rw [hll]; omega), T1_ (by rw [hll]; exact Nat.le_refl _)]; exact be_ _
   refine .ret ⟨.inr rfl, ?_⟩
   exact Out.plain (by simp only [Tryz.results65]; rfl) (by simp only [az_, bc_, go_sem, seval, al_, ah_, am_, aa_, ac_, hp, hll, a0_, a6_] <;> (split <;> rfl)) (by simp only [bb_, go_sem, seval, al_, ah_, am_, aa_, ac_, hp, hll, a0_, a6_] <;> (simp [hI.2])) (by simp only [go_sem, seval, al_, ah_, am_, aa_, ac_, hp, hll, a0_, a6_])
theorem vw_ (p : Pg) : ACall En 66 [.ag (pgC p)] [] [.s p.text] [] := by
 refine aj_ (fn := Tryz.f66) [] Tryz.func66 rfl rfl (by simp) fun C => ?_
 rw [ay_]
 simp only [Tryz.ntmps66, T7_, List.length_nil, Nat.reduceAdd, Nat.reduceSub, List.replicate_succ, List.replicate_zero, List.cons_append, List.nil_append, bu_]
 refine .seq (.rgn [] (by simp only [go_sem, seval, am_, ac_]; rfl) ?_ ?_)
 ·first | trivial | simp
 refine .seq (.rgn [] (by simp only [go_sem, seval, am_, ac_]; rfl) ?_ ?_)
 ·first | trivial | simp
 refine .ret ⟨.inr rfl, ?_⟩
 exact Out.plain (by simp only [Tryz.results66]; rfl) (by simp only [az_, bc_, go_sem, seval, am_, ac_] <;> (split <;> rfl)) (by simp only [bb_, go_sem, seval, am_, ac_] <;> (simp_all)) (by simp only [go_sem, seval, am_, ac_])
theorem up_ (l : List Pg) (hs : ∀ p ∈ l, pgB p) (hl : l.length ≤ 2000000) : ACall En 12 [.sl false (pgR l)] [] [.s (io_ l)] [] := by
 refine aj_ (fn := Tryz.f12) [] Tryz.func12 rfl rfl (by simp) fun C => ?_
 rw [ay_]
 simp only [Tryz.ntmps12, T7_, List.length_nil, Nat.reduceAdd, Nat.reduceSub, List.replicate_succ, List.replicate_zero, List.cons_append, List.nil_append, bu_]
 refine .seq (.rgn [] (by simp only [go_sem, seval, ah_]; rfl) ?_ ?_)
 ·first | trivial | simp
 refine .seq (.rgn [a8_ (agq_ _ (·.text) vw_ (fun p hp => by rw [(n9_ hp).1]; exact (ja_ _).2) l hs hl)] (by simp only [go_sem, seval, ah_]; rfl) ?_ ?_)
 ·first | trivial | simp
 refine .ret ⟨.inr rfl, ?_⟩
 exact Out.plain (by simp only [Tryz.results12]; rfl) (by simp only [az_, bc_, go_sem, seval, ah_] <;> (split <;> rfl)) (by simp only [bb_, go_sem, seval, ah_] <;> (rfl)) (by simp only [go_sem, seval, ah_])
end
section
set_option maxRecDepth 100000
set_option maxHeartbeats 4000000
theorem ac0_ (p q : Pg) (hp : pgB p) (hq : pgB q) : ACall En 70 [.ag (pgC p), .ag (pgC q)] [] [.b (decide (p = q))] [] := by
 have h1 := hp.2.2
 have h2 := hq.2.2
 refine aj_ (fn := Tryz.f70) [] Tryz.func70 rfl rfl (by simp) fun C => ?_
 rw [ay_]
 simp only [Tryz.ntmps70, T7_, List.length_nil, Nat.reduceAdd, Nat.reduceSub, List.replicate_succ, List.replicate_zero, List.cons_append, List.nil_append, bu_]
 refine .seq (.rgn [] (by simp only [go_sem, seval, am_, ac_, ae_]; rfl) ?_ ?_)
 ·first | trivial | simp
 refine .seq (.seq (.rgn [] (by simp only [go_sem, seval, am_, ac_, ae_]; rfl) ?_ ?_))
 ·first | trivial | simp
 refine .condB (by simp only [go_sem, seval, am_, ac_, ae_]; rfl) (by simp only [go_sem, seval, am_, ac_, ae_]) (fun h33 => ?_) (fun h33 => ?_)
 ·refine .seq (.rgn [] (by simp only [go_sem, seval, am_, ac_, ae_]; rfl) ?_ ?_)
  ·first | trivial | simp
  refine .ret ⟨.inr rfl, ?_⟩
  exact Out.plain (by simp only [Tryz.results70]; rfl) (by simp only [az_, bc_, go_sem, seval, am_, ac_, ae_] <;> (split <;> rfl)) (by simp only [bb_, go_sem, seval, am_, ac_, ae_] <;> (rw [decide_eq_false]; rintro rfl; simp at h33)) (by simp only [go_sem, seval, am_, ac_, ae_])
 ·refine .skip (.seq (.seq (.rgn [] (by simp only [go_sem, seval, am_, ac_, ae_]; rfl) ?_ ?_)))
  ·first | trivial | simp
  refine .block (.loopK (fun k : Nat => ⟨[.no, .no, .pt 12 4 0 0, .pt 13 4 0 0, .no, .i .i64 k, .no, .no, .no, .no, .no, .no, .no, .no, .no, .no, .no, .no, .no, .no, .no, .no, .no, .no, .no, .no, .no, .no, .no, .no, .no, .no, .no, .no, .no, .no, .no, .no, .no, .no, .no, .no, .no, .no, .no, .no, .no, .no, .no, .no, .no, .no], bh_ [(12, ⟨39, 4, [pgC p]⟩), (13, ⟨39, 4, [pgC q]⟩)], us [12, 13]⟩) (fun k : Nat => k ≤ p.frm.length ∧ p.frm.take k = q.frm.take k) (fun k : Nat => p.frm.length - k) (0) ?_ ?_ (fun k hI => ?_))
  ·exact ⟨Nat.zero_le _, rfl⟩
  ·exact Can.weak (Weak.lit (by simp only [go_sem, seval, am_, ac_, ae_, ar_, leV, ap_, aq_, V.inn, us, T9_, Ta_] <;> ((try simp))) (by simp only [go_sem, seval, am_, ac_, ae_, ar_, leV, ap_, aq_, V.inn, us, T9_, Ta_]) (by simp only [go_sem, seval, am_, ac_, ae_, ar_, leV, ap_, aq_, V.inn, us, T9_, Ta_]))
  refine .seq (.seq (.rgn [] (by simp only [go_sem, seval, am_, ac_, ae_]; rfl) ?_ ?_))
  ·first | trivial | simp
  refine .condB (by simp only [go_sem, seval, am_, ac_, ae_]; rfl) (by simp only [go_sem, seval, am_, ac_, ae_]) (fun h38 => ?_) (fun h38 => ?_)
  ·refine .skip (.seq (.block (.seq (.rgnD [] enM (by simp only [go_sem, seval, am_, ac_, ae_, fj_ (show k < p.frm.length by simpa using h38), fj_ (show k < q.frm.length by have e := (n4_ h33).2.2.2; simp only [T3_] at h38; omega)]; rfl) (by rfl) ?_ ?_))))
   ·have e := (n4_ h33).2.2.2; simp only [T3_] at h38; and_intros <;> omega
   refine .condB (by simp only [go_sem, seval, am_, ac_, ae_]; rfl) (by simp only [go_sem, seval, am_, ac_, ae_]) (fun h51 => ?_) (fun h51 => ?_)
   ·refine .seq (.rgn [] (by simp only [go_sem, seval, am_, ac_, ae_]; rfl) ?_ ?_)
    ·first | trivial | simp
    refine .ret ⟨.inr rfl, ?_⟩
    exact Out.plain (by simp only [Tryz.results70]; rfl) (by simp only [az_, bc_, go_sem, seval, am_, ac_, ae_] <;> (split <;> rfl)) (by simp only [bb_, go_sem, seval, am_, ac_, ae_] <;> (rw [decide_eq_false]; rintro rfl; simp at h51)) (by simp only [go_sem, seval, am_, ac_, ae_])
   ·refine .skip (.rgn [] (by simp only [go_sem, seval, am_, ac_, ae_]; rfl) ?_ ?_)
    ·first | trivial | simp
    refine Exists.intro (k + 1) ⟨?_, ?_, ?_⟩
    ·have e := (n4_ h33).2.2.2; simp only [T3_] at h38; exact ⟨by omega, xr_ (d := 0) (by omega) (by omega) hI.2 (bne_eq_false_iff_eq.1 h51)⟩
    ·simp only [T3_] at h38; omega
    exact Can.weak (Weak.lit (by simp only [go_sem, seval, am_, ac_, ae_, ar_, leV, ap_, aq_, V.inn, us, T9_, Ta_] <;> (simp only [T3_] at h38; exact bi_ (n := ((k + 1 : Nat) : Int)) (by omega) (by omega))) (by simp only [go_sem, seval, am_, ac_, ae_, ar_, leV, ap_, aq_, V.inn, us, T9_, Ta_]) (by simp only [go_sem, seval, am_, ac_, ae_, ar_, leV, ap_, aq_, V.inn, us, T9_, Ta_]))
  ·refine .exit (.seq (.rgn [] (by simp only [go_sem, seval, am_, ac_, ae_]; rfl) ?_ ?_))
   ·first | trivial | simp
   refine .ret ⟨.inr rfl, ?_⟩
   exact Out.plain (by simp only [Tryz.results70]; rfl) (by simp only [az_, bc_, go_sem, seval, am_, ac_, ae_] <;> (split <;> rfl)) (by simp only [bb_, go_sem, seval, am_, ac_, ae_] <;> (simp only [T4_] at h38; have e := n4_ h33; have e2 := hI.2; rw [T1_ (by omega), T1_ (by omega)] at e2; rw [decide_eq_true (um_.2 ⟨⟨⟨e.1, e.2.1⟩, e.2.2.1⟩, e2⟩)])) (by simp only [go_sem, seval, am_, ac_, ae_])
theorem aie_ {l : List Pg} {k : Nat} (h : k < l.length) : (l.take (k + 1)).all okP = ((l.take k).all okP && okP (l.getD k Pg0)) := by
 rw [List.take_add_one, T6_ h, List.all_append, T8_, T6_ h]; simp
theorem afi_ {l : List Pg} {k : Nat} (hk : k < l.length) (h : okP (l.getD k Pg0) = false) : e6_ l = false := by
 rw [Bool.eq_false_iff]; intro q
 rw [(ie_ q).2.2 k hk] at h; cases h
theorem ah4_ {p : Pg} (h : (!tOk p.line || decide (((spl p.line).length : Int) > 1) || !decide (p = gn_ p.line)) = false) : okP p = true := by
 rw [u2_, ← Bool.not_and, Bool.not_eq_false'] at h; exact h
theorem ai4_ {p : Pg} (h : (!tOk p.line || decide (((spl p.line).length : Int) > 1) || !decide (p = gn_ p.line)) = true) : okP p = false := by
 rw [u2_, ← Bool.not_and, Bool.not_eq_true'] at h; exact h
theorem bkTk {ls : List Str} {k : Nat} (h : k < ls.length) : pgR ((ls.take (k + 1)).map gn_) = pgR ((ls.take k).map gn_) ++ [pgC (gn_ (ls.getD k []))] := by
 rw [List.take_add_one, T6_ h, T8_, T6_ h, List.map_append]; unfold pgR; rw [List.map_append]; rfl
theorem txTk {f : Pg → Str} {l : List Pg} {k : Nat} (h : k < l.length) : bo_ ((l.take (k + 1)).map f) = bo_ ((l.take k).map f) ++ [[.s (f (l.getD k Pg0))]] := by
 rw [List.take_add_one, T6_ h, T8_, T6_ h, List.map_append]; unfold bo_; rw [List.map_append]; rfl
theorem q7_ (l : List Pg) (hs : ∀ p ∈ l, pgB p) (hl : l.length ≤ 2000000) : ACall En 14 [.sl false (pgR l)] [] [.b (e6_ l)] [] := by
 have hB : ∀ k, k < l.length → pgB (l.getD k Pg0) := fun k h => hs _ (bp_ h)
 refine aj_ (fn := Tryz.f14) [] Tryz.func14 rfl rfl (by simp) fun C => ?_
 rw [ay_]
 simp only [Tryz.ntmps14, T7_, List.length_nil, Nat.reduceAdd, Nat.reduceSub, List.replicate_succ, List.replicate_zero, List.cons_append, List.nil_append, bu_]
 refine .seq (.rgn [] (by simp only [go_sem, seval, al_, ah_, am_, ac_, ab_, aa_]; rfl) ?_ ?_)
 ·first | trivial | simp
 refine .seq (.seq (.rgn [] (by simp only [go_sem, seval, al_, ah_, am_, ac_, ab_, aa_]; rfl) ?_ ?_))
 ·first | trivial | simp
 refine .block (.loopK (fun k : Nat => ⟨[.sl false (pgR l), .no, .no, .i .i64 k, .no, .no, .no, .no, .no, .no, .no, .no, .no, .no, .no, .no, .no, .no, .no, .no, .no, .no, .no, .no, .no, .no, .no, .no, .no, .no, .no, .no, .no, .no, .no, .no, .no, .no, .no, .no, .no, .no, .no, .no, .no, .no, .no, .no, .no], bh_ [], us []⟩) (fun k : Nat => k ≤ l.length ∧ (l.take k).all okP = true) (fun k : Nat => l.length - k) (0) ?_ ?_ (fun k hI => ?_))
 ·exact ⟨Nat.zero_le _, rfl⟩
 ·exact Can.weak (Weak.lit (by simp only [go_sem, seval, al_, ah_, am_, ac_, ab_, aa_, ar_, leV, ap_, aq_, V.inn, us, T9_, Ta_] <;> ((try simp))) (by simp only [go_sem, seval, al_, ah_, am_, ac_, ab_, aa_, ar_, leV, ap_, aq_, V.inn, us, T9_, Ta_]) (by simp only [go_sem, seval, al_, ah_, am_, ac_, ab_, aa_, ar_, leV, ap_, aq_, V.inn, us, T9_, Ta_]))
 refine .seq (.seq (.rgn [] (by simp only [go_sem, seval, al_, ah_, am_, ac_, ab_, aa_]; rfl) ?_ ?_))
 ·first | trivial | simp
 refine .condB (by simp only [go_sem, seval, al_, ah_, am_, ac_, ab_, aa_]; rfl) (by simp only [go_sem, seval, al_, ah_, am_, ac_, ab_, aa_]) (fun h7 => ?_) (fun h7 => ?_)
 ·refine .skip (.seq (.block (.seq (.rgnD [ce_ (k < l.length) (fun h => me_ (l.getD k Pg0).line (by have := (hB k h).1; omega)), ce_ (k < l.length ∧ tOk (l.getD k Pg0).line = true) (fun h => oy_ (l.getD k Pg0).line (l6_ h.2)), ce_ (k < l.length) (fun h => se_ (l.getD k Pg0).line (by have := (hB k h).1; omega)), ce_ (k < l.length) (fun h => ac0_ (l.getD k Pg0) (gn_ (l.getD k Pg0).line) (hB k h) (afk_ (hB k h).1))] enM (by simp only [go_sem, seval, al_, ah_, am_, ac_, ab_, aa_, hm_ (show k < l.length by simpa using h7)]; rfl) (by rfl) ?_ ?_))))
  ·simp only [T3_] at h7; and_intros <;> first | omega | trivial | exact fun h => ⟨h, by omega, by omega⟩ | exact fun h => ⟨h, by omega⟩ | exact fun h => ⟨h, by omega, by simpa using h⟩ | exact fun h => by rw [h]; rfl
  refine .condB (by simp only [go_sem, seval, al_, ah_, am_, ac_, ab_, aa_]; rfl) (by simp only [go_sem, seval, al_, ah_, am_, ac_, ab_, aa_]) (fun h40 => ?_) (fun h40 => ?_)
  ·refine .seq (.rgn [] (by simp only [go_sem, seval, al_, ah_, am_, ac_, ab_, aa_]; rfl) ?_ ?_)
   ·first | trivial | simp
   refine .ret ⟨.inr rfl, ?_⟩
   exact Out.plain (by simp only [Tryz.results14]; rfl) (by simp only [az_, bc_, go_sem, seval, al_, ah_, am_, ac_, ab_, aa_] <;> (split <;> rfl)) (by simp only [bb_, go_sem, seval, al_, ah_, am_, ac_, ab_, aa_] <;> (rw [afi_ (k := k) (by simpa using h7) (ai4_ h40)])) (by simp only [go_sem, seval, al_, ah_, am_, ac_, ab_, aa_])
  ·refine .skip (.rgn [] (by simp only [go_sem, seval, al_, ah_, am_, ac_, ab_, aa_]; rfl) ?_ ?_)
   ·first | trivial | simp
   refine Exists.intro (k + 1) ⟨?_, ?_, ?_⟩
   ·simp at h7; refine ⟨by omega, ?_⟩; rw [aie_ h7, hI.2, ah4_ h40]; rfl
   ·simp at h7; omega
   exact Can.weak (Weak.lit (by simp only [go_sem, seval, al_, ah_, am_, ac_, ab_, aa_, ar_, leV, ap_, aq_, V.inn, us, T9_, Ta_] <;> (rw [bi_ (by simp at h7; omega) (by simp at h7; omega)]; (try simp))) (by simp only [go_sem, seval, al_, ah_, am_, ac_, ab_, aa_, ar_, leV, ap_, aq_, V.inn, us, T9_, Ta_]) (by simp only [go_sem, seval, al_, ah_, am_, ac_, ab_, aa_, ar_, leV, ap_, aq_, V.inn, us, T9_, Ta_]))
 ·refine .exit (.seq (.rgn [] (by simp only [go_sem, seval, al_, ah_, am_, ac_, ab_, aa_]; rfl) ?_ ?_))
  ·first | trivial | simp
  refine .ret ⟨.inr rfl, ?_⟩
  exact Out.plain (by simp only [Tryz.results14]; rfl) (by simp only [az_, bc_, go_sem, seval, al_, ah_, am_, ac_, ab_, aa_] <;> (split <;> rfl)) (by simp only [bb_, go_sem, seval, al_, ah_, am_, ac_, ab_, aa_] <;> (simp only [T4_] at h7; have e := hI.2; rw [T1_ (by omega)] at e; unfold e6_; rw [e]; simp only [e0_, Bool.and_true]; rfl)) (by simp only [go_sem, seval, al_, ah_, am_, ac_, ab_, aa_])
theorem yh_ (s : Str) (hs : s.length ≤ 281474976710656) : ACall En 126 [.s s] [] [.ow 0 4 0 (h3_ s).length] [⟨39, 4, pgR (h3_ s)⟩] := by
 have hL := qd_ s
 have hM := kf_ s
 have hb : h3_ s = if (dc_ s).length ≤ 16 then (dc_ s).map gn_ else [] := rfl
 have T := tb_ s hs
 generalize dc_ s = ls at *
 refine aj_ (fn := Tryz.f126) [60] Tryz.func126 rfl rfl (by simp) fun C => ?_
 rw [ay_]
 simp only [Tryz.ntmps126, T7_, List.length_nil, Nat.reduceAdd, Nat.reduceSub, List.replicate_succ, List.replicate_zero, List.cons_append, List.nil_append, bu_]
 refine .seq (.rgn [] (by simp only [go_sem, seval, ab_, aa_, ah_, al_, am_, ac_]; rfl) ?_ ?_)
 ·(first | trivial | (simp; done) | (simp only [T3_, T4_] at h11 h16; and_intros <;> first | omega | (simp; done) | (simp; omega)))
 refine .seq (.rgn [] (by simp only [go_sem, seval, ab_, aa_, ah_, al_, am_, ac_]; rfl) ?_ ?_)
 ·(first | trivial | (simp; done) | (simp only [T3_, T4_] at h11 h16; and_intros <;> first | omega | (simp; done) | (simp; omega)))
 refine .seq (.rgn [a8_ T] (by simp only [go_sem, seval, ab_, aa_, ah_, al_, am_, ac_]; rfl) ?_ ?_)
 ·(first | trivial | (simp; done) | (simp only [T3_, T4_] at h11 h16; and_intros <;> first | omega | (simp; done) | (simp; omega)))
 refine .seq (.seq (.rgn [] (by simp only [go_sem, seval, ab_, aa_, ah_, al_, am_, ac_]; rfl) ?_ ?_))
 ·(first | trivial | (simp; done) | (simp only [T3_, T4_] at h11 h16; and_intros <;> first | omega | (simp; done) | (simp; omega)))
 refine .condB (by simp only [go_sem, seval, ab_, aa_, ah_, al_, am_, ac_]; rfl) (by simp only [go_sem, seval, ab_, aa_, ah_, al_, am_, ac_]) (fun h11 => ?_) (fun h11 => ?_)
 ·refine .seq (.rgn [] (by simp only [go_sem, seval, ab_, aa_, ah_, al_, am_, ac_]; rfl) ?_ ?_)
  ·(first | trivial | (simp; done) | (simp only [T3_, T4_] at h11 h16; and_intros <;> first | omega | (simp; done) | (simp; omega)))
  refine .can (Can.ownSlot 2 60 39 4 (by simp only [go_sem, seval, ab_, aa_, ah_, al_, am_, ac_] <;> rfl) (by simp only [go_sem, seval, ab_, aa_, ah_, al_, am_, ac_]) (by simp only [go_sem, seval, ab_, aa_, ah_, al_, am_, ac_] <;> rfl)) ?_
  refine .ret ⟨.inr rfl, ?_⟩
  exact Out.mem' (by simp only [Tryz.results126]; rfl) (by simp only [az_, bc_, go_sem, seval, ab_, aa_, ah_, al_, am_, ac_]) (by simp only [bb_, rns, rn, go_sem, seval, ab_, aa_, ah_, al_, am_, ac_] <;> (rw [show h3_ s = [] by rw [hb, if_neg (by simp at h11; omega)]]; rfl)) (by simp) rfl (by decide) (by simp only [go_sem, seval, ab_, aa_, ah_, al_, am_, ac_]) (by simp only [ao_, go_sem, seval, ab_, aa_, ah_, al_, am_, ac_]) (by simp only [ai_, go_sem, seval, ab_, aa_, ah_, al_, am_, ac_] <;> (rw [show h3_ s = [] by rw [hb, if_neg (by simp at h11; omega)]]; rfl))
 ·refine .skip (.seq (.seq (.rgn [] (by simp only [go_sem, seval, ab_, aa_, ah_, al_, am_, ac_]; rfl) ?_ ?_)))
  ·(first | trivial | (simp; done) | (simp only [T3_, T4_] at h11 h16; and_intros <;> first | omega | (simp; done) | (simp; omega)))
  refine .block (.loopK (fun k : Nat => ⟨[.no, .no, .no, .ow 60 4 0 k, .sl false (bo_ ls), .i .i64 k, .no, .no, .no, .no, .no, .no, .no, .no, .no, .no, .no, .no, .no, .no, .no, .no, .no, .no, .no, .no, .no, .no], bh_ [(60, ⟨39, 4, pgR ((ls.take k).map gn_)⟩)], us [60]⟩) (fun k : Nat => k ≤ ls.length) (fun k : Nat => ls.length - k) (0) ?_ ?_ (fun k hI => ?_))
  ·simp
  ·refine Can.trans (Can.ownSlot 3 60 39 4 (by simp only [go_sem, seval, ab_, aa_, ah_, al_, am_, ac_] <;> rfl) (by simp only [go_sem, seval, ab_, aa_, ah_, al_, am_, ac_]) (by simp only [go_sem, seval, ab_, aa_, ah_, al_, am_, ac_] <;> rfl)) ?_
   exact Can.weak (Weak.lit (by simp only [go_sem, seval, ab_, aa_, ah_, al_, am_, ac_, ar_, leV, ap_, aq_, V.inn, us, T9_, Ta_] <;> ((try simp))) (by simp only [go_sem, seval, ab_, aa_, ah_, al_, am_, ac_, ar_, leV, ap_, aq_, V.inn, us, T9_, Ta_]) (by simp only [go_sem, seval, ab_, aa_, ah_, al_, am_, ac_, ar_, leV, ap_, aq_, V.inn, us, T9_, Ta_] <;> ((try simp [pgR]))))
  refine .seq (.seq (.rgn [] (by simp only [go_sem, seval, ab_, aa_, ah_, al_, am_, ac_]; rfl) ?_ ?_))
  ·(first | trivial | (simp; done) | (simp only [T3_, T4_] at h11 h16; and_intros <;> first | omega | (simp; done) | (simp; omega)))
  refine .condB (by simp only [go_sem, seval, ab_, aa_, ah_, al_, am_, ac_]; rfl) (by simp only [go_sem, seval, ab_, aa_, ah_, al_, am_, ac_]) (fun h16 => ?_) (fun h16 => ?_)
  ·refine .skip (.seq (.block (.rgn [ce_ (k < ls.length) (fun h => se_ (ls.getD k []) (by have := hM _ (bp_ (d := []) h); omega))] (by simp only [go_sem, seval, ab_, aa_, ah_, al_, am_, ac_, cc_ (show k < ls.length by simpa using h16)]; rfl) ?_ ?_)))
   ·(first | trivial | (simp; done) | (simp only [T3_, T4_] at h11 h16; and_intros <;> first | omega | (simp; done) | (simp; omega)))
   refine .rgn [] (by simp only [go_sem, seval, ab_, aa_, ah_, al_, am_, ac_]; rfl) ?_ ?_
   ·(first | trivial | (simp; done) | (simp only [T3_, T4_] at h11 h16; and_intros <;> first | omega | (simp; done) | (simp; omega)))
   refine Exists.intro (k + 1) ⟨?_, ?_, ?_⟩
   ·simp at h16; omega
   ·simp at h16; omega
   refine Can.trans (Can.swap 36 60 (by decide) (by decide) (by decide) (by decide) (by simp only [go_sem, seval, ab_, aa_, ah_, al_, am_, ac_, V.cl]) (by simp only [go_sem, seval, ab_, aa_, ah_, al_, am_, ac_, V.cl]) (by simp only [go_sem, seval, ab_, aa_, ah_, al_, am_, ac_, bj_, sw, swM, rnB] <;> rfl) (by simp only [go_sem, seval, ab_, aa_, ah_, al_, am_, ac_, bj_, sw, swM, rnB] <;> rfl) (by simp only [go_sem, seval, ab_, aa_, ah_, al_, am_, ac_, bj_, sw, swM, rnB] <;> rfl)) ?_
   exact Can.weak (Weak.lit (by simp only [go_sem, seval, ab_, aa_, ah_, al_, am_, ac_, ar_, leV, ap_, aq_, V.inn, us, T9_, Ta_] <;> (rw [bi_ (by simp at h16; omega) (by simp at h16; omega)]; (try simp))) (by simp only [go_sem, seval, ab_, aa_, ah_, al_, am_, ac_, ar_, leV, ap_, aq_, V.inn, us, T9_, Ta_]) (by simp only [go_sem, seval, ab_, aa_, ah_, al_, am_, ac_, ar_, leV, ap_, aq_, V.inn, us, T9_, Ta_] <;> (rw [bkTk (by simpa using h16), am_])))
  ·refine .exit (.seq (.rgn [] (by simp only [go_sem, seval, ab_, aa_, ah_, al_, am_, ac_]; rfl) ?_ ?_))
   ·(first | trivial | (simp; done) | (simp only [T3_, T4_] at h11 h16; and_intros <;> first | omega | (simp; done) | (simp; omega)))
   refine .ret ⟨.inr rfl, ?_⟩
   exact Out.mem' (by simp only [Tryz.results126]; rfl) (by simp only [az_, bc_, go_sem, seval, ab_, aa_, ah_, al_, am_, ac_]) (by simp only [bb_, rns, rn, go_sem, seval, ab_, aa_, ah_, al_, am_, ac_] <;> (simp only [T4_] at h11 h16; rw [show h3_ s = ls.map gn_ by rw [hb, if_pos (by omega)], List.length_map, show k = ls.length by omega])) (by simp) rfl (by decide) (by simp only [go_sem, seval, ab_, aa_, ah_, al_, am_, ac_]) (by simp only [ao_, go_sem, seval, ab_, aa_, ah_, al_, am_, ac_]) (by simp only [ai_, go_sem, seval, ab_, aa_, ah_, al_, am_, ac_] <;> (simp only [T4_] at h11 h16; rw [show h3_ s = ls.map gn_ by rw [hb, if_pos (by omega)], T1_ (show ls.length ≤ k by omega)]))
def fTx (f : Pg → Str) (l : List Pg) : List Str := if e6_ l then l.map f else []
theorem al2_ {f : Pg → Str} {l : List Pg} (hf : ∀ p, okP p = true → (f p).length ≤ 120) : (cf_ (fTx f l)).length ≤ 3000 ∧ (fTx f l).length ≤ 16 := by
 unfold fTx
 split
 ·rename_i h
  have h1 := (ie_ h).2.1
  have := ri_ (l := l.map f) (k := 120) fun s hs => by
   obtain ⟨p, hp, rfl⟩ := List.mem_map.1 hs
   exact hf p (k4_ h p hp)
  rw [List.length_map] at this
  have := Nat.mul_le_mul_right 121 h1
  exact ⟨by omega, by rw [List.length_map]; exact h1⟩
 ·simp [ko_]
theorem amf_ (f : Pg → Str) (l : List Pg) : cf_ (fTx f l) = if e6_ l then cf_ (l.map f) else [] := by
 unfold fTx; split <;> rfl
theorem txE {f : Pg → Str} {l : List Pg} {k : Nat} (hk : k ≤ l.length) (h : e6_ l = true ∨ k = 0) (h2 : (decide ((k : Int) < l.length) && e6_ l) = false) : (l.take k).map f = fTx f l := by
 unfold fTx
 cases hb : e6_ l with
 | true =>
  rw [hb] at h2
  simp at h2
  rw [if_pos rfl, T1_ h2]
 | false =>
  rw [hb] at h
  obtain rfl : k = 0 := by simpa using h
  simp
theorem txJ {f : Pg → Str} {l : List Pg} {k : Nat} (hk : k ≤ l.length) (h : e6_ l = true ∨ k = 0) (h2 : (decide ((k : Int) < l.length) && e6_ l) = false) : leV (if k ≤ ((l.take k).map f).length then V.sl false ((bo_ ((l.take k).map f)).take k) else V.no) (V.sl false (bo_ (fTx f l))) := by
 rw [if_pos (by simp; omega), T1_ (by rw [ab_, List.length_map, List.length_take]; exact Nat.min_le_left _ _), txE hk h h2]
 exact ⟨fun h => h, be_ _⟩
theorem nh_ (l : List Pg) (hs : ∀ p ∈ l, pgB p) (hl : l.length ≤ 2000000) : ACall En 13 [.sl false (pgR l)] [] [.s (io_ l)] [] := by
 have hT := al2_ (f := (·.text)) (l := l) (fun p hp => by rw [(n9_ hp).1]; exact (ja_ _).2)
 have hX : io_ l = cf_ (fTx (·.text) l) := by rw [amf_]; rfl
 refine aj_ (fn := Tryz.f13) [] Tryz.func13 rfl rfl (by simp) fun C => ?_
 rw [ay_]
 simp only [Tryz.ntmps13, T7_, List.length_nil, Nat.reduceAdd, Nat.reduceSub, List.replicate_succ, List.replicate_zero, List.cons_append, List.nil_append, bu_]
 refine .seq (.rgn [] (by simp only [go_sem, seval, al_, ah_, am_, ac_, aa_, ab_]; rfl) ?_ ?_)
 ·(first | trivial | (simp; done) | (simp only [T5_, T3_] at h13; and_intros <;> first | omega | (simp; done) | (simp; omega)))
 refine .seq (.rgn [] (by simp only [go_sem, seval, al_, ah_, am_, ac_, aa_, ab_]; rfl) ?_ ?_)
 ·(first | trivial | (simp; done) | (simp only [T5_, T3_] at h13; and_intros <;> first | omega | (simp; done) | (simp; omega)))
 refine .seqJ (fun u : Unit => ⟨[.no, .no, .no, .sl false (bo_ (fTx (·.text) l)), .no, .no, .no, .no, .no, .no, .no, .no, .no, .no, .no, .no, .no, .no, .no, .no, .no, .no, .no, .no, .no, .no], bh_ [], us []⟩) (fun u : Unit => True) ?_ (fun u hJ => ?_)
 ·refine .seq (.rgn [] (by simp only [go_sem, seval, al_, ah_, am_, ac_, aa_, ab_]; rfl) ?_ ?_)
  ·(first | trivial | (simp; done) | (simp only [T5_, T3_] at h13; and_intros <;> first | omega | (simp; done) | (simp; omega)))
  refine .block (.loopK (fun k : Nat => ⟨[.sl false (pgR l), .no, .no, .ow 60 1 0 k, .i .i64 k, .no, .no, .no, .no, .no, .no, .no, .no, .no, .no, .no, .no, .no, .no, .no, .no, .no, .no, .no, .no, .no], bh_ [(60, ⟨9, 1, bo_ ((l.take k).map (·.text))⟩)], us [60]⟩) (fun k : Nat => k ≤ l.length ∧ (e6_ l = true ∨ k = 0)) (fun k : Nat => l.length - k) (0) ?_ ?_ (fun k hI => ?_))
  ·exact ⟨Nat.zero_le _, .inr rfl⟩
  ·refine Can.trans (Can.ownSlot 3 60 9 1 (by simp only [go_sem, seval, al_, ah_, am_, ac_, aa_, ab_] <;> rfl) (by simp only [go_sem, seval, al_, ah_, am_, ac_, aa_, ab_]) (by simp only [go_sem, seval, al_, ah_, am_, ac_, aa_, ab_] <;> rfl)) ?_
   exact Can.weak (Weak.lit (by simp only [go_sem, seval, al_, ah_, am_, ac_, aa_, ab_, ar_, leV, ap_, aq_, V.inn, us, T9_, Ta_] <;> ((try simp))) (by simp only [go_sem, seval, al_, ah_, am_, ac_, aa_, ab_, ar_, leV, ap_, aq_, V.inn, us, T9_, Ta_]) (by simp only [go_sem, seval, al_, ah_, am_, ac_, aa_, ab_, ar_, leV, ap_, aq_, V.inn, us, T9_, Ta_] <;> ((try simp [bo_]))))
  refine .seq (.seq (.rgn [a8_ (q7_ l hs hl)] (by simp only [go_sem, seval, al_, ah_, am_, ac_, aa_, ab_]; rfl) ?_ ?_))
  ·(first | trivial | (simp; done) | (simp only [T5_, T3_] at h13; and_intros <;> first | omega | (simp; done) | (simp; omega)))
  refine .condB (by simp only [go_sem, seval, al_, ah_, am_, ac_, aa_, ab_]; rfl) (by simp only [go_sem, seval, al_, ah_, am_, ac_, aa_, ab_]) (fun h13 => ?_) (fun h13 => ?_)
  ·refine .skip (.seq (.block (.rgn [] (by simp only [go_sem, seval, al_, ah_, am_, ac_, aa_, ab_, hm_ (show k < l.length by simp at h13; omega)]; rfl) ?_ ?_)))
   ·(first | trivial | (simp; done) | (simp only [T5_, T3_] at h13; and_intros <;> first | omega | (simp; done) | (simp; omega)))
   refine .rgn [] (by simp only [go_sem, seval, al_, ah_, am_, ac_, aa_, ab_]; rfl) ?_ ?_
   ·(first | trivial | (simp; done) | (simp only [T5_, T3_] at h13; and_intros <;> first | omega | (simp; done) | (simp; omega)))
   refine Exists.intro (k + 1) ⟨?_, ?_, ?_⟩
   ·simp at h13; exact ⟨by omega, .inl h13.2⟩
   ·simp at h13; omega
   refine Can.trans (Can.swap 33 60 (by decide) (by decide) (by decide) (by decide) (by simp only [go_sem, seval, al_, ah_, am_, ac_, aa_, ab_, V.cl]) (by simp only [go_sem, seval, al_, ah_, am_, ac_, aa_, ab_, V.cl]) (by simp only [go_sem, seval, al_, ah_, am_, ac_, aa_, ab_, bj_, sw, swM, rnB] <;> rfl) (by simp only [go_sem, seval, al_, ah_, am_, ac_, aa_, ab_, bj_, sw, swM, rnB] <;> rfl) (by simp only [go_sem, seval, al_, ah_, am_, ac_, aa_, ab_, bj_, sw, swM, rnB] <;> rfl)) ?_
   exact Can.weak (Weak.lit (by simp only [go_sem, seval, al_, ah_, am_, ac_, aa_, ab_, ar_, leV, ap_, aq_, V.inn, us, T9_, Ta_] <;> (rw [bi_ (by simp at h13; omega) (by simp at h13; omega)]; (try simp))) (by simp only [go_sem, seval, al_, ah_, am_, ac_, aa_, ab_, ar_, leV, ap_, aq_, V.inn, us, T9_, Ta_]) (by simp only [go_sem, seval, al_, ah_, am_, ac_, aa_, ab_, ar_, leV, ap_, aq_, V.inn, us, T9_, Ta_] <;> (simp at h13; rw [txTk h13.1])))
  ·refine .exit ?_
   refine Exists.intro (()) ⟨?_, ?_⟩
   ·trivial
   refine Can.trans (Can.frz 60 (by simp only [go_sem, seval, al_, ah_, am_, ac_, aa_, ab_] <;> rfl) (by simp only [go_sem, seval, al_, ah_, am_, ac_, aa_, ab_]) (by simp only [go_sem, seval, al_, ah_, am_, ac_, aa_, ab_] <;> rfl) (by simp only [go_sem, seval, al_, ah_, am_, ac_, aa_, ab_] <;> rfl)) ?_
   exact Can.weak (Weak.lit (by simp only [go_sem, seval, al_, ah_, am_, ac_, aa_, ab_, ar_, leV, ap_, aq_, V.inn, us, T9_, Ta_] <;> (exact txJ hI.1 hI.2 h13)) (by simp only [go_sem, seval, al_, ah_, am_, ac_, aa_, ab_, ar_, leV, ap_, aq_, V.inn, us, T9_, Ta_]) (by simp only [go_sem, seval, al_, ah_, am_, ac_, aa_, ab_, ar_, leV, ap_, aq_, V.inn, us, T9_, Ta_]))
 refine .seq (.rgn [a8_ (ni_ (fTx (·.text) l) (by omega) (by omega))] (by simp only [go_sem, seval, al_, ah_, am_, ac_, aa_, ab_]; rfl) ?_ ?_)
 ·(first | trivial | (simp; done) | (simp only [T5_, T3_] at h13; and_intros <;> first | omega | (simp; done) | (simp; omega)))
 refine .ret ⟨.inr rfl, ?_⟩
 exact Out.plain (by simp only [Tryz.results13]; rfl) (by simp only [az_, bc_, go_sem, seval, al_, ah_, am_, ac_, aa_, ab_] <;> (split <;> rfl)) (by simp only [bb_, go_sem, seval, al_, ah_, am_, ac_, aa_, ab_] <;> (rw [hX])) (by simp only [go_sem, seval, al_, ah_, am_, ac_, aa_, ab_])
end
section
set_option maxRecDepth 100000
set_option maxHeartbeats 4000000
end
end Go.Proofs.YtcigkafioinfoaaGreatDoor
