/- Books: what the program's tell. Conditions: none. -/
import Derived.Test.YtpikbndepapbhabGreatDoorK12
import Derived.Test.YtpikbndepapbhabGreatDoorK1
import Derived.Test.YtpikbndepapbhabGreatDoorK4
set_option linter.unusedVariables false
set_option linter.unusedSimpArgs false
namespace Go.Proofs.YtpikbndepapbhabGreatDoor
section
set_option maxRecDepth 100000
set_option maxHeartbeats 4000000
theorem q0_ {l : List Pg} {f : Pg → Str} (h : gc_ l = true) (hf : ∀ p, okP p = true → (f p).length ≤ 120) : (cj_ (l.map f)).length ≤ 3000 ∧ (l.map f).length ≤ 16 := by
 have h1 := (mo_ h).2.1
 have := ah8_ (l := l.map f) (k := 120) fun s hs => by
  obtain ⟨p, hp, rfl⟩ := List.mem_map.1 hs
  exact hf p (ua_ h p hp)
 rw [List.length_map] at this
 have := Nat.mul_le_mul_right 121 h1
 exact ⟨by omega, by rw [List.length_map]; exact h1⟩
theorem to_ (F : Nat) (f : Pg → Str) (hF : ∀ p : Pg, ACall En F [.ag (pgC p)] [] [.s (f p)] []) (hf : ∀ p, okP p = true → (f p).length ≤ 120) (l : List Pg) (hs : ∀ p ∈ l, pgB p) (hl : l.length ≤ 2000000) : ACall En 101 [.sl false (pgR l), .fn (.func F) [] []] [] [.s (if gc_ l then cj_ (l.map f) else [])] [] := by
 have hp : ∀ k, b3_ (ds_ (bl_ (l.map f)) [.s []] k) = true := fun k => fn_ (aa_ _) rfl
 have hll : (bl_ (l.map f)).length = l.length := by simp [bl_]
 have hf1 : ∀ k, k < l.length → (l.map f).getD k [] = f (l.getD k Pg0) := fun k h => by simp [T8_, T6_ h]
 refine ak_ (fn := Tryz.f101) [] Tryz.func101 rfl rfl (by simp) fun C => ?_
 rw [aw_]
 simp only [Tryz.ntmps101, T7_, List.length_nil, Nat.reduceAdd, Nat.reduceSub, List.replicate_succ, List.replicate_zero, List.cons_append, List.nil_append, bk_]
 refine .seq (.rgn [] (by simp only [go_sem, seval, al_, ah_, ag_, aa_, ab_, hp, hll, at_, a0_]; rfl) ?_ ?_)
 ·(first | trivial | (simp; done) | (simp only [T3_] at h17; and_intros <;> omega) | (and_intros <;> omega))
 refine .seq (.seq (.rgn [a3_ (qe_ l hs hl)] (by simp only [go_sem, seval, al_, ah_, ag_, aa_, ab_, hp, hll, at_, a0_]; rfl) ?_ ?_))
 ·(first | trivial | (simp; done) | (simp only [T3_] at h17; and_intros <;> omega) | (and_intros <;> omega))
 refine .condB (by simp only [go_sem, seval, al_, ah_, ag_, aa_, ab_, hp, hll, at_, a0_]; rfl) (by simp only [go_sem, seval, al_, ah_, ag_, aa_, ab_, hp, hll, at_, a0_]) (fun h10 => ?_) (fun h10 => ?_)
 ·refine .seq (.rgn [] (by simp only [go_sem, seval, al_, ah_, ag_, aa_, ab_, hp, hll, at_, a0_]; rfl) ?_ ?_)
  ·(first | trivial | (simp; done) | (simp only [T3_] at h17; and_intros <;> omega) | (and_intros <;> omega))
  refine .ret ⟨.inr rfl, ?_⟩
  exact Out.plain (by simp only [Tryz.results101]; rfl) (by simp only [av_, a5_, go_sem, seval, al_, ah_, ag_, aa_, ab_, hp, hll, at_, a0_] <;> (split <;> rfl)) (by simp only [a2_, go_sem, seval, al_, ah_, ag_, aa_, ab_, hp, hll, at_, a0_] <;> (simp at h10; simp [h10])) (by simp only [go_sem, seval, al_, ah_, ag_, aa_, ab_, hp, hll, at_, a0_])
 ·refine .skip (.seq (.rgn [] (by simp only [go_sem, seval, al_, ah_, ag_, aa_, ab_, hp, hll, at_, a0_]; rfl) ?_ ?_))
  ·(first | trivial | (simp; done) | (simp only [T3_] at h17; and_intros <;> omega) | (and_intros <;> omega))
  refine .seq (.seq (.rgn [] (by simp only [go_sem, seval, al_, ah_, ag_, aa_, ab_, hp, hll, at_, a0_]; rfl) ?_ ?_))
  ·(first | trivial | (simp; done) | (simp only [T3_] at h17; and_intros <;> omega) | (and_intros <;> omega))
  refine .block (.loopK (fun k : Nat => ⟨[.no, .fn (.func F) [] [], .no, .no, .no, .ow 23 1 0 l.length, .no, .no, .no, .no, .no, .no, .no, .no, .sl false (pgR l), .i .i64 l.length, .i .i64 k, .no, .no, .no, .no, .no, .no, .no, .no, .no, .no, .no, .no, .no], be_ [(23, ⟨9, 1, ds_ (bl_ (l.map f)) [.s []] k⟩)], us [23]⟩) (fun k : Nat => k ≤ l.length ∧ gc_ l = true) (fun k : Nat => l.length - k) (0) ?_ ?_ (fun k hI => ?_))
  ·exact ⟨by simp, by simpa using h10⟩
  ·exact Can.weak (Weak.lit (by simp only [go_sem, seval, al_, ah_, ag_, aa_, ab_, hp, hll, at_, a0_, as_, leV, aq_, ar_, V.inn, us, T9_, Ta_] <;> (simp)) (by simp only [go_sem, seval, al_, ah_, ag_, aa_, ab_, hp, hll, at_, a0_, as_, leV, aq_, ar_, V.inn, us, T9_, Ta_]) (by simp only [go_sem, seval, al_, ah_, ag_, aa_, ab_, hp, hll, at_, a0_, as_, leV, aq_, ar_, V.inn, us, T9_, Ta_] <;> (simp [fp_, hll])))
  refine .seq (.rgn [] (by simp only [go_sem, seval, al_, ah_, ag_, aa_, ab_, hp, hll, at_, a0_]; rfl) ?_ ?_)
  ·(first | trivial | (simp; done) | (simp only [T3_] at h17; and_intros <;> omega) | (and_intros <;> omega))
  refine .seq (.condB (by simp only [go_sem, seval, al_, ah_, ag_, aa_, ab_, hp, hll, at_, a0_]; rfl) (by simp only [go_sem, seval, al_, ah_, ag_, aa_, ab_, hp, hll, at_, a0_]) (fun h17 => ?_) (fun h17 => ?_))
  ·refine .skip (.seq (.block (.seq (.rgn [] (by simp only [go_sem, seval, al_, ah_, ag_, aa_, ab_, hp, hll, at_, a0_, dt_ (show k < l.length by simpa using h17)]; rfl) ?_ ?_))))
   ·(first | trivial | (simp; done) | (simp only [T3_] at h17; and_intros <;> omega) | (and_intros <;> omega))
   refine .rgn [by_ (k < l.length) (fun h => hF (l.getD k Pg0))] (by simp only [go_sem, seval, al_, ah_, ag_, aa_, ab_, hp, hll, at_, a0_]; rfl) ?_ ?_
   ·(first | trivial | (simp; done) | (simp only [T3_] at h17; and_intros <;> omega) | (and_intros <;> omega))
   refine .rgn [] (by simp only [go_sem, seval, al_, ah_, ag_, aa_, ab_, hp, hll, at_, a0_]; rfl) ?_ ?_
   ·(first | trivial | (simp; done) | (simp only [T3_] at h17; and_intros <;> omega) | (and_intros <;> omega))
   refine Exists.intro (k + 1) ⟨?_, ?_, ?_⟩
   ·simp at h17; exact ⟨by omega, hI.2⟩
   ·simp at h17; omega
   exact Can.weak (Weak.lit (by simp only [go_sem, seval, al_, ah_, ag_, aa_, ab_, hp, hll, at_, a0_, as_, leV, aq_, ar_, V.inn, us, T9_, Ta_] <;> (rw [bg_ (by simp at h17; omega) (by simp at h17; omega)]; simp)) (by simp only [go_sem, seval, al_, ah_, ag_, aa_, ab_, hp, hll, at_, a0_, as_, leV, aq_, ar_, V.inn, us, T9_, Ta_]) (by simp only [go_sem, seval, al_, ah_, ag_, aa_, ab_, hp, hll, at_, a0_, as_, leV, aq_, ar_, V.inn, us, T9_, Ta_] <;> ((simp only [T3_] at h17); rw [← f4_ (by rw [hll]; omega), cc_ (by rw [List.length_map]; omega), hf1 _ (by omega)])))
  ·refine .exit (.seq (.rgn [xa_ (gc_ l = true) (fun h => t3_ (l.map f) (by have := (q0_ h hf).1; omega) (by have := (q0_ h hf).2; omega))] (by simp only [go_sem, seval, al_, ah_, ag_, aa_, ab_, hp, hll, at_, a0_]; rfl) ?_ ?_))
   ·simp only [T4_] at h17; refine ⟨?_, hI.2⟩; rw [gu_ (by rw [hll]; omega), T1_ (by rw [hll]; exact Nat.le_refl _)]; exact bd_ _
   refine .ret ⟨.inr rfl, ?_⟩
   exact Out.plain (by simp only [Tryz.results101]; rfl) (by simp only [av_, a5_, go_sem, seval, al_, ah_, ag_, aa_, ab_, hp, hll, at_, a0_] <;> (split <;> rfl)) (by simp only [a2_, go_sem, seval, al_, ah_, ag_, aa_, ab_, hp, hll, at_, a0_] <;> (simp [hI.2])) (by simp only [go_sem, seval, al_, ah_, ag_, aa_, ab_, hp, hll, at_, a0_])
theorem ud_ (p : Pg) : ACall En 103 [.ag (pgC p)] [] [.s p.line] [] := by
 refine ak_ (fn := Tryz.f103) [] Tryz.func103 rfl rfl (by simp) fun C => ?_
 rw [aw_]
 simp only [Tryz.ntmps103, T7_, List.length_nil, Nat.reduceAdd, Nat.reduceSub, List.replicate_succ, List.replicate_zero, List.cons_append, List.nil_append, bk_]
 refine .seq (.rgn [] (by simp only [go_sem, seval, ag_, ab_]; rfl) ?_ ?_)
 ·first | trivial | simp
 refine .seq (.rgn [] (by simp only [go_sem, seval, ag_, ab_]; rfl) ?_ ?_)
 ·first | trivial | simp
 refine .ret ⟨.inr rfl, ?_⟩
 exact Out.plain (by simp only [Tryz.results103]; rfl) (by simp only [av_, a5_, go_sem, seval, ag_, ab_] <;> (split <;> rfl)) (by simp only [a2_, go_sem, seval, ag_, ab_] <;> (simp_all)) (by simp only [go_sem, seval, ag_, ab_])
theorem vs_ (p : Pg) : ACall En 102 [.ag (pgC p)] [] [.s p.text] [] := by
 refine ak_ (fn := Tryz.f102) [] Tryz.func102 rfl rfl (by simp) fun C => ?_
 rw [aw_]
 simp only [Tryz.ntmps102, T7_, List.length_nil, Nat.reduceAdd, Nat.reduceSub, List.replicate_succ, List.replicate_zero, List.cons_append, List.nil_append, bk_]
 refine .seq (.rgn [] (by simp only [go_sem, seval, ag_, ab_]; rfl) ?_ ?_)
 ·first | trivial | simp
 refine .seq (.rgn [] (by simp only [go_sem, seval, ag_, ab_]; rfl) ?_ ?_)
 ·first | trivial | simp
 refine .ret ⟨.inr rfl, ?_⟩
 exact Out.plain (by simp only [Tryz.results102]; rfl) (by simp only [av_, a5_, go_sem, seval, ag_, ab_] <;> (split <;> rfl)) (by simp only [a2_, go_sem, seval, ag_, ab_] <;> (simp_all)) (by simp only [go_sem, seval, ag_, ab_])
theorem vr_ (l : List Pg) (hs : ∀ p ∈ l, pgB p) (hl : l.length ≤ 2000000) : ACall En 50 [.sl false (pgR l)] [] [.s (vz_ l)] [] := by
 refine ak_ (fn := Tryz.f50) [] Tryz.func50 rfl rfl (by simp) fun C => ?_
 rw [aw_]
 simp only [Tryz.ntmps50, T7_, List.length_nil, Nat.reduceAdd, Nat.reduceSub, List.replicate_succ, List.replicate_zero, List.cons_append, List.nil_append, bk_]
 refine .seq (.rgn [] (by simp only [go_sem, seval, ah_]; rfl) ?_ ?_)
 ·first | trivial | simp
 refine .seq (.rgn [a3_ (to_ _ (·.line) ud_ (fun p hp => (rr_ (ox_ hp).1).2) l hs hl)] (by simp only [go_sem, seval, ah_]; rfl) ?_ ?_)
 ·first | trivial | simp
 refine .ret ⟨.inr rfl, ?_⟩
 exact Out.plain (by simp only [Tryz.results50]; rfl) (by simp only [av_, a5_, go_sem, seval, ah_] <;> (split <;> rfl)) (by simp only [a2_, go_sem, seval, ah_] <;> (rfl)) (by simp only [go_sem, seval, ah_])
theorem um_ (l : List Pg) (hs : ∀ p ∈ l, pgB p) (hl : l.length ≤ 2000000) : ACall En 48 [.sl false (pgR l)] [] [.s (w5_ l)] [] := by
 refine ak_ (fn := Tryz.f48) [] Tryz.func48 rfl rfl (by simp) fun C => ?_
 rw [aw_]
 simp only [Tryz.ntmps48, T7_, List.length_nil, Nat.reduceAdd, Nat.reduceSub, List.replicate_succ, List.replicate_zero, List.cons_append, List.nil_append, bk_]
 refine .seq (.rgn [] (by simp only [go_sem, seval, ah_]; rfl) ?_ ?_)
 ·first | trivial | simp
 refine .seq (.rgn [a3_ (to_ _ (·.text) vs_ (fun p hp => by rw [(xz_ hp).1]; exact (pu_ _).2) l hs hl)] (by simp only [go_sem, seval, ah_]; rfl) ?_ ?_)
 ·first | trivial | simp
 refine .ret ⟨.inr rfl, ?_⟩
 exact Out.plain (by simp only [Tryz.results48]; rfl) (by simp only [av_, a5_, go_sem, seval, ah_] <;> (split <;> rfl)) (by simp only [a2_, go_sem, seval, ah_] <;> (rfl)) (by simp only [go_sem, seval, ah_])
end
section
set_option maxRecDepth 100000
set_option maxHeartbeats 4000000
theorem zn_ (p q : Pg) (hp : pgB p) (hq : pgB q) : ACall En 96 [.ag (pgC p), .ag (pgC q)] [] [.b (decide (p = q))] [] := by
 have h1 := hp.2.2
 have h2 := hq.2.2
 refine ak_ (fn := Tryz.f96) [] Tryz.func96 rfl rfl (by simp) fun C => ?_
 rw [aw_]
 simp only [Tryz.ntmps96, T7_, List.length_nil, Nat.reduceAdd, Nat.reduceSub, List.replicate_succ, List.replicate_zero, List.cons_append, List.nil_append, bk_]
 refine .seq (.rgn [] (by simp only [go_sem, seval, ag_, ab_, ad_]; rfl) ?_ ?_)
 ·first | trivial | simp
 refine .seq (.seq (.rgn [] (by simp only [go_sem, seval, ag_, ab_, ad_]; rfl) ?_ ?_))
 ·first | trivial | simp
 refine .condB (by simp only [go_sem, seval, ag_, ab_, ad_]; rfl) (by simp only [go_sem, seval, ag_, ab_, ad_]) (fun h33 => ?_) (fun h33 => ?_)
 ·refine .seq (.rgn [] (by simp only [go_sem, seval, ag_, ab_, ad_]; rfl) ?_ ?_)
  ·first | trivial | simp
  refine .ret ⟨.inr rfl, ?_⟩
  exact Out.plain (by simp only [Tryz.results96]; rfl) (by simp only [av_, a5_, go_sem, seval, ag_, ab_, ad_] <;> (split <;> rfl)) (by simp only [a2_, go_sem, seval, ag_, ab_, ad_] <;> (rw [decide_eq_false]; rintro rfl; simp at h33)) (by simp only [go_sem, seval, ag_, ab_, ad_])
 ·refine .skip (.seq (.seq (.rgn [] (by simp only [go_sem, seval, ag_, ab_, ad_]; rfl) ?_ ?_)))
  ·first | trivial | simp
  refine .block (.loopK (fun k : Nat => ⟨[.no, .no, .pt 12 4 0 0, .pt 13 4 0 0, .no, .i .i64 k, .no, .no, .no, .no, .no, .no, .no, .no, .no, .no, .no, .no, .no, .no, .no, .no, .no, .no, .no, .no, .no, .no, .no, .no, .no, .no, .no, .no, .no, .no, .no, .no, .no, .no, .no, .no, .no, .no, .no, .no, .no, .no, .no, .no, .no, .no], be_ [(12, ⟨48, 4, [pgC p]⟩), (13, ⟨48, 4, [pgC q]⟩)], us [12, 13]⟩) (fun k : Nat => k ≤ p.frm.length ∧ p.frm.take k = q.frm.take k) (fun k : Nat => p.frm.length - k) (0) ?_ ?_ (fun k hI => ?_))
  ·exact ⟨Nat.zero_le _, rfl⟩
  ·exact Can.weak (Weak.lit (by simp only [go_sem, seval, ag_, ab_, ad_, as_, leV, aq_, ar_, V.inn, us, T9_, Ta_] <;> ((try simp))) (by simp only [go_sem, seval, ag_, ab_, ad_, as_, leV, aq_, ar_, V.inn, us, T9_, Ta_]) (by simp only [go_sem, seval, ag_, ab_, ad_, as_, leV, aq_, ar_, V.inn, us, T9_, Ta_]))
  refine .seq (.seq (.rgn [] (by simp only [go_sem, seval, ag_, ab_, ad_]; rfl) ?_ ?_))
  ·first | trivial | simp
  refine .condB (by simp only [go_sem, seval, ag_, ab_, ad_]; rfl) (by simp only [go_sem, seval, ag_, ab_, ad_]) (fun h38 => ?_) (fun h38 => ?_)
  ·refine .skip (.seq (.block (.seq (.rgnD [] enM (by simp only [go_sem, seval, ag_, ab_, ad_, dj_ (show k < p.frm.length by simpa using h38), dj_ (show k < q.frm.length by have e := (ct_ h33).2.2.2; simp only [T3_] at h38; omega)]; rfl) (by rfl) ?_ ?_))))
   ·have e := (ct_ h33).2.2.2; simp only [T3_] at h38; and_intros <;> omega
   refine .condB (by simp only [go_sem, seval, ag_, ab_, ad_]; rfl) (by simp only [go_sem, seval, ag_, ab_, ad_]) (fun h51 => ?_) (fun h51 => ?_)
   ·refine .seq (.rgn [] (by simp only [go_sem, seval, ag_, ab_, ad_]; rfl) ?_ ?_)
    ·first | trivial | simp
    refine .ret ⟨.inr rfl, ?_⟩
    exact Out.plain (by simp only [Tryz.results96]; rfl) (by simp only [av_, a5_, go_sem, seval, ag_, ab_, ad_] <;> (split <;> rfl)) (by simp only [a2_, go_sem, seval, ag_, ab_, ad_] <;> (rw [decide_eq_false]; rintro rfl; simp at h51)) (by simp only [go_sem, seval, ag_, ab_, ad_])
   ·refine .skip (.rgn [] (by simp only [go_sem, seval, ag_, ab_, ad_]; rfl) ?_ ?_)
    ·first | trivial | simp
    refine Exists.intro (k + 1) ⟨?_, ?_, ?_⟩
    ·have e := (ct_ h33).2.2.2; simp only [T3_] at h38; exact ⟨by omega, h7_ (d := 0) (by omega) (by omega) hI.2 (bne_eq_false_iff_eq.1 h51)⟩
    ·simp only [T3_] at h38; omega
    exact Can.weak (Weak.lit (by simp only [go_sem, seval, ag_, ab_, ad_, as_, leV, aq_, ar_, V.inn, us, T9_, Ta_] <;> (simp only [T3_] at h38; exact bg_ (n := ((k + 1 : Nat) : Int)) (by omega) (by omega))) (by simp only [go_sem, seval, ag_, ab_, ad_, as_, leV, aq_, ar_, V.inn, us, T9_, Ta_]) (by simp only [go_sem, seval, ag_, ab_, ad_, as_, leV, aq_, ar_, V.inn, us, T9_, Ta_]))
  ·refine .exit (.seq (.rgn [] (by simp only [go_sem, seval, ag_, ab_, ad_]; rfl) ?_ ?_))
   ·first | trivial | simp
   refine .ret ⟨.inr rfl, ?_⟩
   exact Out.plain (by simp only [Tryz.results96]; rfl) (by simp only [av_, a5_, go_sem, seval, ag_, ab_, ad_] <;> (split <;> rfl)) (by simp only [a2_, go_sem, seval, ag_, ab_, ad_] <;> (simp only [T4_] at h38; have e := ct_ h33; have e2 := hI.2; rw [T1_ (by omega), T1_ (by omega)] at e2; rw [decide_eq_true (uf_.2 ⟨⟨⟨e.1, e.2.1⟩, e.2.2.1⟩, e2⟩)])) (by simp only [go_sem, seval, ag_, ab_, ad_])
theorem ahu_ {l : List Pg} {k : Nat} (h : k < l.length) : (l.take (k + 1)).all okP = ((l.take k).all okP && okP (l.getD k Pg0)) := by
 rw [List.take_add_one, T6_ h, List.all_append, T8_, T6_ h]; simp
theorem ac4_ {l : List Pg} {k : Nat} (hk : k < l.length) (h : okP (l.getD k Pg0) = false) : gc_ l = false := by
 rw [Bool.eq_false_iff]; intro q
 rw [(mo_ q).2.2 k hk] at h; cases h
theorem agu_ {p : Pg} (h : (!tOk p.line || decide (((spl p.line).length : Int) > 1) || !decide (p = fx_ p.line)) = false) : okP p = true := by
 rw [s5_, ← Bool.not_and, Bool.not_eq_false'] at h; exact h
theorem ag5_ {p : Pg} (h : (!tOk p.line || decide (((spl p.line).length : Int) > 1) || !decide (p = fx_ p.line)) = true) : okP p = false := by
 rw [s5_, ← Bool.not_and, Bool.not_eq_true'] at h; exact h
theorem txTk {f : Pg → Str} {l : List Pg} {k : Nat} (h : k < l.length) : bl_ ((l.take (k + 1)).map f) = bl_ ((l.take k).map f) ++ [[.s (f (l.getD k Pg0))]] := by
 rw [List.take_add_one, T6_ h, T8_, T6_ h, List.map_append]; unfold bl_; rw [List.map_append]; rfl
theorem md_ (l : List Pg) (hs : ∀ p ∈ l, pgB p) (hl : l.length ≤ 2000000) : ACall En 43 [.sl false (pgR l)] [] [.b (gc_ l)] [] := by
 have hB : ∀ k, k < l.length → pgB (l.getD k Pg0) := fun k h => hs _ (bo_ h)
 refine ak_ (fn := Tryz.f43) [] Tryz.func43 rfl rfl (by simp) fun C => ?_
 rw [aw_]
 simp only [Tryz.ntmps43, T7_, List.length_nil, Nat.reduceAdd, Nat.reduceSub, List.replicate_succ, List.replicate_zero, List.cons_append, List.nil_append, bk_]
 refine .seq (.rgn [] (by simp only [go_sem, seval, al_, ah_, ag_, ab_, ac_, aa_]; rfl) ?_ ?_)
 ·first | trivial | simp
 refine .seq (.seq (.rgn [] (by simp only [go_sem, seval, al_, ah_, ag_, ab_, ac_, aa_]; rfl) ?_ ?_))
 ·first | trivial | simp
 refine .block (.loopK (fun k : Nat => ⟨[.sl false (pgR l), .no, .no, .i .i64 k, .no, .no, .no, .no, .no, .no, .no, .no, .no, .no, .no, .no, .no, .no, .no, .no, .no, .no, .no, .no, .no, .no, .no, .no, .no, .no, .no, .no, .no, .no, .no, .no, .no, .no, .no, .no, .no, .no, .no, .no, .no, .no, .no, .no, .no], be_ [], us []⟩) (fun k : Nat => k ≤ l.length ∧ (l.take k).all okP = true) (fun k : Nat => l.length - k) (0) ?_ ?_ (fun k hI => ?_))
 ·exact ⟨Nat.zero_le _, rfl⟩
 ·exact Can.weak (Weak.lit (by simp only [go_sem, seval, al_, ah_, ag_, ab_, ac_, aa_, as_, leV, aq_, ar_, V.inn, us, T9_, Ta_] <;> ((try simp))) (by simp only [go_sem, seval, al_, ah_, ag_, ab_, ac_, aa_, as_, leV, aq_, ar_, V.inn, us, T9_, Ta_]) (by simp only [go_sem, seval, al_, ah_, ag_, ab_, ac_, aa_, as_, leV, aq_, ar_, V.inn, us, T9_, Ta_]))
 refine .seq (.seq (.rgn [] (by simp only [go_sem, seval, al_, ah_, ag_, ab_, ac_, aa_]; rfl) ?_ ?_))
 ·first | trivial | simp
 refine .condB (by simp only [go_sem, seval, al_, ah_, ag_, ab_, ac_, aa_]; rfl) (by simp only [go_sem, seval, al_, ah_, ag_, ab_, ac_, aa_]) (fun h7 => ?_) (fun h7 => ?_)
 ·refine .skip (.seq (.block (.seq (.rgnD [by_ (k < l.length) (fun h => rd_ (l.getD k Pg0).line (by have := (hB k h).1; omega)), by_ (k < l.length ∧ tOk (l.getD k Pg0).line = true) (fun h => vd_ (l.getD k Pg0).line (x3_ h.2)), by_ (k < l.length) (fun h => l9_ (l.getD k Pg0).line (by have := (hB k h).1; omega)), by_ (k < l.length) (fun h => zn_ (l.getD k Pg0) (fx_ (l.getD k Pg0).line) (hB k h) (afe_ (hB k h).1))] enM (by simp only [go_sem, seval, al_, ah_, ag_, ab_, ac_, aa_, dt_ (show k < l.length by simpa using h7)]; rfl) (by rfl) ?_ ?_))))
  ·simp only [T3_] at h7; and_intros <;> first | omega | trivial | exact fun h => ⟨h, by omega, by omega⟩ | exact fun h => ⟨h, by omega⟩ | exact fun h => ⟨h, by omega, by simpa using h⟩ | exact fun h => by rw [h]; rfl
  refine .condB (by simp only [go_sem, seval, al_, ah_, ag_, ab_, ac_, aa_]; rfl) (by simp only [go_sem, seval, al_, ah_, ag_, ab_, ac_, aa_]) (fun h40 => ?_) (fun h40 => ?_)
  ·refine .seq (.rgn [] (by simp only [go_sem, seval, al_, ah_, ag_, ab_, ac_, aa_]; rfl) ?_ ?_)
   ·first | trivial | simp
   refine .ret ⟨.inr rfl, ?_⟩
   exact Out.plain (by simp only [Tryz.results43]; rfl) (by simp only [av_, a5_, go_sem, seval, al_, ah_, ag_, ab_, ac_, aa_] <;> (split <;> rfl)) (by simp only [a2_, go_sem, seval, al_, ah_, ag_, ab_, ac_, aa_] <;> (rw [ac4_ (k := k) (by simpa using h7) (ag5_ h40)])) (by simp only [go_sem, seval, al_, ah_, ag_, ab_, ac_, aa_])
  ·refine .skip (.rgn [] (by simp only [go_sem, seval, al_, ah_, ag_, ab_, ac_, aa_]; rfl) ?_ ?_)
   ·first | trivial | simp
   refine Exists.intro (k + 1) ⟨?_, ?_, ?_⟩
   ·simp at h7; refine ⟨by omega, ?_⟩; rw [ahu_ h7, hI.2, agu_ h40]; rfl
   ·simp at h7; omega
   exact Can.weak (Weak.lit (by simp only [go_sem, seval, al_, ah_, ag_, ab_, ac_, aa_, as_, leV, aq_, ar_, V.inn, us, T9_, Ta_] <;> (rw [bg_ (by simp at h7; omega) (by simp at h7; omega)]; (try simp))) (by simp only [go_sem, seval, al_, ah_, ag_, ab_, ac_, aa_, as_, leV, aq_, ar_, V.inn, us, T9_, Ta_]) (by simp only [go_sem, seval, al_, ah_, ag_, ab_, ac_, aa_, as_, leV, aq_, ar_, V.inn, us, T9_, Ta_]))
 ·refine .exit (.seq (.rgn [] (by simp only [go_sem, seval, al_, ah_, ag_, ab_, ac_, aa_]; rfl) ?_ ?_))
  ·first | trivial | simp
  refine .ret ⟨.inr rfl, ?_⟩
  exact Out.plain (by simp only [Tryz.results43]; rfl) (by simp only [av_, a5_, go_sem, seval, al_, ah_, ag_, ab_, ac_, aa_] <;> (split <;> rfl)) (by simp only [a2_, go_sem, seval, al_, ah_, ag_, ab_, ac_, aa_] <;> (simp only [T4_] at h7; have e := hI.2; rw [T1_ (by omega)] at e; unfold gc_; rw [e]; simp only [f1_, Bool.and_true]; rfl)) (by simp only [go_sem, seval, al_, ah_, ag_, ab_, ac_, aa_])
def fTx (f : Pg → Str) (l : List Pg) : List Str := if gc_ l then l.map f else []
theorem acq_ {f : Pg → Str} {l : List Pg} (hf : ∀ p, okP p = true → (f p).length ≤ 120) : (cj_ (fTx f l)).length ≤ 3000 ∧ (fTx f l).length ≤ 16 := by
 unfold fTx
 split
 ·rename_i h
  have h1 := (mo_ h).2.1
  have := ah8_ (l := l.map f) (k := 120) fun s hs => by
   obtain ⟨p, hp, rfl⟩ := List.mem_map.1 hs
   exact hf p (ua_ h p hp)
  rw [List.length_map] at this
  have := Nat.mul_le_mul_right 121 h1
  exact ⟨by omega, by rw [List.length_map]; exact h1⟩
 ·simp [mh_]
theorem aca_ (f : Pg → Str) (l : List Pg) : cj_ (fTx f l) = if gc_ l then cj_ (l.map f) else [] := by
 unfold fTx; split <;> rfl
theorem txE {f : Pg → Str} {l : List Pg} {k : Nat} (hk : k ≤ l.length) (h : gc_ l = true ∨ k = 0) (h2 : (decide ((k : Int) < l.length) && gc_ l) = false) : (l.take k).map f = fTx f l := by
 unfold fTx
 cases hb : gc_ l with
 | true =>
  rw [hb] at h2
  simp at h2
  rw [if_pos rfl, T1_ h2]
 | false =>
  rw [hb] at h
  obtain rfl : k = 0 := by simpa using h
  simp
theorem txJ {f : Pg → Str} {l : List Pg} {k : Nat} (hk : k ≤ l.length) (h : gc_ l = true ∨ k = 0) (h2 : (decide ((k : Int) < l.length) && gc_ l) = false) : leV (if k ≤ ((l.take k).map f).length then V.sl false ((bl_ ((l.take k).map f)).take k) else V.no) (V.sl false (bl_ (fTx f l))) := by
 rw [if_pos (by simp; omega), T1_ (by rw [ac_, List.length_map, List.length_take]; exact Nat.min_le_left _ _), txE hk h h2]
 exact ⟨fun h => h, bd_ _⟩
theorem ue_ (l : List Pg) (hs : ∀ p ∈ l, pgB p) (hl : l.length ≤ 2000000) : ACall En 49 [.sl false (pgR l)] [] [.s (vz_ l)] [] := by
 have hT := acq_ (f := (·.line)) (l := l) (fun p hp => (rr_ (ox_ hp).1).2)
 have hX : vz_ l = cj_ (fTx (·.line) l) := by rw [aca_]; rfl
 refine ak_ (fn := Tryz.f49) [] Tryz.func49 rfl rfl (by simp) fun C => ?_
 rw [aw_]
 simp only [Tryz.ntmps49, T7_, List.length_nil, Nat.reduceAdd, Nat.reduceSub, List.replicate_succ, List.replicate_zero, List.cons_append, List.nil_append, bk_]
 refine .seq (.rgn [] (by simp only [go_sem, seval, al_, ah_, ag_, ab_, aa_, ac_]; rfl) ?_ ?_)
 ·(first | trivial | (simp; done) | (simp only [T5_, T3_] at h13; and_intros <;> first | omega | (simp; done) | (simp; omega)))
 refine .seq (.rgn [] (by simp only [go_sem, seval, al_, ah_, ag_, ab_, aa_, ac_]; rfl) ?_ ?_)
 ·(first | trivial | (simp; done) | (simp only [T5_, T3_] at h13; and_intros <;> first | omega | (simp; done) | (simp; omega)))
 refine .seqJ (fun u : Unit => ⟨[.no, .no, .no, .sl false (bl_ (fTx (·.line) l)), .no, .no, .no, .no, .no, .no, .no, .no, .no, .no, .no, .no, .no, .no, .no, .no, .no, .no, .no, .no, .no, .no], be_ [], us []⟩) (fun u : Unit => True) ?_ (fun u hJ => ?_)
 ·refine .seq (.rgn [] (by simp only [go_sem, seval, al_, ah_, ag_, ab_, aa_, ac_]; rfl) ?_ ?_)
  ·(first | trivial | (simp; done) | (simp only [T5_, T3_] at h13; and_intros <;> first | omega | (simp; done) | (simp; omega)))
  refine .block (.loopK (fun k : Nat => ⟨[.sl false (pgR l), .no, .no, .ow 60 1 0 k, .i .i64 k, .no, .no, .no, .no, .no, .no, .no, .no, .no, .no, .no, .no, .no, .no, .no, .no, .no, .no, .no, .no, .no], be_ [(60, ⟨9, 1, bl_ ((l.take k).map (·.line))⟩)], us [60]⟩) (fun k : Nat => k ≤ l.length ∧ (gc_ l = true ∨ k = 0)) (fun k : Nat => l.length - k) (0) ?_ ?_ (fun k hI => ?_))
  ·exact ⟨Nat.zero_le _, .inr rfl⟩
  ·refine Can.trans (Can.ownSlot 3 60 9 1 (by simp only [go_sem, seval, al_, ah_, ag_, ab_, aa_, ac_] <;> rfl) (by simp only [go_sem, seval, al_, ah_, ag_, ab_, aa_, ac_]) (by simp only [go_sem, seval, al_, ah_, ag_, ab_, aa_, ac_] <;> rfl)) ?_
   exact Can.weak (Weak.lit (by simp only [go_sem, seval, al_, ah_, ag_, ab_, aa_, ac_, as_, leV, aq_, ar_, V.inn, us, T9_, Ta_] <;> ((try simp))) (by simp only [go_sem, seval, al_, ah_, ag_, ab_, aa_, ac_, as_, leV, aq_, ar_, V.inn, us, T9_, Ta_]) (by simp only [go_sem, seval, al_, ah_, ag_, ab_, aa_, ac_, as_, leV, aq_, ar_, V.inn, us, T9_, Ta_] <;> ((try simp [bl_]))))
  refine .seq (.seq (.rgn [a3_ (md_ l hs hl)] (by simp only [go_sem, seval, al_, ah_, ag_, ab_, aa_, ac_]; rfl) ?_ ?_))
  ·(first | trivial | (simp; done) | (simp only [T5_, T3_] at h13; and_intros <;> first | omega | (simp; done) | (simp; omega)))
  refine .condB (by simp only [go_sem, seval, al_, ah_, ag_, ab_, aa_, ac_]; rfl) (by simp only [go_sem, seval, al_, ah_, ag_, ab_, aa_, ac_]) (fun h13 => ?_) (fun h13 => ?_)
  ·refine .skip (.seq (.block (.rgn [] (by simp only [go_sem, seval, al_, ah_, ag_, ab_, aa_, ac_, dt_ (show k < l.length by simp at h13; omega)]; rfl) ?_ ?_)))
   ·(first | trivial | (simp; done) | (simp only [T5_, T3_] at h13; and_intros <;> first | omega | (simp; done) | (simp; omega)))
   refine .rgn [] (by simp only [go_sem, seval, al_, ah_, ag_, ab_, aa_, ac_]; rfl) ?_ ?_
   ·(first | trivial | (simp; done) | (simp only [T5_, T3_] at h13; and_intros <;> first | omega | (simp; done) | (simp; omega)))
   refine Exists.intro (k + 1) ⟨?_, ?_, ?_⟩
   ·simp at h13; exact ⟨by omega, .inl h13.2⟩
   ·simp at h13; omega
   refine Can.trans (Can.swap 33 60 (by decide) (by decide) (by decide) (by decide) (by simp only [go_sem, seval, al_, ah_, ag_, ab_, aa_, ac_, V.cl]) (by simp only [go_sem, seval, al_, ah_, ag_, ab_, aa_, ac_, V.cl]) (by simp only [go_sem, seval, al_, ah_, ag_, ab_, aa_, ac_, bq_, sw, swM, rnB] <;> rfl) (by simp only [go_sem, seval, al_, ah_, ag_, ab_, aa_, ac_, bq_, sw, swM, rnB] <;> rfl) (by simp only [go_sem, seval, al_, ah_, ag_, ab_, aa_, ac_, bq_, sw, swM, rnB] <;> rfl)) ?_
   exact Can.weak (Weak.lit (by simp only [go_sem, seval, al_, ah_, ag_, ab_, aa_, ac_, as_, leV, aq_, ar_, V.inn, us, T9_, Ta_] <;> (rw [bg_ (by simp at h13; omega) (by simp at h13; omega)]; (try simp))) (by simp only [go_sem, seval, al_, ah_, ag_, ab_, aa_, ac_, as_, leV, aq_, ar_, V.inn, us, T9_, Ta_]) (by simp only [go_sem, seval, al_, ah_, ag_, ab_, aa_, ac_, as_, leV, aq_, ar_, V.inn, us, T9_, Ta_] <;> (simp at h13; rw [txTk h13.1])))
  ·refine .exit ?_
   refine Exists.intro (()) ⟨?_, ?_⟩
   ·trivial
   refine Can.trans (Can.frz 60 (by simp only [go_sem, seval, al_, ah_, ag_, ab_, aa_, ac_] <;> rfl) (by simp only [go_sem, seval, al_, ah_, ag_, ab_, aa_, ac_]) (by simp only [go_sem, seval, al_, ah_, ag_, ab_, aa_, ac_] <;> rfl) (by simp only [go_sem, seval, al_, ah_, ag_, ab_, aa_, ac_] <;> rfl)) ?_
   exact Can.weak (Weak.lit (by simp only [go_sem, seval, al_, ah_, ag_, ab_, aa_, ac_, as_, leV, aq_, ar_, V.inn, us, T9_, Ta_] <;> (exact txJ hI.1 hI.2 h13)) (by simp only [go_sem, seval, al_, ah_, ag_, ab_, aa_, ac_, as_, leV, aq_, ar_, V.inn, us, T9_, Ta_]) (by simp only [go_sem, seval, al_, ah_, ag_, ab_, aa_, ac_, as_, leV, aq_, ar_, V.inn, us, T9_, Ta_]))
 refine .seq (.rgn [a3_ (m6_ (fTx (·.line) l) (by omega) (by omega))] (by simp only [go_sem, seval, al_, ah_, ag_, ab_, aa_, ac_]; rfl) ?_ ?_)
 ·(first | trivial | (simp; done) | (simp only [T5_, T3_] at h13; and_intros <;> first | omega | (simp; done) | (simp; omega)))
 refine .ret ⟨.inr rfl, ?_⟩
 exact Out.plain (by simp only [Tryz.results49]; rfl) (by simp only [av_, a5_, go_sem, seval, al_, ah_, ag_, ab_, aa_, ac_] <;> (split <;> rfl)) (by simp only [a2_, go_sem, seval, al_, ah_, ag_, ab_, aa_, ac_] <;> (rw [hX])) (by simp only [go_sem, seval, al_, ah_, ag_, ab_, aa_, ac_])
theorem uq_ (l : List Pg) (hs : ∀ p ∈ l, pgB p) (hl : l.length ≤ 2000000) : ACall En 47 [.sl false (pgR l)] [] [.s (w5_ l)] [] := by
 have hT := acq_ (f := (·.text)) (l := l) (fun p hp => by rw [(xz_ hp).1]; exact (pu_ _).2)
 have hX : w5_ l = cj_ (fTx (·.text) l) := by rw [aca_]; rfl
 refine ak_ (fn := Tryz.f47) [] Tryz.func47 rfl rfl (by simp) fun C => ?_
 rw [aw_]
 simp only [Tryz.ntmps47, T7_, List.length_nil, Nat.reduceAdd, Nat.reduceSub, List.replicate_succ, List.replicate_zero, List.cons_append, List.nil_append, bk_]
 refine .seq (.rgn [] (by simp only [go_sem, seval, al_, ah_, ag_, ab_, aa_, ac_]; rfl) ?_ ?_)
 ·(first | trivial | (simp; done) | (simp only [T5_, T3_] at h13; and_intros <;> first | omega | (simp; done) | (simp; omega)))
 refine .seq (.rgn [] (by simp only [go_sem, seval, al_, ah_, ag_, ab_, aa_, ac_]; rfl) ?_ ?_)
 ·(first | trivial | (simp; done) | (simp only [T5_, T3_] at h13; and_intros <;> first | omega | (simp; done) | (simp; omega)))
 refine .seqJ (fun u : Unit => ⟨[.no, .no, .no, .sl false (bl_ (fTx (·.text) l)), .no, .no, .no, .no, .no, .no, .no, .no, .no, .no, .no, .no, .no, .no, .no, .no, .no, .no, .no, .no, .no, .no], be_ [], us []⟩) (fun u : Unit => True) ?_ (fun u hJ => ?_)
 ·refine .seq (.rgn [] (by simp only [go_sem, seval, al_, ah_, ag_, ab_, aa_, ac_]; rfl) ?_ ?_)
  ·(first | trivial | (simp; done) | (simp only [T5_, T3_] at h13; and_intros <;> first | omega | (simp; done) | (simp; omega)))
  refine .block (.loopK (fun k : Nat => ⟨[.sl false (pgR l), .no, .no, .ow 60 1 0 k, .i .i64 k, .no, .no, .no, .no, .no, .no, .no, .no, .no, .no, .no, .no, .no, .no, .no, .no, .no, .no, .no, .no, .no], be_ [(60, ⟨9, 1, bl_ ((l.take k).map (·.text))⟩)], us [60]⟩) (fun k : Nat => k ≤ l.length ∧ (gc_ l = true ∨ k = 0)) (fun k : Nat => l.length - k) (0) ?_ ?_ (fun k hI => ?_))
  ·exact ⟨Nat.zero_le _, .inr rfl⟩
  ·refine Can.trans (Can.ownSlot 3 60 9 1 (by simp only [go_sem, seval, al_, ah_, ag_, ab_, aa_, ac_] <;> rfl) (by simp only [go_sem, seval, al_, ah_, ag_, ab_, aa_, ac_]) (by simp only [go_sem, seval, al_, ah_, ag_, ab_, aa_, ac_] <;> rfl)) ?_
   exact Can.weak (Weak.lit (by simp only [go_sem, seval, al_, ah_, ag_, ab_, aa_, ac_, as_, leV, aq_, ar_, V.inn, us, T9_, Ta_] <;> ((try simp))) (by simp only [go_sem, seval, al_, ah_, ag_, ab_, aa_, ac_, as_, leV, aq_, ar_, V.inn, us, T9_, Ta_]) (by simp only [go_sem, seval, al_, ah_, ag_, ab_, aa_, ac_, as_, leV, aq_, ar_, V.inn, us, T9_, Ta_] <;> ((try simp [bl_]))))
  refine .seq (.seq (.rgn [a3_ (md_ l hs hl)] (by simp only [go_sem, seval, al_, ah_, ag_, ab_, aa_, ac_]; rfl) ?_ ?_))
  ·(first | trivial | (simp; done) | (simp only [T5_, T3_] at h13; and_intros <;> first | omega | (simp; done) | (simp; omega)))
  refine .condB (by simp only [go_sem, seval, al_, ah_, ag_, ab_, aa_, ac_]; rfl) (by simp only [go_sem, seval, al_, ah_, ag_, ab_, aa_, ac_]) (fun h13 => ?_) (fun h13 => ?_)
  ·refine .skip (.seq (.block (.rgn [] (by simp only [go_sem, seval, al_, ah_, ag_, ab_, aa_, ac_, dt_ (show k < l.length by simp at h13; omega)]; rfl) ?_ ?_)))
   ·(first | trivial | (simp; done) | (simp only [T5_, T3_] at h13; and_intros <;> first | omega | (simp; done) | (simp; omega)))
   refine .rgn [] (by simp only [go_sem, seval, al_, ah_, ag_, ab_, aa_, ac_]; rfl) ?_ ?_
   ·(first | trivial | (simp; done) | (simp only [T5_, T3_] at h13; and_intros <;> first | omega | (simp; done) | (simp; omega)))
   refine Exists.intro (k + 1) ⟨?_, ?_, ?_⟩
   ·simp at h13; exact ⟨by omega, .inl h13.2⟩
   ·simp at h13; omega
   refine Can.trans (Can.swap 33 60 (by decide) (by decide) (by decide) (by decide) (by simp only [go_sem, seval, al_, ah_, ag_, ab_, aa_, ac_, V.cl]) (by simp only [go_sem, seval, al_, ah_, ag_, ab_, aa_, ac_, V.cl]) (by simp only [go_sem, seval, al_, ah_, ag_, ab_, aa_, ac_, bq_, sw, swM, rnB] <;> rfl) (by simp only [go_sem, seval, al_, ah_, ag_, ab_, aa_, ac_, bq_, sw, swM, rnB] <;> rfl) (by simp only [go_sem, seval, al_, ah_, ag_, ab_, aa_, ac_, bq_, sw, swM, rnB] <;> rfl)) ?_
   exact Can.weak (Weak.lit (by simp only [go_sem, seval, al_, ah_, ag_, ab_, aa_, ac_, as_, leV, aq_, ar_, V.inn, us, T9_, Ta_] <;> (rw [bg_ (by simp at h13; omega) (by simp at h13; omega)]; (try simp))) (by simp only [go_sem, seval, al_, ah_, ag_, ab_, aa_, ac_, as_, leV, aq_, ar_, V.inn, us, T9_, Ta_]) (by simp only [go_sem, seval, al_, ah_, ag_, ab_, aa_, ac_, as_, leV, aq_, ar_, V.inn, us, T9_, Ta_] <;> (simp at h13; rw [txTk h13.1])))
  ·refine .exit ?_
   refine Exists.intro (()) ⟨?_, ?_⟩
   ·trivial
   refine Can.trans (Can.frz 60 (by simp only [go_sem, seval, al_, ah_, ag_, ab_, aa_, ac_] <;> rfl) (by simp only [go_sem, seval, al_, ah_, ag_, ab_, aa_, ac_]) (by simp only [go_sem, seval, al_, ah_, ag_, ab_, aa_, ac_] <;> rfl) (by simp only [go_sem, seval, al_, ah_, ag_, ab_, aa_, ac_] <;> rfl)) ?_
   exact Can.weak (Weak.lit (by simp only [go_sem, seval, al_, ah_, ag_, ab_, aa_, ac_, as_, leV, aq_, ar_, V.inn, us, T9_, Ta_] <;> (exact txJ hI.1 hI.2 h13)) (by simp only [go_sem, seval, al_, ah_, ag_, ab_, aa_, ac_, as_, leV, aq_, ar_, V.inn, us, T9_, Ta_]) (by simp only [go_sem, seval, al_, ah_, ag_, ab_, aa_, ac_, as_, leV, aq_, ar_, V.inn, us, T9_, Ta_]))
 refine .seq (.rgn [a3_ (m6_ (fTx (·.text) l) (by omega) (by omega))] (by simp only [go_sem, seval, al_, ah_, ag_, ab_, aa_, ac_]; rfl) ?_ ?_)
 ·(first | trivial | (simp; done) | (simp only [T5_, T3_] at h13; and_intros <;> first | omega | (simp; done) | (simp; omega)))
 refine .ret ⟨.inr rfl, ?_⟩
 exact Out.plain (by simp only [Tryz.results47]; rfl) (by simp only [av_, a5_, go_sem, seval, al_, ah_, ag_, ab_, aa_, ac_] <;> (split <;> rfl)) (by simp only [a2_, go_sem, seval, al_, ah_, ag_, ab_, aa_, ac_] <;> (rw [hX])) (by simp only [go_sem, seval, al_, ah_, ag_, ab_, aa_, ac_])
end
section
set_option maxRecDepth 100000
set_option maxHeartbeats 4000000
end
end Go.Proofs.YtpikbndepapbhabGreatDoor
