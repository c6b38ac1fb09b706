/- Books: what the program's tell. Conditions: none. -/
import Derived.Test.YtefmbmafdgedmaaGreatDoorK12
import Derived.Test.YtefmbmafdgedmaaGreatDoorK1
import Derived.Test.YtefmbmafdgedmaaGreatDoorK4
set_option linter.unusedVariables false
set_option linter.unusedSimpArgs false
namespace Go.Proofs.YtefmbmafdgedmaaGreatDoor
section
set_option maxRecDepth 100000
set_option maxHeartbeats 4000000
end
section
set_option maxRecDepth 100000
set_option maxHeartbeats 4000000
theorem acq_ (p q : Pg) (hp : pgB p) (hq : pgB q) : ACall En 129 [.ag (pgC p), .ag (pgC q)] [] [.b (decide (p = q))] [] := by
 have h1 := hp.2.2
 have h2 := hq.2.2
 refine ao_ (fn := Tryz.f129) [] Tryz.func129 rfl rfl (by simp) fun C => ?_
 rw [bb_]
 simp only [Tryz.ntmps129, T7_, List.length_nil, Nat.reduceAdd, Nat.reduceSub, List.replicate_succ, List.replicate_zero, List.cons_append, List.nil_append, bu_]
 refine .seq (.rgn [] (by simp only [go_sem, seval, aj_, ac_, ah_]; rfl) ?_ ?_)
 ·first | trivial | simp
 refine .seq (.seq (.rgn [] (by simp only [go_sem, seval, aj_, ac_, ah_]; rfl) ?_ ?_))
 ·first | trivial | simp
 refine .condB (by simp only [go_sem, seval, aj_, ac_, ah_]; rfl) (by simp only [go_sem, seval, aj_, ac_, ah_]) (fun h33 => ?_) (fun h33 => ?_)
 ·refine .seq (.rgn [] (by simp only [go_sem, seval, aj_, ac_, ah_]; rfl) ?_ ?_)
  ·first | trivial | simp
  refine .ret ⟨.inr rfl, ?_⟩
  exact Out.plain (by simp only [Tryz.results129]; rfl) (by simp only [bd_, bo_, go_sem, seval, aj_, ac_, ah_] <;> (split <;> rfl)) (by simp only [bn_, go_sem, seval, aj_, ac_, ah_] <;> (rw [decide_eq_false]; rintro rfl; simp at h33)) (by simp only [go_sem, seval, aj_, ac_, ah_])
 ·refine .skip (.seq (.seq (.rgn [] (by simp only [go_sem, seval, aj_, ac_, ah_]; rfl) ?_ ?_)))
  ·first | trivial | simp
  refine .block (.loopK (fun k : Nat => ⟨[.no, .no, .pt 12 4 0 0, .pt 13 4 0 0, .no, .i .i64 k, .no, .no, .no, .no, .no, .no, .no, .no, .no, .no, .no, .no, .no, .no, .no, .no, .no, .no, .no, .no, .no, .no, .no, .no, .no, .no, .no, .no, .no, .no, .no, .no, .no, .no, .no, .no, .no, .no, .no, .no, .no, .no, .no, .no, .no, .no], bk_ [(12, ⟨99, 4, [pgC p]⟩), (13, ⟨99, 4, [pgC q]⟩)], us [12, 13]⟩) (fun k : Nat => k ≤ p.frm.length ∧ p.frm.take k = q.frm.take k) (fun k : Nat => p.frm.length - k) (0) ?_ ?_ (fun k hI => ?_))
  ·exact ⟨Nat.zero_le _, rfl⟩
  ·exact Can.weak (Weak.lit (by simp only [go_sem, seval, aj_, ac_, ah_, ay_, leV, aw_, ax_, V.inn, us, T9_, Ta_] <;> ((try simp))) (by simp only [go_sem, seval, aj_, ac_, ah_, ay_, leV, aw_, ax_, V.inn, us, T9_, Ta_]) (by simp only [go_sem, seval, aj_, ac_, ah_, ay_, leV, aw_, ax_, V.inn, us, T9_, Ta_]))
  refine .seq (.seq (.rgn [] (by simp only [go_sem, seval, aj_, ac_, ah_]; rfl) ?_ ?_))
  ·first | trivial | simp
  refine .condB (by simp only [go_sem, seval, aj_, ac_, ah_]; rfl) (by simp only [go_sem, seval, aj_, ac_, ah_]) (fun h38 => ?_) (fun h38 => ?_)
  ·refine .skip (.seq (.block (.seq (.rgnD [] enM (by simp only [go_sem, seval, aj_, ac_, ah_, el_ (show k < p.frm.length by simpa using h38), el_ (show k < q.frm.length by have e := (pm_ h33).2.2.2; simp only [T3_] at h38; omega)]; rfl) (by rfl) ?_ ?_))))
   ·have e := (pm_ h33).2.2.2; simp only [T3_] at h38; and_intros <;> omega
   refine .condB (by simp only [go_sem, seval, aj_, ac_, ah_]; rfl) (by simp only [go_sem, seval, aj_, ac_, ah_]) (fun h51 => ?_) (fun h51 => ?_)
   ·refine .seq (.rgn [] (by simp only [go_sem, seval, aj_, ac_, ah_]; rfl) ?_ ?_)
    ·first | trivial | simp
    refine .ret ⟨.inr rfl, ?_⟩
    exact Out.plain (by simp only [Tryz.results129]; rfl) (by simp only [bd_, bo_, go_sem, seval, aj_, ac_, ah_] <;> (split <;> rfl)) (by simp only [bn_, go_sem, seval, aj_, ac_, ah_] <;> (rw [decide_eq_false]; rintro rfl; simp at h51)) (by simp only [go_sem, seval, aj_, ac_, ah_])
   ·refine .skip (.rgn [] (by simp only [go_sem, seval, aj_, ac_, ah_]; rfl) ?_ ?_)
    ·first | trivial | simp
    refine Exists.intro (k + 1) ⟨?_, ?_, ?_⟩
    ·have e := (pm_ h33).2.2.2; simp only [T3_] at h38; exact ⟨by omega, mc_ (d := 0) (by omega) (by omega) hI.2 (bne_eq_false_iff_eq.1 h51)⟩
    ·simp only [T3_] at h38; omega
    exact Can.weak (Weak.lit (by simp only [go_sem, seval, aj_, ac_, ah_, ay_, leV, aw_, ax_, V.inn, us, T9_, Ta_] <;> (simp only [T3_] at h38; exact bx_ (n := ((k + 1 : Nat) : Int)) (by omega) (by omega))) (by simp only [go_sem, seval, aj_, ac_, ah_, ay_, leV, aw_, ax_, V.inn, us, T9_, Ta_]) (by simp only [go_sem, seval, aj_, ac_, ah_, ay_, leV, aw_, ax_, V.inn, us, T9_, Ta_]))
  ·refine .exit (.seq (.rgn [] (by simp only [go_sem, seval, aj_, ac_, ah_]; rfl) ?_ ?_))
   ·first | trivial | simp
   refine .ret ⟨.inr rfl, ?_⟩
   exact Out.plain (by simp only [Tryz.results129]; rfl) (by simp only [bd_, bo_, go_sem, seval, aj_, ac_, ah_] <;> (split <;> rfl)) (by simp only [bn_, go_sem, seval, aj_, ac_, ah_] <;> (simp only [T4_] at h38; have e := pm_ h33; have e2 := hI.2; rw [T1_ (by omega), T1_ (by omega)] at e2; rw [decide_eq_true (wf_.2 ⟨⟨⟨e.1, e.2.1⟩, e.2.2.1⟩, e2⟩)])) (by simp only [go_sem, seval, aj_, ac_, ah_])
theorem aki_ {l : List Pg} {k : Nat} (h : k < l.length) : (l.take (k + 1)).all okP = ((l.take k).all okP && okP (l.getD k Pg0)) := by
 rw [List.take_add_one, T6_ h, List.all_append, T8_, T6_ h]; simp
theorem afw_ {l : List Pg} {k : Nat} (hk : k < l.length) (h : okP (l.getD k Pg0) = false) : g5_ l = false := by
 rw [Bool.eq_false_iff]; intro q
 rw [(jb_ q).2.2 k hk] at h; cases h
theorem ai3_ {p : Pg} (h : (!tOk p.line || decide (((spl p.line).length : Int) > 1) || !decide (p = e8_ p.line)) = false) : okP p = true := by
 rw [r7_, ← Bool.not_and, Bool.not_eq_false'] at h; exact h
theorem ah7_ {p : Pg} (h : (!tOk p.line || decide (((spl p.line).length : Int) > 1) || !decide (p = e8_ p.line)) = true) : okP p = false := by
 rw [r7_, ← Bool.not_and, Bool.not_eq_true'] at h; exact h
theorem bkTk {ls : List Str} {k : Nat} (h : k < ls.length) : pgR ((ls.take (k + 1)).map e8_) = pgR ((ls.take k).map e8_) ++ [pgC (e8_ (ls.getD k []))] := by
 rw [List.take_add_one, T6_ h, T8_, T6_ h, List.map_append]; unfold pgR; rw [List.map_append]; rfl
theorem nq_ (l : List Pg) (hs : ∀ p ∈ l, pgB p) (hl : l.length ≤ 2000000) : ACall En 78 [.sl false (pgR l)] [] [.b (g5_ l)] [] := by
 have hB : ∀ k, k < l.length → pgB (l.getD k Pg0) := fun k h => hs _ (b3_ h)
 refine ao_ (fn := Tryz.f78) [] Tryz.func78 rfl rfl (by simp) fun C => ?_
 rw [bb_]
 simp only [Tryz.ntmps78, T7_, List.length_nil, Nat.reduceAdd, Nat.reduceSub, List.replicate_succ, List.replicate_zero, List.cons_append, List.nil_append, bu_]
 refine .seq (.rgn [] (by simp only [go_sem, seval, ae_, ad_, aj_, ac_, ab_, aa_]; rfl) ?_ ?_)
 ·first | trivial | simp
 refine .seq (.seq (.rgn [] (by simp only [go_sem, seval, ae_, ad_, aj_, ac_, ab_, aa_]; rfl) ?_ ?_))
 ·first | trivial | simp
 refine .block (.loopK (fun k : Nat => ⟨[.sl false (pgR l), .no, .no, .i .i64 k, .no, .no, .no, .no, .no, .no, .no, .no, .no, .no, .no, .no, .no, .no, .no, .no, .no, .no, .no, .no, .no, .no, .no, .no, .no, .no, .no, .no, .no, .no, .no, .no, .no, .no, .no, .no, .no, .no, .no, .no, .no, .no, .no, .no, .no], bk_ [], us []⟩) (fun k : Nat => k ≤ l.length ∧ (l.take k).all okP = true) (fun k : Nat => l.length - k) (0) ?_ ?_ (fun k hI => ?_))
 ·exact ⟨Nat.zero_le _, rfl⟩
 ·exact Can.weak (Weak.lit (by simp only [go_sem, seval, ae_, ad_, aj_, ac_, ab_, aa_, ay_, leV, aw_, ax_, V.inn, us, T9_, Ta_] <;> ((try simp))) (by simp only [go_sem, seval, ae_, ad_, aj_, ac_, ab_, aa_, ay_, leV, aw_, ax_, V.inn, us, T9_, Ta_]) (by simp only [go_sem, seval, ae_, ad_, aj_, ac_, ab_, aa_, ay_, leV, aw_, ax_, V.inn, us, T9_, Ta_]))
 refine .seq (.seq (.rgn [] (by simp only [go_sem, seval, ae_, ad_, aj_, ac_, ab_, aa_]; rfl) ?_ ?_))
 ·first | trivial | simp
 refine .condB (by simp only [go_sem, seval, ae_, ad_, aj_, ac_, ab_, aa_]; rfl) (by simp only [go_sem, seval, ae_, ad_, aj_, ac_, ab_, aa_]) (fun h7 => ?_) (fun h7 => ?_)
 ·refine .skip (.seq (.block (.seq (.rgnD [dc_ (k < l.length) (fun h => nu_ (l.getD k Pg0).line (by have := (hB k h).1; omega)), dc_ (k < l.length ∧ tOk (l.getD k Pg0).line = true) (fun h => qw_ (l.getD k Pg0).line (ts_ h.2)), dc_ (k < l.length) (fun h => nf_ (l.getD k Pg0).line (by have := (hB k h).1; omega)), dc_ (k < l.length) (fun h => acq_ (l.getD k Pg0) (e8_ (l.getD k Pg0).line) (hB k h) (y0_ (hB k h).1))] enM (by simp only [go_sem, seval, ae_, ad_, aj_, ac_, ab_, aa_, eg_ (show k < l.length by simpa using h7)]; rfl) (by rfl) ?_ ?_))))
  ·simp only [T3_] at h7; and_intros <;> first | omega | trivial | exact fun h => ⟨h, by omega, by omega⟩ | exact fun h => ⟨h, by omega⟩ | exact fun h => ⟨h, by omega, by simpa using h⟩ | exact fun h => by rw [h]; rfl
  refine .condB (by simp only [go_sem, seval, ae_, ad_, aj_, ac_, ab_, aa_]; rfl) (by simp only [go_sem, seval, ae_, ad_, aj_, ac_, ab_, aa_]) (fun h40 => ?_) (fun h40 => ?_)
  ·refine .seq (.rgn [] (by simp only [go_sem, seval, ae_, ad_, aj_, ac_, ab_, aa_]; rfl) ?_ ?_)
   ·first | trivial | simp
   refine .ret ⟨.inr rfl, ?_⟩
   exact Out.plain (by simp only [Tryz.results78]; rfl) (by simp only [bd_, bo_, go_sem, seval, ae_, ad_, aj_, ac_, ab_, aa_] <;> (split <;> rfl)) (by simp only [bn_, go_sem, seval, ae_, ad_, aj_, ac_, ab_, aa_] <;> (rw [afw_ (k := k) (by simpa using h7) (ah7_ h40)])) (by simp only [go_sem, seval, ae_, ad_, aj_, ac_, ab_, aa_])
  ·refine .skip (.rgn [] (by simp only [go_sem, seval, ae_, ad_, aj_, ac_, ab_, aa_]; rfl) ?_ ?_)
   ·first | trivial | simp
   refine Exists.intro (k + 1) ⟨?_, ?_, ?_⟩
   ·simp at h7; refine ⟨by omega, ?_⟩; rw [aki_ h7, hI.2, ai3_ h40]; rfl
   ·simp at h7; omega
   exact Can.weak (Weak.lit (by simp only [go_sem, seval, ae_, ad_, aj_, ac_, ab_, aa_, ay_, leV, aw_, ax_, V.inn, us, T9_, Ta_] <;> (rw [bx_ (by simp at h7; omega) (by simp at h7; omega)]; (try simp))) (by simp only [go_sem, seval, ae_, ad_, aj_, ac_, ab_, aa_, ay_, leV, aw_, ax_, V.inn, us, T9_, Ta_]) (by simp only [go_sem, seval, ae_, ad_, aj_, ac_, ab_, aa_, ay_, leV, aw_, ax_, V.inn, us, T9_, Ta_]))
 ·refine .exit (.seq (.rgn [] (by simp only [go_sem, seval, ae_, ad_, aj_, ac_, ab_, aa_]; rfl) ?_ ?_))
  ·first | trivial | simp
  refine .ret ⟨.inr rfl, ?_⟩
  exact Out.plain (by simp only [Tryz.results78]; rfl) (by simp only [bd_, bo_, go_sem, seval, ae_, ad_, aj_, ac_, ab_, aa_] <;> (split <;> rfl)) (by simp only [bn_, go_sem, seval, ae_, ad_, aj_, ac_, ab_, aa_] <;> (simp only [T4_] at h7; have e := hI.2; rw [T1_ (by omega)] at e; unfold g5_; rw [e]; simp only [iw_, Bool.and_true]; rfl)) (by simp only [go_sem, seval, ae_, ad_, aj_, ac_, ab_, aa_])
end
section
set_option maxRecDepth 100000
set_option maxHeartbeats 4000000
end
end Go.Proofs.YtefmbmafdgedmaaGreatDoor
