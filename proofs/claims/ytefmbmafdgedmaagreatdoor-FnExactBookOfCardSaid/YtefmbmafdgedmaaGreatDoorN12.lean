/- Books: lines with what they are turned into, plainly. Conditions: none. -/
import Derived.Test.YtefmbmafdgedmaaGreatDoorN11
import Derived.Test.YtefmbmafdgedmaaGreatDoorN1
import Derived.Test.YtefmbmafdgedmaaGreatDoorNr
set_option linter.unusedVariables false
set_option linter.unusedSimpArgs false
namespace Go.Proofs.YtefmbmafdgedmaaGreatDoor
section
set_option maxRecDepth 100000
def hk_ (s : Str) : List Pg := if (dx_ s).length ≤ 16 then (dx_ s).map e4_ else []
theorem abd_ (s : Sl) : lnOk (emT s) := by
 by_cases h : sok s = true
 ·rw [zb_ h]; exact vi_ (afc_ h)
 ·unfold emT; rw [if_neg h]; exact ⟨rfl, by simp⟩
end
section
set_option maxRecDepth 100000
theorem tp_ (s : Str) : (hk_ s).length ≤ 16 := by unfold hk_; split <;> simp; omega
end
section
set_option maxRecDepth 100000
theorem ahj_ (s : Sl) : (emF s).length ≤ 1000 := by
 by_cases h : sok s = true
 ·have := ahd_ h; omega
 ·unfold emF; rw [if_neg h]; simp
theorem xh_ (s : Str) : ∀ p ∈ hk_ s, p.line.length ≤ 4000 ∧ p.text.length ≤ 120 ∧ p.frm.length ≤ 1000 := fun p hp => by
 unfold hk_ at hp
 split at hp
 ·obtain ⟨w, hw, rfl⟩ := List.mem_map.1 hp
  have hl := h9_ s w hw
  unfold e4_
  split
  ·cases hx : dq_ w with
   | none => exact ⟨hl, by simp, by simp⟩
   | some x => exact ⟨hl, (abd_ x).2, ahj_ x⟩
  ·exact ⟨by simp [Pg0], by simp [Pg0], by simp [Pg0]⟩
 ·cases hp
end
section
set_option maxRecDepth 100000
set_option maxHeartbeats 4000000
def zPg : List V := [.s [], .b false, .s [], .sl true []]
theorem e9_ (l : List Pg) (k j : Nat) : ((dj_ (pgR l) zPg k).getD j []).drop 4 = [] := by
 rw [List.getD_eq_getElem?_getD]
 cases h : (dj_ (pgR l) zPg k)[j]? with
 | none => rfl
 | some r =>
  have hm := List.mem_of_getElem? h
  have : r.length = 4 := by
   rcases i0_ hm with hm | rfl
   ·obtain ⟨s, _, rfl⟩ := List.mem_map.1 hm; rfl
   ·rfl
  simp only [Option.getD_some]; exact List.drop_of_length_le (by omega)
theorem ad7_ {ls : List Str} {k : Nat} (h : k < ls.length) : (pgR (ls.map e4_)).getD k [] = pgC (e4_ (ls.getD k [])) := by
 rw [nh_ (by simpa using h)]
 simp [List.getD_eq_getElem?_getD, List.getElem?_eq_getElem h]
theorem y4_ (s : Str) (hs : s.length ≤ 281474976710656) : ACall En 25 [.s s] [] [.sl false (pgR (hk_ s))] [] := by
 have hL := j1_ s
 have hM := h9_ s
 have hb : hk_ s = if (dx_ s).length ≤ 16 then (dx_ s).map e4_ else [] := rfl
 have T := lf_ s hs
 generalize dx_ s = ls at *
 have hp : ∀ k, cf_ (dj_ (pgR (ls.map e4_)) zPg k) = true := fun k => hw_ (ak_ _) rfl
 have hll : (pgR (ls.map e4_)).length = ls.length := by simp [pgR]
 refine ah_ (fn := Tryz.f25) [] Tryz.func25 rfl rfl (by simp) fun C => ?_
 rw [ar_]
 simp only [Tryz.ntmps25, List.length_cons, List.length_nil, Nat.reduceAdd, Nat.reduceSub, List.replicate_succ, List.replicate_zero, List.cons_append, List.nil_append, bd_]
 refine .seq (.rgn [] (by simp only [go_sem, seval, ab_, aa_, ak_, hp, hll, e9_, ai_, at_]; rfl) ?_ ?_)
 ·(first | trivial | (simp; done) | (simp only [decide_eq_true_eq, decide_eq_false_iff_not] at h11 h18; and_intros <;> first | omega | exact ac_ _) | (simp only [decide_eq_false_iff_not] at h11; and_intros <;> omega))
 refine .seq (.rgn [a2_ T] (by simp only [go_sem, seval, ab_, aa_, ak_, hp, hll, e9_, ai_, at_]; rfl) ?_ ?_)
 ·(first | trivial | (simp; done) | (simp only [decide_eq_true_eq, decide_eq_false_iff_not] at h11 h18; and_intros <;> first | omega | exact ac_ _) | (simp only [decide_eq_false_iff_not] at h11; and_intros <;> omega))
 refine .seq (.seq (.rgn [] (by simp only [go_sem, seval, ab_, aa_, ak_, hp, hll, e9_, ai_, at_]; rfl) ?_ ?_))
 ·(first | trivial | (simp; done) | (simp only [decide_eq_true_eq, decide_eq_false_iff_not] at h11 h18; and_intros <;> first | omega | exact ac_ _) | (simp only [decide_eq_false_iff_not] at h11; and_intros <;> omega))
 refine .condB (by simp only [go_sem, seval, ab_, aa_, ak_, hp, hll, e9_, ai_, at_]; rfl) (by simp only [go_sem, seval, ab_, aa_, ak_, hp, hll, e9_, ai_, at_]) (fun h11 => ?_) (fun h11 => ?_)
 ·refine .seq (.rgn [] (by simp only [go_sem, seval, ab_, aa_, ak_, hp, hll, e9_, ai_, at_]; rfl) ?_ ?_)
  ·(first | trivial | (simp; done) | (simp only [decide_eq_true_eq, decide_eq_false_iff_not] at h11 h18; and_intros <;> first | omega | exact ac_ _) | (simp only [decide_eq_false_iff_not] at h11; and_intros <;> omega))
  refine .ret ⟨.inr rfl, ?_⟩
  exact Out.plainL (by simp only [Tryz.results25]; rfl) (by simp only [aq_, a8_, go_sem, seval, ab_, aa_, ak_, hp, hll, e9_, ai_, at_] <;> (split <;> rfl)) (by simp only [a7_, go_sem, seval, ab_, aa_, ak_, hp, hll, e9_, ai_, at_] <;> (simp only [decide_eq_true_eq] at h11; rw [hb, if_neg (by omega)]; simp [pgR, les, ler, leV])) (by simp only [go_sem, seval, ab_, aa_, ak_, hp, hll, e9_, ai_, at_])
 ·refine .skip (.seq (.rgn [] (by simp only [go_sem, seval, ab_, aa_, ak_, hp, hll, e9_, ai_, at_]; rfl) ?_ ?_))
  ·(first | trivial | (simp; done) | (simp only [decide_eq_true_eq, decide_eq_false_iff_not] at h11 h18; and_intros <;> first | omega | exact ac_ _) | (simp only [decide_eq_false_iff_not] at h11; and_intros <;> omega))
  refine .seq (.seq (.rgn [] (by simp only [go_sem, seval, ab_, aa_, ak_, hp, hll, e9_, ai_, at_]; rfl) ?_ ?_))
  ·(first | trivial | (simp; done) | (simp only [decide_eq_true_eq, decide_eq_false_iff_not] at h11 h18; and_intros <;> first | omega | exact ac_ _) | (simp only [decide_eq_false_iff_not] at h11; and_intros <;> omega))
  refine .block (.loopK (fun k : Nat => ⟨[.no, .no, .no, .no, .ow 24 4 0 ls.length, .no, .no, .no, .no, .no, .no, .no, .no, .no, .no, .sl false (bm_ ls), .i .i64 ls.length, .i .i64 k, .no, .no, .no, .no, .no, .no, .no, .no, .no, .no, .no], aw_ [(24, ⟨99, 4, dj_ (pgR (ls.map e4_)) zPg k⟩)], us [24]⟩) (fun k : Nat => k ≤ ls.length) (fun k : Nat => ls.length - k) (0) ?_ ?_ (fun k hI => ?_))
  ·simp
  ·exact Can.weak (Weak.lit (by simp only [go_sem, seval, ab_, aa_, ak_, hp, hll, e9_, ai_, at_, an_, leV, al_, am_, V.inn, us, true_or, or_true] <;> ((try simp))) (by simp only [go_sem, seval, ab_, aa_, ak_, hp, hll, e9_, ai_, at_, an_, leV, al_, am_, V.inn, us, true_or, or_true]) (by simp only [go_sem, seval, ab_, aa_, ak_, hp, hll, e9_, ai_, at_, an_, leV, al_, am_, V.inn, us, true_or, or_true] <;> (simp [go_, zPg, hll])))
  refine .seq (.rgn [] (by simp only [go_sem, seval, ab_, aa_, ak_, hp, hll, e9_, ai_, at_]; rfl) ?_ ?_)
  ·(first | trivial | (simp; done) | (simp only [decide_eq_true_eq, decide_eq_false_iff_not] at h11 h18; and_intros <;> first | omega | exact ac_ _) | (simp only [decide_eq_false_iff_not] at h11; and_intros <;> omega))
  refine .seq (.condB (by simp only [go_sem, seval, ab_, aa_, ak_, hp, hll, e9_, ai_, at_]; rfl) (by simp only [go_sem, seval, ab_, aa_, ak_, hp, hll, e9_, ai_, at_]) (fun h18 => ?_) (fun h18 => ?_))
  ·refine .skip (.seq (.block (.seq (.rgn [] (by simp only [go_sem, seval, ab_, aa_, ak_, hp, hll, e9_, ai_, at_, co_ (show k < ls.length by simpa using h18)]; rfl) ?_ ?_))))
   ·(first | trivial | (simp; done) | (simp only [decide_eq_true_eq, decide_eq_false_iff_not] at h11 h18; and_intros <;> first | omega | exact ac_ _) | (simp only [decide_eq_false_iff_not] at h11; and_intros <;> omega))
   refine .rgn [c1_ (k < ls.length) (fun h => y9_ (ls.getD k []) (by have := hM _ (bo_ (d := []) h); omega))] (by simp only [go_sem, seval, ab_, aa_, ak_, hp, hll, e9_, ai_, at_]; rfl) ?_ ?_
   ·(first | trivial | (simp; done) | (simp only [decide_eq_true_eq, decide_eq_false_iff_not] at h11 h18; and_intros <;> first | omega | exact ac_ _) | (simp only [decide_eq_false_iff_not] at h11; and_intros <;> omega))
   refine .rgn [] (by simp only [go_sem, seval, ab_, aa_, ak_, hp, hll, e9_, ai_, at_]; rfl) ?_ ?_
   ·(first | trivial | (simp; done) | (simp only [decide_eq_true_eq, decide_eq_false_iff_not] at h11 h18; and_intros <;> first | omega | exact ac_ _) | (simp only [decide_eq_false_iff_not] at h11; and_intros <;> omega))
   refine Exists.intro (k + 1) ⟨?_, ?_, ?_⟩
   ·simp at h18; omega
   ·simp at h18; omega
   exact Can.weak (Weak.lit (by simp only [go_sem, seval, ab_, aa_, ak_, hp, hll, e9_, ai_, at_, an_, leV, al_, am_, V.inn, us, true_or, or_true] <;> (rw [bc_ (by simp at h18; omega) (by simp at h18; omega)]; (try simp))) (by simp only [go_sem, seval, ab_, aa_, ak_, hp, hll, e9_, ai_, at_, an_, leV, al_, am_, V.inn, us, true_or, or_true]) (by simp only [go_sem, seval, ab_, aa_, ak_, hp, hll, e9_, ai_, at_, an_, leV, al_, am_, V.inn, us, true_or, or_true] <;> (rw [← gw_ (by rw [hll]; simpa using h18), ad7_ (by simpa using h18), at_])))
  ·refine .exit (.seq (.rgn [] (by simp only [go_sem, seval, ab_, aa_, ak_, hp, hll, e9_, ai_, at_]; rfl) ?_ ?_))
   ·(first | trivial | (simp; done) | (simp only [decide_eq_true_eq, decide_eq_false_iff_not] at h11 h18; and_intros <;> first | omega | exact ac_ _) | (simp only [decide_eq_false_iff_not] at h11; and_intros <;> omega))
   refine .frz 24 (by simp only [go_sem, seval, ab_, aa_, ak_, hp, hll, e9_, ai_, at_]; rfl) (by simp only [go_sem, seval, ab_, aa_, ak_, hp, hll, e9_, ai_, at_]) (by simp only [go_sem, seval, ab_, aa_, ak_, hp, hll, e9_, ai_, at_]; rfl) (by simp only [go_sem, seval, ab_, aa_, ak_, hp, hll, e9_, ai_, at_]; rfl) ?_
   refine .ret ⟨.inr rfl, ?_⟩
   exact Out.plainL (by simp only [Tryz.results25]; rfl) (by simp only [aq_, a8_, go_sem, seval, ab_, aa_, ak_, hp, hll, e9_, ai_, at_] <;> (split <;> rfl)) (by simp only [a7_, go_sem, seval, ab_, aa_, ak_, hp, hll, e9_, ai_, at_] <;> (simp only [decide_eq_false_iff_not] at h11 h18; rw [hb, if_pos (by omega), gu_ (by rw [hll]; omega), List.take_of_length_le (by rw [hll]; exact Nat.le_refl _)]; simp [les, leV, ba_])) (by simp only [go_sem, seval, ab_, aa_, ak_, hp, hll, e9_, ai_, at_])
end
end Go.Proofs.YtefmbmafdgedmaaGreatDoor
