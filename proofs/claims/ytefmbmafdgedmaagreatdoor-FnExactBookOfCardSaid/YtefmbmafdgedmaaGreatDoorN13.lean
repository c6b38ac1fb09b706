/- Books: what the program's tell. Conditions: none. -/
import Derived.Test.YtefmbmafdgedmaaGreatDoorN12
import Derived.Test.YtefmbmafdgedmaaGreatDoorN1
import Derived.Test.YtefmbmafdgedmaaGreatDoorN4
set_option linter.unusedVariables false
set_option linter.unusedSimpArgs false
namespace Go.Proofs.YtefmbmafdgedmaaGreatDoor
section
set_option maxRecDepth 100000
set_option maxHeartbeats 4000000
end
section
set_option maxRecDepth 100000
set_option maxHeartbeats 4000000
theorem bkTk {ls : List Str} {k : Nat} (h : k < ls.length) : pgR ((ls.take (k + 1)).map e4_) = pgR ((ls.take k).map e4_) ++ [pgC (e4_ (ls.getD k []))] := by
 rw [List.take_add_one, List.getElem?_eq_getElem h, List.getD_eq_getElem?_getD, List.getElem?_eq_getElem h, List.map_append]; unfold pgR; rw [List.map_append]; rfl
theorem v6_ (s : Str) (hs : s.length ≤ 281474976710656) : ACall En 24 [.s s] [] [.ow 0 4 0 (hk_ s).length] [⟨99, 4, pgR (hk_ s)⟩] := by
 have hL := j1_ s
 have hM := h9_ s
 have hb : hk_ s = if (dx_ s).length ≤ 16 then (dx_ s).map e4_ else [] := rfl
 have T := sd_ s hs
 generalize dx_ s = ls at *
 refine ah_ (fn := Tryz.f24) [60] Tryz.func24 rfl rfl (by simp) fun C => ?_
 rw [ar_]
 simp only [Tryz.ntmps24, List.length_cons, List.length_nil, Nat.reduceAdd, Nat.reduceSub, List.replicate_succ, List.replicate_zero, List.cons_append, List.nil_append, bd_]
 refine .seq (.rgn [] (by simp only [go_sem, seval, ab_, aa_, ak_, a1_, at_, ac_]; rfl) ?_ ?_)
 ·(first | trivial | (simp; done) | (simp only [decide_eq_true_eq, decide_eq_false_iff_not] at h11 h16; and_intros <;> first | omega | (simp; done) | (simp; omega)))
 refine .seq (.rgn [] (by simp only [go_sem, seval, ab_, aa_, ak_, a1_, at_, ac_]; rfl) ?_ ?_)
 ·(first | trivial | (simp; done) | (simp only [decide_eq_true_eq, decide_eq_false_iff_not] at h11 h16; and_intros <;> first | omega | (simp; done) | (simp; omega)))
 refine .seq (.rgn [a2_ T] (by simp only [go_sem, seval, ab_, aa_, ak_, a1_, at_, ac_]; rfl) ?_ ?_)
 ·(first | trivial | (simp; done) | (simp only [decide_eq_true_eq, decide_eq_false_iff_not] at h11 h16; and_intros <;> first | omega | (simp; done) | (simp; omega)))
 refine .seq (.seq (.rgn [] (by simp only [go_sem, seval, ab_, aa_, ak_, a1_, at_, ac_]; rfl) ?_ ?_))
 ·(first | trivial | (simp; done) | (simp only [decide_eq_true_eq, decide_eq_false_iff_not] at h11 h16; and_intros <;> first | omega | (simp; done) | (simp; omega)))
 refine .condB (by simp only [go_sem, seval, ab_, aa_, ak_, a1_, at_, ac_]; rfl) (by simp only [go_sem, seval, ab_, aa_, ak_, a1_, at_, ac_]) (fun h11 => ?_) (fun h11 => ?_)
 ·refine .seq (.rgn [] (by simp only [go_sem, seval, ab_, aa_, ak_, a1_, at_, ac_]; rfl) ?_ ?_)
  ·(first | trivial | (simp; done) | (simp only [decide_eq_true_eq, decide_eq_false_iff_not] at h11 h16; and_intros <;> first | omega | (simp; done) | (simp; omega)))
  refine .can (Can.ownSlot 2 60 99 4 (by simp only [go_sem, seval, ab_, aa_, ak_, a1_, at_, ac_] <;> rfl) (by simp only [go_sem, seval, ab_, aa_, ak_, a1_, at_, ac_]) (by simp only [go_sem, seval, ab_, aa_, ak_, a1_, at_, ac_] <;> rfl)) ?_
  refine .ret ⟨.inr rfl, ?_⟩
  exact Out.mem' (by simp only [Tryz.results24]; rfl) (by simp only [aq_, a8_, go_sem, seval, ab_, aa_, ak_, a1_, at_, ac_]) (by simp only [a7_, rns, rn, go_sem, seval, ab_, aa_, ak_, a1_, at_, ac_] <;> (rw [show hk_ s = [] by rw [hb, if_neg (by simp at h11; omega)]]; rfl)) (by simp) rfl (by decide) (by simp only [go_sem, seval, ab_, aa_, ak_, a1_, at_, ac_]) (by simp only [ay_, go_sem, seval, ab_, aa_, ak_, a1_, at_, ac_]) (by simp only [as_, go_sem, seval, ab_, aa_, ak_, a1_, at_, ac_] <;> (rw [show hk_ s = [] by rw [hb, if_neg (by simp at h11; omega)]]; rfl))
 ·refine .skip (.seq (.seq (.rgn [] (by simp only [go_sem, seval, ab_, aa_, ak_, a1_, at_, ac_]; rfl) ?_ ?_)))
  ·(first | trivial | (simp; done) | (simp only [decide_eq_true_eq, decide_eq_false_iff_not] at h11 h16; and_intros <;> first | omega | (simp; done) | (simp; omega)))
  refine .block (.loopK (fun k : Nat => ⟨[.no, .no, .no, .ow 60 4 0 k, .sl false (bm_ ls), .i .i64 k, .no, .no, .no, .no, .no, .no, .no, .no, .no, .no, .no, .no, .no, .no, .no, .no, .no, .no, .no, .no, .no, .no], aw_ [(60, ⟨99, 4, pgR ((ls.take k).map e4_)⟩)], us [60]⟩) (fun k : Nat => k ≤ ls.length) (fun k : Nat => ls.length - k) (0) ?_ ?_ (fun k hI => ?_))
  ·simp
  ·refine Can.trans (Can.ownSlot 3 60 99 4 (by simp only [go_sem, seval, ab_, aa_, ak_, a1_, at_, ac_] <;> rfl) (by simp only [go_sem, seval, ab_, aa_, ak_, a1_, at_, ac_]) (by simp only [go_sem, seval, ab_, aa_, ak_, a1_, at_, ac_] <;> rfl)) ?_
   exact Can.weak (Weak.lit (by simp only [go_sem, seval, ab_, aa_, ak_, a1_, at_, ac_, an_, leV, al_, am_, V.inn, us, true_or, or_true] <;> ((try simp))) (by simp only [go_sem, seval, ab_, aa_, ak_, a1_, at_, ac_, an_, leV, al_, am_, V.inn, us, true_or, or_true]) (by simp only [go_sem, seval, ab_, aa_, ak_, a1_, at_, ac_, an_, leV, al_, am_, V.inn, us, true_or, or_true] <;> ((try simp [pgR]))))
  refine .seq (.seq (.rgn [] (by simp only [go_sem, seval, ab_, aa_, ak_, a1_, at_, ac_]; rfl) ?_ ?_))
  ·(first | trivial | (simp; done) | (simp only [decide_eq_true_eq, decide_eq_false_iff_not] at h11 h16; and_intros <;> first | omega | (simp; done) | (simp; omega)))
  refine .condB (by simp only [go_sem, seval, ab_, aa_, ak_, a1_, at_, ac_]; rfl) (by simp only [go_sem, seval, ab_, aa_, ak_, a1_, at_, ac_]) (fun h16 => ?_) (fun h16 => ?_)
  ·refine .skip (.seq (.block (.rgn [c1_ (k < ls.length) (fun h => yr_ (ls.getD k []) (by have := hM _ (bo_ (d := []) h); omega))] (by simp only [go_sem, seval, ab_, aa_, ak_, a1_, at_, ac_, co_ (show k < ls.length by simpa using h16)]; rfl) ?_ ?_)))
   ·(first | trivial | (simp; done) | (simp only [decide_eq_true_eq, decide_eq_false_iff_not] at h11 h16; and_intros <;> first | omega | (simp; done) | (simp; omega)))
   refine .rgn [] (by simp only [go_sem, seval, ab_, aa_, ak_, a1_, at_, ac_]; rfl) ?_ ?_
   ·(first | trivial | (simp; done) | (simp only [decide_eq_true_eq, decide_eq_false_iff_not] at h11 h16; and_intros <;> first | omega | (simp; done) | (simp; omega)))
   refine Exists.intro (k + 1) ⟨?_, ?_, ?_⟩
   ·simp at h16; omega
   ·simp at h16; omega
   refine Can.trans (Can.swap 36 60 (by decide) (by decide) (by decide) (by decide) (by simp only [go_sem, seval, ab_, aa_, ak_, a1_, at_, ac_, V.cl]) (by simp only [go_sem, seval, ab_, aa_, ak_, a1_, at_, ac_, V.cl]) (by simp only [go_sem, seval, ab_, aa_, ak_, a1_, at_, ac_, bn_, sw, swM, rnB] <;> rfl) (by simp only [go_sem, seval, ab_, aa_, ak_, a1_, at_, ac_, bn_, sw, swM, rnB] <;> rfl) (by simp only [go_sem, seval, ab_, aa_, ak_, a1_, at_, ac_, bn_, sw, swM, rnB] <;> rfl)) ?_
   exact Can.weak (Weak.lit (by simp only [go_sem, seval, ab_, aa_, ak_, a1_, at_, ac_, an_, leV, al_, am_, V.inn, us, true_or, or_true] <;> (rw [bc_ (by simp at h16; omega) (by simp at h16; omega)]; (try simp))) (by simp only [go_sem, seval, ab_, aa_, ak_, a1_, at_, ac_, an_, leV, al_, am_, V.inn, us, true_or, or_true]) (by simp only [go_sem, seval, ab_, aa_, ak_, a1_, at_, ac_, an_, leV, al_, am_, V.inn, us, true_or, or_true] <;> (rw [bkTk (by simpa using h16), at_])))
  ·refine .exit (.seq (.rgn [] (by simp only [go_sem, seval, ab_, aa_, ak_, a1_, at_, ac_]; rfl) ?_ ?_))
   ·(first | trivial | (simp; done) | (simp only [decide_eq_true_eq, decide_eq_false_iff_not] at h11 h16; and_intros <;> first | omega | (simp; done) | (simp; omega)))
   refine .ret ⟨.inr rfl, ?_⟩
   exact Out.mem' (by simp only [Tryz.results24]; rfl) (by simp only [aq_, a8_, go_sem, seval, ab_, aa_, ak_, a1_, at_, ac_]) (by simp only [a7_, rns, rn, go_sem, seval, ab_, aa_, ak_, a1_, at_, ac_] <;> (simp only [decide_eq_false_iff_not] at h11 h16; rw [show hk_ s = ls.map e4_ by rw [hb, if_pos (by omega)], List.length_map, show k = ls.length by omega])) (by simp) rfl (by decide) (by simp only [go_sem, seval, ab_, aa_, ak_, a1_, at_, ac_]) (by simp only [ay_, go_sem, seval, ab_, aa_, ak_, a1_, at_, ac_]) (by simp only [as_, go_sem, seval, ab_, aa_, ak_, a1_, at_, ac_] <;> (simp only [decide_eq_false_iff_not] at h11 h16; rw [show hk_ s = ls.map e4_ by rw [hb, if_pos (by omega)], List.take_of_length_le (show ls.length ≤ k by omega)]))
theorem zg_ (s : Str) (hs : s.length ≤ 281474976710656) : ACall En 24 [.s s] [] [.sl false (pgR (hk_ s))] [] :=
 (v6_ s hs).frz1 (by simp [f7_, frz, a1_, List.take_of_length_le])
end
section
set_option maxRecDepth 100000
set_option maxHeartbeats 4000000
end
end Go.Proofs.YtefmbmafdgedmaaGreatDoor
