/- Programs: lists of lines; whether they are ok; what they are turned into. Conditions: none. -/
import Derived.Test.YtcigkafioinfoaaGreatDoorKo
import Derived.Test.YtcigkafioinfoaaGreatDoorKx
set_option linter.unusedVariables false
set_option linter.unusedSimpArgs false
namespace Go.Proofs.YtcigkafioinfoaaGreatDoor
section
set_option maxRecDepth 100000
set_option maxHeartbeats 4000000
theorem yd_ (s : Sl) (hs : fg_ s = true) : ACall En 140 [.ag (sC s)] [] [.b (!sok s)] [] := by
 refine an_ (fn := Tryz.f140) [] Tryz.func140 rfl rfl (by simp) fun C => ?_
 rw [bb_]
 simp only [Tryz.ntmps140, T7_, List.length_nil, Nat.reduceAdd, Nat.reduceSub, List.replicate_succ, List.replicate_zero, List.cons_append, List.nil_append, bu_]
 refine .seq (.rgn [] (by simp only [go_sem, seval, aa_]; rfl) ?_ ?_)
 ·first | trivial | simp
 refine .seq (.rgn [br_ (lp_ s hs)] (by simp only [go_sem, seval, aa_]; rfl) ?_ ?_)
 ·first | trivial | simp
 refine .ret ⟨.inr rfl, ?_⟩
 exact Out.plain (by simp only [Tryz.results140]; rfl) (by simp only [ba_, bs_, go_sem, seval, aa_] <;> (split <;> rfl)) (by simp only [bq_, go_sem, seval, aa_] <;> (rfl)) (by simp only [go_sem, seval, aa_])
theorem agl_ (l : List Sl) (hs : jo_ l = true) (hl : l.length < 4611686018427387904) : ACall En 194 [.sl false (sR l), .fn (.func 140) [] []] [] [.i .i64 (vc_ (fun s => !sok s) l)] [] := by
 refine an_ (fn := Tryz.f194) [] Tryz.func194 rfl rfl (by simp) fun C => ?_
 rw [bb_]
 simp only [Tryz.ntmps194, T7_, List.length_nil, Nat.reduceAdd, Nat.reduceSub, List.replicate_succ, List.replicate_zero, List.cons_append, List.nil_append, bu_]
 refine .seq (.rgn [] (by simp only [go_sem, seval, aq_, am_, aa_]; rfl) ?_ ?_)
 ·first | trivial | simp
 refine .seq (.seq (.rgn [] (by simp only [go_sem, seval, aq_, am_, aa_]; rfl) ?_ ?_))
 ·first | trivial | simp
 refine .block (.loopK (fun k : Nat => ⟨[.sl false (sR l), .fn (.func 140) [] [], .no, .no, .no, .no, .no, .i .i64 l.length, .i .i64 k, .no, .no, .no, .no, .no, .no, .no, .no, .no, .no], bf_ [], us []⟩) (fun k : Nat => k ≤ l.length ∧ (l.take k).any (fun s => !sok s) = false) (fun k : Nat => l.length - k) (0) ?_ ?_ (fun k hI => ?_))
 ·simp
 ·exact Can.weak (Weak.lit (by simp only [go_sem, seval, aq_, am_, aa_, a2_, leV, az_, ay_, V.inn, us, T9_, Ta_] <;> (simp)) (by simp only [go_sem, seval, aq_, am_, aa_, a2_, leV, az_, ay_, V.inn, us, T9_, Ta_]) (by simp only [go_sem, seval, aq_, am_, aa_, a2_, leV, az_, ay_, V.inn, us, T9_, Ta_]))
 refine .seq (.rgn [] (by simp only [go_sem, seval, aq_, am_, aa_]; rfl) ?_ ?_)
 ·first | trivial | simp
 refine .seq (.condB (by simp only [go_sem, seval, aq_, am_, aa_]; rfl) (by simp only [go_sem, seval, aq_, am_, aa_]) (fun h9 => ?_) (fun h9 => ?_))
 ·refine .skip (.seq (.block (.seq (.rgn [] (by simp only [go_sem, seval, aq_, am_, aa_]; rfl) ?_ ?_))))
  ·first | trivial | simp
  refine .seq (.rgn [dw_ (k < l.length) (fun h => yd_ (l.getD k S0) (gp_ hs h))] (by simp only [go_sem, seval, aq_, am_, aa_, g9_ (show k < l.length by simpa using h9)]; rfl) ?_ ?_)
  ·simp only [T3_] at h9; simp; omega
  refine .condB (by simp only [go_sem, seval, aq_, am_, aa_]; rfl) (by simp only [go_sem, seval, aq_, am_, aa_]) (fun h16 => ?_) (fun h16 => ?_)
  ·refine .seq (.rgn [] (by simp only [go_sem, seval, aq_, am_, aa_]; rfl) ?_ ?_)
   ·first | trivial | simp
   refine .ret ⟨.inr rfl, ?_⟩
   exact Out.plain (by simp only [Tryz.results194]; rfl) (by simp only [ba_, bs_, go_sem, seval, aq_, am_, aa_] <;> (split <;> rfl)) (by simp only [bq_, go_sem, seval, aq_, am_, aa_] <;> (simp at h9; rw [ae6_ (d := S0) h9 hI.2 h16])) (by simp only [go_sem, seval, aq_, am_, aa_])
  ·refine .skip (.rgn [] (by simp only [go_sem, seval, aq_, am_, aa_]; rfl) ?_ ?_)
   ·first | trivial | simp
   refine Exists.intro (k + 1) ⟨?_, ?_, ?_⟩
   ·simp at h9; refine ⟨by omega, ?_⟩; rw [sn_ (d := S0) h9, hI.2, h16]; rfl
   ·simp at h9; omega
   exact Can.weak (Weak.lit (by simp only [go_sem, seval, aq_, am_, aa_, a2_, leV, az_, ay_, V.inn, us, T9_, Ta_] <;> (rw [bv_ (by omega) (by omega)]; simp)) (by simp only [go_sem, seval, aq_, am_, aa_, a2_, leV, az_, ay_, V.inn, us, T9_, Ta_]) (by simp only [go_sem, seval, aq_, am_, aa_, a2_, leV, az_, ay_, V.inn, us, T9_, Ta_]))
 ·refine .exit (.seq (.rgn [] (by simp only [go_sem, seval, aq_, am_, aa_]; rfl) ?_ ?_))
  ·first | trivial | simp
  refine .ret ⟨.inr rfl, ?_⟩
  exact Out.plain (by simp only [Tryz.results194]; rfl) (by simp only [ba_, bs_, go_sem, seval, aq_, am_, aa_] <;> (split <;> rfl)) (by simp only [bq_, go_sem, seval, aq_, am_, aa_] <;> (simp at h9; have h0 := hI.2; rw [T1_ h9] at h0; rw [yv_ h0])) (by simp only [go_sem, seval, aq_, am_, aa_])
theorem uq_ (l : List Sl) (hs : jo_ l = true) (hl : l.length < 4611686018427387904) : ACall En 139 [.sl false (sR l), .fn (.func 140) [] []] [] [.b (l.any fun s => !sok s)] [] := by
 refine an_ (fn := Tryz.f139) [] Tryz.func139 rfl rfl (by simp) fun C => ?_
 rw [bb_]
 simp only [Tryz.ntmps139, T7_, List.length_nil, Nat.reduceAdd, Nat.reduceSub, List.replicate_succ, List.replicate_zero, List.cons_append, List.nil_append, bu_]
 refine .seq (.rgn [] (by simp only [go_sem, seval, am_]; rfl) ?_ ?_)
 ·first | trivial | simp
 refine .seq (.rgn [br_ (agl_ l hs hl)] (by simp only [go_sem, seval, am_]; rfl) ?_ ?_)
 ·first | trivial | simp
 refine .ret ⟨.inr rfl, ?_⟩
 exact Out.plain (by simp only [Tryz.results139]; rfl) (by simp only [ba_, bs_, go_sem, seval, am_] <;> (split <;> rfl)) (by simp only [bq_, go_sem, seval, am_] <;> (rw [adu_])) (by simp only [go_sem, seval, am_])
def pok (l : List Sl) : Bool := decide (1 ≤ l.length) && decide (l.length ≤ 16) && l.all sok
theorem wk_ (l : List Sl) : (l.any fun s => !sok s) = !l.all sok := by rw [List.any_eq_not_all_not]; simp
theorem co_ {l : List Sl} (h : pok l = true) : 1 ≤ l.length ∧ l.length ≤ 16 ∧ ∀ k, k < l.length → sok (l.getD k S0) = true := by
 simp only [pok, T5_, T3_, List.all_eq_true] at h
 exact ⟨h.1.1, h.1.2, fun k hk => h.2 _ (b2_ hk)⟩
theorem pr_ (l : List Sl) (hs : jo_ l = true) (hl : l.length < 4611686018427387904) : ACall En 77 [.sl false (sR l)] [] [.b (pok l)] [] := by
 refine an_ (fn := Tryz.f77) [] Tryz.func77 rfl rfl (by simp) fun C => ?_
 rw [bb_]
 simp only [Tryz.ntmps77, T7_, List.length_nil, Nat.reduceAdd, Nat.reduceSub, List.replicate_succ, List.replicate_zero, List.cons_append, List.nil_append, bu_]
 refine .seq (.rgn [] (by simp only [go_sem, seval, aq_, am_]; rfl) ?_ ?_)
 ·first | trivial | simp
 refine .seq (.rgn [br_ (in_a l.length 1 16), br_ (uq_ l hs hl)] (by simp only [go_sem, seval, aq_, am_]; rfl) ?_ ?_)
 ·first | trivial | simp
 refine .ret ⟨.inr rfl, ?_⟩
 exact Out.plain (by simp only [Tryz.results77]; rfl) (by simp only [ba_, bs_, go_sem, seval, aq_, am_] <;> (split <;> rfl)) (by simp only [bq_, go_sem, seval, aq_, am_] <;> (rw [wk_]; simp only [pok, Bool.not_not, h3_]; rfl)) (by simp only [go_sem, seval, aq_, am_])
theorem yh_ (l : List Sl) (hs : jo_ l = true) (hl : l.length < 4611686018427387904) : ACall En 59 [.sl false (sR l)] [] [.b (pok l)] [] := by
 refine an_ (fn := Tryz.f59) [] Tryz.func59 rfl rfl (by simp) fun C => ?_
 rw [bb_]
 simp only [Tryz.ntmps59, T7_, List.length_nil, Nat.reduceAdd, Nat.reduceSub, List.replicate_succ, List.replicate_zero, List.cons_append, List.nil_append, bu_]
 refine .seq (.rgn [] (by simp only [go_sem, seval, aq_, am_, aa_]; rfl) ?_ ?_)
 ·first | trivial | simp
 refine .seq (.seq (.rgn [] (by simp only [go_sem, seval, aq_, am_, aa_]; rfl) ?_ ?_))
 ·first | trivial | simp
 refine .block (.loopK (fun k : Nat => ⟨[.sl false (sR l), .no, .no, .i .i64 k, .no, .no, .no, .no, .no, .no, .no, .no, .no, .no, .no, .no, .no, .no, .no, .no, .no, .no, .no, .no], bf_ [], us []⟩) (fun k : Nat => k ≤ l.length ∧ (l.take k).any (fun s => !sok s) = false) (fun k : Nat => l.length - k) (0) ?_ ?_ (fun k hI => ?_))
 ·simp
 ·exact Can.weak (Weak.lit (by simp only [go_sem, seval, aq_, am_, aa_, a2_, leV, az_, ay_, V.inn, us, T9_, Ta_] <;> (simp)) (by simp only [go_sem, seval, aq_, am_, aa_, a2_, leV, az_, ay_, V.inn, us, T9_, Ta_]) (by simp only [go_sem, seval, aq_, am_, aa_, a2_, leV, az_, ay_, V.inn, us, T9_, Ta_]))
 refine .seq (.seq (.rgn [] (by simp only [go_sem, seval, aq_, am_, aa_]; rfl) ?_ ?_))
 ·first | trivial | simp
 refine .condB (by simp only [go_sem, seval, aq_, am_, aa_]; rfl) (by simp only [go_sem, seval, aq_, am_, aa_]) (fun h7 => ?_) (fun h7 => ?_)
 ·refine .skip (.seq (.block (.seq (.rgn [dw_ (k < l.length) (fun h => l7_ (l.getD k S0) (gp_ hs h))] (by simp only [go_sem, seval, aq_, am_, aa_, g9_ (show k < l.length by simpa using h7)]; rfl) ?_ ?_))))
  ·simp only [T3_] at h7; simp; omega
  refine .condB (by simp only [go_sem, seval, aq_, am_, aa_]; rfl) (by simp only [go_sem, seval, aq_, am_, aa_]) (fun h15 => ?_) (fun h15 => ?_)
  ·refine .seq (.rgn [] (by simp only [go_sem, seval, aq_, am_, aa_]; rfl) ?_ ?_)
   ·first | trivial | simp
   refine .ret ⟨.inr rfl, ?_⟩
   exact Out.plain (by simp only [Tryz.results59]; rfl) (by simp only [ba_, bs_, go_sem, seval, aq_, am_, aa_] <;> (split <;> rfl)) (by simp only [bq_, go_sem, seval, aq_, am_, aa_] <;> (simp only [T3_] at h7; have : l.all sok = false := (by rw [List.all_eq_false]; exact ⟨_, b2_ (d := S0) (show k < l.length by omega), by simpa using h15⟩); simp [pok, this])) (by simp only [go_sem, seval, aq_, am_, aa_])
  ·refine .skip (.rgn [] (by simp only [go_sem, seval, aq_, am_, aa_]; rfl) ?_ ?_)
   ·first | trivial | simp
   refine Exists.intro (k + 1) ⟨?_, ?_, ?_⟩
   ·simp at h7; refine ⟨by omega, ?_⟩; rw [sn_ (d := S0) h7, hI.2, h15]; rfl
   ·simp at h7; omega
   exact Can.weak (Weak.lit (by simp only [go_sem, seval, aq_, am_, aa_, a2_, leV, az_, ay_, V.inn, us, T9_, Ta_] <;> (rw [bv_ (by omega) (by omega)]; simp)) (by simp only [go_sem, seval, aq_, am_, aa_, a2_, leV, az_, ay_, V.inn, us, T9_, Ta_]) (by simp only [go_sem, seval, aq_, am_, aa_, a2_, leV, az_, ay_, V.inn, us, T9_, Ta_]))
 ·refine .exit (.seq (.rgn [] (by simp only [go_sem, seval, aq_, am_, aa_]; rfl) ?_ ?_))
  ·first | trivial | simp
  refine .ret ⟨.inr rfl, ?_⟩
  exact Out.plain (by simp only [Tryz.results59]; rfl) (by simp only [ba_, bs_, go_sem, seval, aq_, am_, aa_] <;> (split <;> rfl)) (by simp only [bq_, go_sem, seval, aq_, am_, aa_] <;> (simp only [T4_] at h7; have h0 := hI.2; rw [T1_ (by omega), wk_] at h0; simp only [Bool.not_eq_false'] at h0; simp only [pok, h0, Bool.and_true, h3_, ge_iff_le]; rfl)) (by simp only [go_sem, seval, aq_, am_, aa_])
theorem ut_ {s : Sl} (h : sok s = true) : (emT s).length ≤ 120 := by
 unfold emT; rw [if_pos h]; exact (n6_ (v4_ h)).1
theorem za_ (s : Sl) (h : sok s = true) (hs : fg_ s = true) : ACall En 87 [.ag (sC s)] [] [.s (emT s), .sl false (inR (emF s))] [] := by
 have := (agc_ s (d7_ h) hs).frz1 (rs' := [.s (emT s), .sl false (inR (emF s))]) (by simp [hd_, frz, a0_, T1_, emT, emF, h])
 exact this
end
end Go.Proofs.YtcigkafioinfoaaGreatDoor
