/- Copies of the exact laws, as trees of places of one's own. Conditions: none. -/
import Derived.Test.YtcigkafioinfoaaGreatDoorK18
import Derived.Test.YtcigkafioinfoaaGreatDoorKm
import Derived.Test.YtcigkafioinfoaaGreatDoorKq2
import Derived.Test.YtcigkafioinfoaaGreatDoorK18b
set_option linter.unusedVariables false
set_option linter.unusedSimpArgs false
namespace Go.Proofs.YtcigkafioinfoaaGreatDoor
section
open Go.RowKit
set_option maxRecDepth 100000
set_option maxHeartbeats 4000000
/-! ### the walks -/
def ToO (e : E) : Prop := ACall En 86 [.ag (eC e)] [] [.ag (ttE.O 0 e)] (ttE.B 0 e)
theorem sq_ (kids : List E) (ih : ∀ e ∈ kids, ToO e) (hk : kids.length ≤ 10000000) (hn : ttE.NL kids ≤ 10000000) : ACall En 151 [.sl false (eR kids)] [] [.ow 0 4 0 kids.length] (ttE.lst 33 4 0 kids) := by
 have hN := fun k => ttE.NL_le kids k
 have hO : ∀ b a, (ttE.O b a).length = 4 := fun _ _ => rfl
 have hz4 : ∀ u, as_ u z4 = true := fun u => rfl
 refine am_ (fn := Tryz.f151) (17 :: List.range' 1000 (ttE.NL kids)) Tryz.func151 rfl rfl (by simp) fun C => ?_
 rw [a2_]
 simp only [Tryz.ntmps151, T7_, List.length_nil, Nat.reduceAdd, Nat.reduceSub, List.replicate_succ, List.replicate_zero, List.cons_append, List.nil_append, bn_]
 refine .seq (.rgn [] (by simp only [go_sem, seval, aq_, ttE.OR_len, bf_, a1_, bd_]; rfl) ?_ ?_)
 ·first | trivial | simp
 refine .seq (.rgn [] (by simp only [go_sem, seval, aq_, ttE.OR_len, bf_, a1_, bd_]; rfl) ?_ ?_)
 ·simp; omega
 refine .seq (.seq (.rgn [] (by simp only [go_sem, seval, aq_, ttE.OR_len, bf_, a1_, bd_]; rfl) ?_ ?_))
 ·first | trivial | simp
 refine .block (.loopK (fun k : Nat => ⟨[.sl false (eR kids), .no, .no, .ow 17 4 0 kids.length, .i .i64 k, .no, .no, .no, .no, .no, .no, .no, .no, .no, .no, .no, .no, .no, .no, .no, .no, .no, .no], be_ ((17, ⟨33, 4, cr_ (ttE.OR 1000 kids) z4 k⟩) :: bn_ 1000 (ttE.BL 1000 (kids.take k))), us (17 :: List.range' 1000 (ttE.NL (kids.take k)))⟩) (fun k : Nat => k ≤ kids.length) (fun k : Nat => kids.length - k) (0) ?_ ?_ (fun k hI => ?_))
 ·simp
 ·exact Can.weak (Weak.lit (by simp only [go_sem, seval, aq_, ttE.OR_len, bf_, a1_, bd_, at_, leV, as_, ar_, V.inn, us, T9_, Ta_] <;> (simp)) (by simp only [go_sem, seval, aq_, ttE.OR_len, bf_, a1_, bd_, at_, leV, as_, ar_, V.inn, us, T9_, Ta_]) (by simp only [go_sem, seval, aq_, ttE.OR_len, bf_, a1_, bd_, at_, leV, as_, ar_, V.inn, us, T9_, Ta_] <;> (exact ttE.wk0 rfl hz4)))
 refine .seq (.seq (.rgn [] (by simp only [go_sem, seval, aq_, ttE.OR_len, bf_, a1_, bd_]; rfl) ?_ ?_))
 ·first | trivial | simp
 refine .condB (by simp only [go_sem, seval, aq_, ttE.OR_len, bf_, a1_, bd_]; rfl) (by simp only [go_sem, seval, aq_, ttE.OR_len, bf_, a1_, bd_]) (fun h11 => ?_) (fun h11 => ?_)
 ·refine .skip (.seq (.block (.rgn [bf_ [] (1000 + ttE.NL (kids.take k)) (ih (kids.getD k E0) (bw_ (by simpa using h11))) (ttE.seg (1000 + ttE.NL (kids.take k)) (kids.getD k E0))] (by simp only [go_sem, seval, aq_, ttE.OR_len, bf_, a1_, bd_, cl_ (show k < kids.length by simpa using h11), ct_ (show 1000 + ttE.NL (kids.take k) = 1000 + (ttE.BL 1000 (kids.take k)).length by rw [ttE.BL_len]), ← ttE.BL_take (d := E0) (show k < kids.length by simpa using h11)]; rfl) ?_ ?_)))
  ·simp only [T3_] at h11; have hk' : k < kids.length := (by omega); have q := hN (k + 1); rw [ttE.NL_take (d := E0) hk'] at q; exact ⟨⟨⟨⟨by omega, by omega⟩, ⟨ap_ _ _, rfl, (ttE.own _ _).2⟩, by rw [ttE.len]; exact y1_ (by decide) (by decide) (by omega)⟩, by omega, by omega⟩, hk', hO _ _, rfl⟩
  refine .rgn [] (by simp only [go_sem, seval, aq_, ttE.OR_len, bf_, a1_, bd_]; rfl) ?_ ?_
  ·first | trivial | simp
  refine Exists.intro (k + 1) ⟨?_, ?_, ?_⟩
  ·simp at h11; omega
  ·simp at h11; omega
  exact Can.weak (Weak.lit (by simp only [go_sem, seval, aq_, ttE.OR_len, bf_, a1_, bd_, at_, leV, as_, ar_, V.inn, us, T9_, Ta_] <;> (rw [bm_ (by simp at h11; omega) (by simp at h11; omega)]; simp)) (by simp only [go_sem, seval, aq_, ttE.OR_len, bf_, a1_, bd_, at_, leV, as_, ar_, V.inn, us, T9_, Ta_]) (by simp only [go_sem, seval, aq_, ttE.OR_len, bf_, a1_, bd_, at_, leV, as_, ar_, V.inn, us, T9_, Ta_] <;> (exact ttE.wkS (by simpa using h11) (by decide) hO hz4 rfl)))
 ·refine .exit (.seq (.rgn [] (by simp only [go_sem, seval, aq_, ttE.OR_len, bf_, a1_, bd_]; rfl) ?_ ?_))
  ·first | trivial | simp
  refine .ret ⟨.inr rfl, ?_⟩
  exact ttE.out_lst (by simp only [Tryz.results151]; rfl) (by simp only [ax_, bj_, go_sem, seval, aq_, ttE.OR_len, bf_, a1_, bd_]) (by simp only [bi_, go_sem, seval, aq_, ttE.OR_len, bf_, a1_, bd_] <;> rfl) (by decide) (by simp at h11; show be_ _ = be_ _; rw [fx_ (by rw [ttE.OR_len]; exact h11), T1_ h11])
theorem hw_ (e : E) : sm e = true → ttE.N e ≤ 10000000 → ToO e := by
 induction e using E.ind' with
 | h e ih =>
 intro hs hn
 obtain ⟨a1, a2, a3⟩ := c6_ hs
 have hn2 : ttE.NL e.kids ≤ 10000000 := by rw [d9_] at hn; omega
 have hk := o7_ e.kids
 have hsub : ∀ x ∈ e.kids, ttE.N x ≤ 10000000 := fun x hx => Nat.le_trans (ttE.N_mem hx) hn2
 have hB := kq_ 1000 e
 refine am_ (fn := Tryz.f86) (List.range' 1000 (ttE.N e)) Tryz.func86 rfl rfl (by simp) fun C => ?_
 rw [a2_]
 simp only [Tryz.ntmps86, T7_, List.length_nil, Nat.reduceAdd, Nat.reduceSub, List.replicate_succ, List.replicate_zero, List.cons_append, List.nil_append, bn_]
 refine .seq (.rgn [] (by simp only [go_sem, seval, bq_, bf_, a1_, ao_, an_]; rfl) ?_ ?_)
 ·(first | trivial | (simp; done) | (and_intros <;> first | trivial | rfl | exact ap_ _ _ | exact (ttE.own _ _).2 | exact ttE.lst_own _ _ _ _ | omega | (simp; done) | (simp only [TT.lst_len, TT.len]; rw [List.all_eq_true]; intro x hx; rw [List.mem_range'_1] at hx; simp [List.mem_range'_1]; omega) | (simp; omega)))
 refine .seq (.rgn [] (by simp only [go_sem, seval, bq_, bf_, a1_, ao_, an_]; rfl) ?_ ?_)
 ·(first | trivial | (simp; done) | (and_intros <;> first | trivial | rfl | exact ap_ _ _ | exact (ttE.own _ _).2 | exact ttE.lst_own _ _ _ _ | omega | (simp; done) | (simp only [TT.lst_len, TT.len]; rw [List.all_eq_true]; intro x hx; rw [List.mem_range'_1] at hx; simp [List.mem_range'_1]; omega) | (simp; omega)))
 refine .seq (.rgn [] (by simp only [go_sem, seval, bq_, bf_, a1_, ao_, an_]; rfl) ?_ ?_)
 ·(first | trivial | (simp; done) | (and_intros <;> first | trivial | rfl | exact ap_ _ _ | exact (ttE.own _ _).2 | exact ttE.lst_own _ _ _ _ | omega | (simp; done) | (simp only [TT.lst_len, TT.len]; rw [List.all_eq_true]; intro x hx; rw [List.mem_range'_1] at hx; simp [List.mem_range'_1]; omega) | (simp; omega)))
 refine .seq (.rgn [] (by simp only [go_sem, seval, bq_, bf_, a1_, ao_, an_]; rfl) ?_ ?_)
 ·(first | trivial | (simp; done) | (and_intros <;> first | trivial | rfl | exact ap_ _ _ | exact (ttE.own _ _).2 | exact ttE.lst_own _ _ _ _ | omega | (simp; done) | (simp only [TT.lst_len, TT.len]; rw [List.all_eq_true]; intro x hx; rw [List.mem_range'_1] at hx; simp [List.mem_range'_1]; omega) | (simp; omega)))
 refine .seq (.rgn [] (by simp only [go_sem, seval, bq_, bf_, a1_, ao_, an_]; rfl) ?_ ?_)
 ·(first | trivial | (simp; done) | (and_intros <;> first | trivial | rfl | exact ap_ _ _ | exact (ttE.own _ _).2 | exact ttE.lst_own _ _ _ _ | omega | (simp; done) | (simp only [TT.lst_len, TT.len]; rw [List.all_eq_true]; intro x hx; rw [List.mem_range'_1] at hx; simp [List.mem_range'_1]; omega) | (simp; omega)))
 refine .seq (.rgn [bf_ [] 1000 (sq_ e.kids (fun x hx => ih x hx (cj_ a3 x hx) (hsub x hx)) (by omega) hn2) (ttE.lst_seg 33 4 1000 e.kids)] (by simp only [go_sem, seval, bq_, bf_, a1_, ao_, an_]; rfl) ?_ ?_)
 ·(first | trivial | (simp; done) | (and_intros <;> first | trivial | rfl | exact ap_ _ _ | exact (ttE.own _ _).2 | exact ttE.lst_own _ _ _ _ | omega | (simp; done) | (simp only [TT.lst_len, TT.len]; rw [List.all_eq_true]; intro x hx; rw [List.mem_range'_1] at hx; simp [List.mem_range'_1]; omega) | (simp; omega)))
 refine .seq (.rgn [] (by simp only [go_sem, seval, bq_, bf_, a1_, ao_, an_]; rfl) ?_ ?_)
 ·(first | trivial | (simp; done) | (and_intros <;> first | trivial | rfl | exact ap_ _ _ | exact (ttE.own _ _).2 | exact ttE.lst_own _ _ _ _ | omega | (simp; done) | (simp only [TT.lst_len, TT.len]; rw [List.all_eq_true]; intro x hx; rw [List.mem_range'_1] at hx; simp [List.mem_range'_1]; omega) | (simp; omega)))
 refine .ret ⟨.inr rfl, ?_⟩
 exact ttE.out_one (by simp only [Tryz.results86]; rfl) (by simp only [ax_, bj_, go_sem, seval, bq_, bf_, a1_, ao_, an_]) (by simp only [bi_, go_sem, seval, bq_, bf_, a1_, ao_, an_] <;> rfl) (by intro i b hb; rw [hB] at hb; show be_ _ _ = _; rw [cm_, if_neg (by omega), cm_, if_neg (by omega), cm_, if_neg (by omega), ck_]; exact hb)
theorem u5_ (s : Sl) (hs : f8_ s = true) (hn : ttS.N s ≤ 10000000) : ACall En 20 [.ag (sC s)] [] [.ag (ttS.O 0 s)] (ttS.B 0 s) := by
 obtain ⟨s1, s1', s2, s3⟩ := dm_ hs
 have hn' : ttE.N s.expr + ttE.N s.thn ≤ 10000000 := hn
 refine am_ (fn := Tryz.f20) (List.range' 1000 (ttS.N s)) Tryz.func20 rfl rfl (by simp) fun C => ?_
 rw [a2_]
 simp only [Tryz.ntmps20, T7_, List.length_nil, Nat.reduceAdd, Nat.reduceSub, List.replicate_succ, List.replicate_zero, List.cons_append, List.nil_append, bn_]
 refine .seq (.rgn [] (by simp only [go_sem, seval, ag_, bq_, cb_, bf_, a1_, ao_, bd_, an_, ct_ (show 1000 + ttE.N s.expr = 1000 + (ttE.B 1000 s.expr).length by rw [ttE.len])]; rfl) ?_ ?_)
 ·(first | trivial | (simp; done) | (and_intros <;> first | trivial | rfl | exact ap_ _ _ | exact (ttE.own _ _).2 | exact ttE.lst_own _ _ _ _ | omega | (simp; done) | (simp only [TT.lst_len, TT.len]; rw [List.all_eq_true]; intro x hx; rw [List.mem_range'_1] at hx; simp [List.mem_range'_1]; omega) | (simp; omega)))
 refine .seq (.rgn [] (by simp only [go_sem, seval, ag_, bq_, cb_, bf_, a1_, ao_, bd_, an_, ct_ (show 1000 + ttE.N s.expr = 1000 + (ttE.B 1000 s.expr).length by rw [ttE.len])]; rfl) ?_ ?_)
 ·(first | trivial | (simp; done) | (and_intros <;> first | trivial | rfl | exact ap_ _ _ | exact (ttE.own _ _).2 | exact ttE.lst_own _ _ _ _ | omega | (simp; done) | (simp only [TT.lst_len, TT.len]; rw [List.all_eq_true]; intro x hx; rw [List.mem_range'_1] at hx; simp [List.mem_range'_1]; omega) | (simp; omega)))
 refine .seq (.rgn [] (by simp only [go_sem, seval, ag_, bq_, cb_, bf_, a1_, ao_, bd_, an_, ct_ (show 1000 + ttE.N s.expr = 1000 + (ttE.B 1000 s.expr).length by rw [ttE.len])]; rfl) ?_ ?_)
 ·(first | trivial | (simp; done) | (and_intros <;> first | trivial | rfl | exact ap_ _ _ | exact (ttE.own _ _).2 | exact ttE.lst_own _ _ _ _ | omega | (simp; done) | (simp only [TT.lst_len, TT.len]; rw [List.all_eq_true]; intro x hx; rw [List.mem_range'_1] at hx; simp [List.mem_range'_1]; omega) | (simp; omega)))
 refine .seq (.rgn [] (by simp only [go_sem, seval, ag_, bq_, cb_, bf_, a1_, ao_, bd_, an_, ct_ (show 1000 + ttE.N s.expr = 1000 + (ttE.B 1000 s.expr).length by rw [ttE.len])]; rfl) ?_ ?_)
 ·(first | trivial | (simp; done) | (and_intros <;> first | trivial | rfl | exact ap_ _ _ | exact (ttE.own _ _).2 | exact ttE.lst_own _ _ _ _ | omega | (simp; done) | (simp only [TT.lst_len, TT.len]; rw [List.all_eq_true]; intro x hx; rw [List.mem_range'_1] at hx; simp [List.mem_range'_1]; omega) | (simp; omega)))
 refine .seq (.rgn [] (by simp only [go_sem, seval, ag_, bq_, cb_, bf_, a1_, ao_, bd_, an_, ct_ (show 1000 + ttE.N s.expr = 1000 + (ttE.B 1000 s.expr).length by rw [ttE.len])]; rfl) ?_ ?_)
 ·(first | trivial | (simp; done) | (and_intros <;> first | trivial | rfl | exact ap_ _ _ | exact (ttE.own _ _).2 | exact ttE.lst_own _ _ _ _ | omega | (simp; done) | (simp only [TT.lst_len, TT.len]; rw [List.all_eq_true]; intro x hx; rw [List.mem_range'_1] at hx; simp [List.mem_range'_1]; omega) | (simp; omega)))
 refine .seq (.rgn [bf_ [] 1000 (hw_ s.expr s2 (by omega)) (ttE.seg 1000 s.expr)] (by simp only [go_sem, seval, ag_, bq_, cb_, bf_, a1_, ao_, bd_, an_, ct_ (show 1000 + ttE.N s.expr = 1000 + (ttE.B 1000 s.expr).length by rw [ttE.len])]; rfl) ?_ ?_)
 ·(first | trivial | (simp; done) | (and_intros <;> first | trivial | rfl | exact ap_ _ _ | exact (ttE.own _ _).2 | exact ttE.lst_own _ _ _ _ | omega | (simp; done) | (simp only [TT.lst_len, TT.len]; rw [List.all_eq_true]; intro x hx; rw [List.mem_range'_1] at hx; simp [List.mem_range'_1]; omega) | (simp; omega)))
 refine .seq (.rgn [bf_ [] (1000 + ttE.N s.expr) (hw_ s.thn s3 (by omega)) (ttE.seg (1000 + ttE.N s.expr) s.thn)] (by simp only [go_sem, seval, ag_, bq_, cb_, bf_, a1_, ao_, bd_, an_, ct_ (show 1000 + ttE.N s.expr = 1000 + (ttE.B 1000 s.expr).length by rw [ttE.len])]; rfl) ?_ ?_)
 ·(first | trivial | (simp; done) | (and_intros <;> first | trivial | rfl | exact ap_ _ _ | exact (ttE.own _ _).2 | exact ttE.lst_own _ _ _ _ | omega | (simp; done) | (simp only [TT.lst_len, TT.len]; rw [List.all_eq_true]; intro x hx; rw [List.mem_range'_1] at hx; simp [List.mem_range'_1]; omega) | (simp; omega)))
 refine .seq (.rgn [] (by simp only [go_sem, seval, ag_, bq_, cb_, bf_, a1_, ao_, bd_, an_, ct_ (show 1000 + ttE.N s.expr = 1000 + (ttE.B 1000 s.expr).length by rw [ttE.len])]; rfl) ?_ ?_)
 ·(first | trivial | (simp; done) | (and_intros <;> first | trivial | rfl | exact ap_ _ _ | exact (ttE.own _ _).2 | exact ttE.lst_own _ _ _ _ | omega | (simp; done) | (simp only [TT.lst_len, TT.len]; rw [List.all_eq_true]; intro x hx; rw [List.mem_range'_1] at hx; simp [List.mem_range'_1]; omega) | (simp; omega)))
 refine .ret ⟨.inr rfl, ?_⟩
 exact ttS.out_one (by simp only [Tryz.results20]; rfl) (by simp only [ax_, bj_, go_sem, seval, ag_, bq_, cb_, bf_, a1_, ao_, bd_, an_, ct_ (show 1000 + ttE.N s.expr = 1000 + (ttE.B 1000 s.expr).length by rw [ttE.len])]) (by simp only [bi_, go_sem, seval, ag_, bq_, cb_, bf_, a1_, ao_, bd_, an_, ct_ (show 1000 + ttE.N s.expr = 1000 + (ttE.B 1000 s.expr).length by rw [ttE.len])] <;> rfl) (by intro i b hb; show be_ _ _ = _; rw [cm_, if_neg (by omega), cm_, if_neg (by omega), cm_, if_neg (by omega), ck_]; exact hb)
theorem vy_ (s : Bl) (hs : smb s = true) (hn : ttB.N s ≤ 10000000) : ACall En 93 [.ag (bC s)] [] [.ag (ttB.O 0 s)] (ttB.B 0 s) := by
 obtain ⟨s1, s2, s3⟩ := eu_ hs
 have hn' : ttE.N s.expr + ttE.N s.thn ≤ 10000000 := hn
 refine am_ (fn := Tryz.f93) (List.range' 1000 (ttB.N s)) Tryz.func93 rfl rfl (by simp) fun C => ?_
 rw [a2_]
 simp only [Tryz.ntmps93, T7_, List.length_nil, Nat.reduceAdd, Nat.reduceSub, List.replicate_succ, List.replicate_zero, List.cons_append, List.nil_append, bn_]
 refine .seq (.rgn [] (by simp only [go_sem, seval, ai_, bq_, cb_, bf_, a1_, ao_, bd_, an_, ct_ (show 1000 + ttE.N s.expr = 1000 + (ttE.B 1000 s.expr).length by rw [ttE.len])]; rfl) ?_ ?_)
 ·(first | trivial | (simp; done) | (and_intros <;> first | trivial | rfl | exact ap_ _ _ | exact (ttE.own _ _).2 | exact ttE.lst_own _ _ _ _ | omega | (simp; done) | (simp only [TT.lst_len, TT.len]; rw [List.all_eq_true]; intro x hx; rw [List.mem_range'_1] at hx; simp [List.mem_range'_1]; omega) | (simp; omega)))
 refine .seq (.rgn [] (by simp only [go_sem, seval, ai_, bq_, cb_, bf_, a1_, ao_, bd_, an_, ct_ (show 1000 + ttE.N s.expr = 1000 + (ttE.B 1000 s.expr).length by rw [ttE.len])]; rfl) ?_ ?_)
 ·(first | trivial | (simp; done) | (and_intros <;> first | trivial | rfl | exact ap_ _ _ | exact (ttE.own _ _).2 | exact ttE.lst_own _ _ _ _ | omega | (simp; done) | (simp only [TT.lst_len, TT.len]; rw [List.all_eq_true]; intro x hx; rw [List.mem_range'_1] at hx; simp [List.mem_range'_1]; omega) | (simp; omega)))
 refine .seq (.rgn [] (by simp only [go_sem, seval, ai_, bq_, cb_, bf_, a1_, ao_, bd_, an_, ct_ (show 1000 + ttE.N s.expr = 1000 + (ttE.B 1000 s.expr).length by rw [ttE.len])]; rfl) ?_ ?_)
 ·(first | trivial | (simp; done) | (and_intros <;> first | trivial | rfl | exact ap_ _ _ | exact (ttE.own _ _).2 | exact ttE.lst_own _ _ _ _ | omega | (simp; done) | (simp only [TT.lst_len, TT.len]; rw [List.all_eq_true]; intro x hx; rw [List.mem_range'_1] at hx; simp [List.mem_range'_1]; omega) | (simp; omega)))
 refine .seq (.rgn [] (by simp only [go_sem, seval, ai_, bq_, cb_, bf_, a1_, ao_, bd_, an_, ct_ (show 1000 + ttE.N s.expr = 1000 + (ttE.B 1000 s.expr).length by rw [ttE.len])]; rfl) ?_ ?_)
 ·(first | trivial | (simp; done) | (and_intros <;> first | trivial | rfl | exact ap_ _ _ | exact (ttE.own _ _).2 | exact ttE.lst_own _ _ _ _ | omega | (simp; done) | (simp only [TT.lst_len, TT.len]; rw [List.all_eq_true]; intro x hx; rw [List.mem_range'_1] at hx; simp [List.mem_range'_1]; omega) | (simp; omega)))
 refine .seq (.rgn [bf_ [] 1000 (hw_ s.expr s2 (by omega)) (ttE.seg 1000 s.expr)] (by simp only [go_sem, seval, ai_, bq_, cb_, bf_, a1_, ao_, bd_, an_, ct_ (show 1000 + ttE.N s.expr = 1000 + (ttE.B 1000 s.expr).length by rw [ttE.len])]; rfl) ?_ ?_)
 ·(first | trivial | (simp; done) | (and_intros <;> first | trivial | rfl | exact ap_ _ _ | exact (ttE.own _ _).2 | exact ttE.lst_own _ _ _ _ | omega | (simp; done) | (simp only [TT.lst_len, TT.len]; rw [List.all_eq_true]; intro x hx; rw [List.mem_range'_1] at hx; simp [List.mem_range'_1]; omega) | (simp; omega)))
 refine .seq (.rgn [bf_ [] (1000 + ttE.N s.expr) (hw_ s.thn s3 (by omega)) (ttE.seg (1000 + ttE.N s.expr) s.thn)] (by simp only [go_sem, seval, ai_, bq_, cb_, bf_, a1_, ao_, bd_, an_, ct_ (show 1000 + ttE.N s.expr = 1000 + (ttE.B 1000 s.expr).length by rw [ttE.len])]; rfl) ?_ ?_)
 ·(first | trivial | (simp; done) | (and_intros <;> first | trivial | rfl | exact ap_ _ _ | exact (ttE.own _ _).2 | exact ttE.lst_own _ _ _ _ | omega | (simp; done) | (simp only [TT.lst_len, TT.len]; rw [List.all_eq_true]; intro x hx; rw [List.mem_range'_1] at hx; simp [List.mem_range'_1]; omega) | (simp; omega)))
 refine .seq (.rgn [] (by simp only [go_sem, seval, ai_, bq_, cb_, bf_, a1_, ao_, bd_, an_, ct_ (show 1000 + ttE.N s.expr = 1000 + (ttE.B 1000 s.expr).length by rw [ttE.len])]; rfl) ?_ ?_)
 ·(first | trivial | (simp; done) | (and_intros <;> first | trivial | rfl | exact ap_ _ _ | exact (ttE.own _ _).2 | exact ttE.lst_own _ _ _ _ | omega | (simp; done) | (simp only [TT.lst_len, TT.len]; rw [List.all_eq_true]; intro x hx; rw [List.mem_range'_1] at hx; simp [List.mem_range'_1]; omega) | (simp; omega)))
 refine .ret ⟨.inr rfl, ?_⟩
 exact ttB.out_one (by simp only [Tryz.results93]; rfl) (by simp only [ax_, bj_, go_sem, seval, ai_, bq_, cb_, bf_, a1_, ao_, bd_, an_, ct_ (show 1000 + ttE.N s.expr = 1000 + (ttE.B 1000 s.expr).length by rw [ttE.len])]) (by simp only [bi_, go_sem, seval, ai_, bq_, cb_, bf_, a1_, ao_, bd_, an_, ct_ (show 1000 + ttE.N s.expr = 1000 + (ttE.B 1000 s.expr).length by rw [ttE.len])] <;> rfl) (by intro i b hb; show be_ _ _ = _; rw [cm_, if_neg (by omega), cm_, if_neg (by omega), cm_, if_neg (by omega), ck_]; exact hb)
theorem sr_ (l : List Bl) (hs : h4_ l = true) (hk : l.length ≤ 1048576) (hB : ttB.NL l ≤ 10000000) : ACall En 29 [.sl false (bLR l)] [] [.ow 0 10 0 l.length] (ttB.lst 83 10 0 l) := by
 have hN := fun k => ttB.NL_le l k
 have hO : ∀ b a, (ttB.O b a).length = 10 := fun _ _ => rfl
 have hz4 : ∀ u, as_ u z10 = true := fun u => rfl
 refine am_ (fn := Tryz.f29) (17 :: List.range' 1000 (ttB.NL l)) Tryz.func29 rfl rfl (by simp) fun C => ?_
 rw [a2_]
 simp only [Tryz.ntmps29, T7_, List.length_nil, Nat.reduceAdd, Nat.reduceSub, List.replicate_succ, List.replicate_zero, List.cons_append, List.nil_append, bn_]
 refine .seq (.rgn [] (by simp only [go_sem, seval, aq_, ttB.OR_len, bf_, a1_, bd_, aj_, ah_, ai_]; rfl) ?_ ?_)
 ·first | trivial | simp
 refine .seq (.rgn [] (by simp only [go_sem, seval, aq_, ttB.OR_len, bf_, a1_, bd_, aj_, ah_, ai_]; rfl) ?_ ?_)
 ·simp; omega
 refine .seq (.seq (.rgn [] (by simp only [go_sem, seval, aq_, ttB.OR_len, bf_, a1_, bd_, aj_, ah_, ai_]; rfl) ?_ ?_))
 ·first | trivial | simp
 refine .block (.loopK (fun k : Nat => ⟨[.sl false (bLR l), .no, .no, .ow 17 10 0 l.length, .i .i64 k, .no, .no, .no, .no, .no, .no, .no, .no, .no, .no, .no, .no, .no, .no, .no, .no, .no, .no], be_ ((17, ⟨83, 10, cr_ (ttB.OR 1000 l) z10 k⟩) :: bn_ 1000 (ttB.BL 1000 (l.take k))), us (17 :: List.range' 1000 (ttB.NL (l.take k)))⟩) (fun k : Nat => k ≤ l.length) (fun k : Nat => l.length - k) (0) ?_ ?_ (fun k hI => ?_))
 ·simp
 ·exact Can.weak (Weak.lit (by simp only [go_sem, seval, aq_, ttB.OR_len, bf_, a1_, bd_, aj_, ah_, ai_, at_, leV, as_, ar_, V.inn, us, T9_, Ta_] <;> (simp)) (by simp only [go_sem, seval, aq_, ttB.OR_len, bf_, a1_, bd_, aj_, ah_, ai_, at_, leV, as_, ar_, V.inn, us, T9_, Ta_]) (by simp only [go_sem, seval, aq_, ttB.OR_len, bf_, a1_, bd_, aj_, ah_, ai_, at_, leV, as_, ar_, V.inn, us, T9_, Ta_] <;> (exact ttB.wk0 rfl hz4)))
 refine .seq (.seq (.rgn [] (by simp only [go_sem, seval, aq_, ttB.OR_len, bf_, a1_, bd_, aj_, ah_, ai_]; rfl) ?_ ?_))
 ·first | trivial | simp
 refine .condB (by simp only [go_sem, seval, aq_, ttB.OR_len, bf_, a1_, bd_, aj_, ah_, ai_]; rfl) (by simp only [go_sem, seval, aq_, ttB.OR_len, bf_, a1_, bd_, aj_, ah_, ai_]) (fun h11 => ?_) (fun h11 => ?_)
 ·refine .skip (.seq (.block (.rgn [bf_ [] (1000 + ttB.NL (l.take k)) (vy_ (l.getD k B0) (hv_ hs (show k < l.length by simpa using h11)) (Nat.le_trans (ttB.N_mem (bw_ (show k < l.length by simpa using h11))) hB)) (ttB.seg (1000 + ttB.NL (l.take k)) (l.getD k B0))] (by simp only [go_sem, seval, aq_, ttB.OR_len, bf_, a1_, bd_, aj_, ah_, ai_, et_ (show k < l.length by simpa using h11), ct_ (show 1000 + ttB.NL (l.take k) = 1000 + (ttB.BL 1000 (l.take k)).length by rw [ttB.BL_len]), ← ttB.BL_take (d := B0) (show k < l.length by simpa using h11)]; rfl) ?_ ?_)))
  ·simp only [T3_] at h11; have hk' : k < l.length := (by omega); have q := hN (k + 1); rw [ttB.NL_take (d := B0) hk'] at q; exact ⟨⟨⟨⟨by omega, by omega⟩, ⟨ap_ _ _, rfl, (ttB.own _ _).2⟩, by rw [ttB.len]; exact y1_ (by decide) (by decide) (by omega)⟩, by omega, by omega⟩, hk', hO _ _, rfl⟩
  refine .rgn [] (by simp only [go_sem, seval, aq_, ttB.OR_len, bf_, a1_, bd_, aj_, ah_, ai_]; rfl) ?_ ?_
  ·first | trivial | simp
  refine Exists.intro (k + 1) ⟨?_, ?_, ?_⟩
  ·simp at h11; omega
  ·simp at h11; omega
  exact Can.weak (Weak.lit (by simp only [go_sem, seval, aq_, ttB.OR_len, bf_, a1_, bd_, aj_, ah_, ai_, at_, leV, as_, ar_, V.inn, us, T9_, Ta_] <;> (rw [bm_ (by simp at h11; omega) (by simp at h11; omega)]; simp)) (by simp only [go_sem, seval, aq_, ttB.OR_len, bf_, a1_, bd_, aj_, ah_, ai_, at_, leV, as_, ar_, V.inn, us, T9_, Ta_]) (by simp only [go_sem, seval, aq_, ttB.OR_len, bf_, a1_, bd_, aj_, ah_, ai_, at_, leV, as_, ar_, V.inn, us, T9_, Ta_] <;> (exact ttB.wkS (by simpa using h11) (by decide) hO hz4 rfl)))
 ·refine .exit (.seq (.rgn [] (by simp only [go_sem, seval, aq_, ttB.OR_len, bf_, a1_, bd_, aj_, ah_, ai_]; rfl) ?_ ?_))
  ·first | trivial | simp
  refine .ret ⟨.inr rfl, ?_⟩
  exact ttB.out_lst (by simp only [Tryz.results29]; rfl) (by simp only [ax_, bj_, go_sem, seval, aq_, ttB.OR_len, bf_, a1_, bd_, aj_, ah_, ai_]) (by simp only [bi_, go_sem, seval, aq_, ttB.OR_len, bf_, a1_, bd_, aj_, ah_, ai_] <;> rfl) (by decide) (by simp at h11; show be_ _ = be_ _; rw [fx_ (by rw [ttB.OR_len]; exact h11), T1_ h11])
end
end Go.Proofs.YtcigkafioinfoaaGreatDoor
