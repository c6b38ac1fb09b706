/- Copies of the exact laws, as trees of places of one's own. Conditions: none. -/
import Derived.Test.YtcigkafioinfoaaGreatDoorK18
import Derived.Test.YtcigkafioinfoaaGreatDoorKm
import Derived.Test.YtcigkafioinfoaaGreatDoorKq2
import Derived.Test.YtcigkafioinfoaaGreatDoorK18b
set_option linter.unusedVariables false
set_option linter.unusedSimpArgs false
namespace Go.Proofs.YtcigkafioinfoaaGreatDoor
section
open Go.RowKit
set_option maxRecDepth 100000
set_option maxHeartbeats 4000000
/-! ### the walks -/
def ToO (e : E) : Prop := ACall En 86 [.ag (eC e)] [] [.ag (ttE.O 0 e)] (ttE.B 0 e)
theorem u5_ (kids : List E) (ih : ∀ e ∈ kids, ToO e) (hk : kids.length ≤ 10000000) (hn : ttE.NL kids ≤ 10000000) : ACall En 151 [.sl false (eR kids)] [] [.ow 0 4 0 kids.length] (ttE.lst 33 4 0 kids) := by
 have hN := fun k => ttE.NL_le kids k
 have hO : ∀ b a, (ttE.O b a).length = 4 := fun _ _ => rfl
 have hz4 : ∀ u, az_ u z4 = true := fun u => rfl
 refine an_ (fn := Tryz.f151) (17 :: List.range' 1000 (ttE.NL kids)) Tryz.func151 rfl rfl (by simp) fun C => ?_
 rw [bb_]
 simp only [Tryz.ntmps151, T7_, List.length_nil, Nat.reduceAdd, Nat.reduceSub, List.replicate_succ, List.replicate_zero, List.cons_append, List.nil_append, bu_]
 refine .seq (.rgn [] (by simp only [go_sem, seval, au_, ttE.OR_len, a8_, av_, ap_]; rfl) ?_ ?_)
 ·first | trivial | simp
 refine .seq (.rgn [] (by simp only [go_sem, seval, au_, ttE.OR_len, a8_, av_, ap_]; rfl) ?_ ?_)
 ·simp; omega
 refine .seq (.seq (.rgn [] (by simp only [go_sem, seval, au_, ttE.OR_len, a8_, av_, ap_]; rfl) ?_ ?_))
 ·first | trivial | simp
 refine .block (.loopK (fun k : Nat => ⟨[.sl false (eR kids), .no, .no, .ow 17 4 0 kids.length, .i .i64 k, .no, .no, .no, .no, .no, .no, .no, .no, .no, .no, .no, .no, .no, .no, .no, .no, .no, .no], bf_ ((17, ⟨33, 4, de_ (ttE.OR 1000 kids) z4 k⟩) :: bu_ 1000 (ttE.BL 1000 (kids.take k))), us (17 :: List.range' 1000 (ttE.NL (kids.take k)))⟩) (fun k : Nat => k ≤ kids.length) (fun k : Nat => kids.length - k) (0) ?_ ?_ (fun k hI => ?_))
 ·simp
 ·exact Can.weak (Weak.lit (by simp only [go_sem, seval, au_, ttE.OR_len, a8_, av_, ap_, a2_, leV, az_, ay_, V.inn, us, T9_, Ta_] <;> (simp)) (by simp only [go_sem, seval, au_, ttE.OR_len, a8_, av_, ap_, a2_, leV, az_, ay_, V.inn, us, T9_, Ta_]) (by simp only [go_sem, seval, au_, ttE.OR_len, a8_, av_, ap_, a2_, leV, az_, ay_, V.inn, us, T9_, Ta_] <;> (exact ttE.wk0 rfl hz4)))
 refine .seq (.seq (.rgn [] (by simp only [go_sem, seval, au_, ttE.OR_len, a8_, av_, ap_]; rfl) ?_ ?_))
 ·first | trivial | simp
 refine .condB (by simp only [go_sem, seval, au_, ttE.OR_len, a8_, av_, ap_]; rfl) (by simp only [go_sem, seval, au_, ttE.OR_len, a8_, av_, ap_]) (fun h11 => ?_) (fun h11 => ?_)
 ·refine .skip (.seq (.block (.rgn [a8_ [] (1000 + ttE.NL (kids.take k)) (ih (kids.getD k E0) (b2_ (by simpa using h11))) (ttE.seg (1000 + ttE.NL (kids.take k)) (kids.getD k E0))] (by simp only [go_sem, seval, au_, ttE.OR_len, a8_, av_, ap_, c7_ (show k < kids.length by simpa using h11), b6_ (show 1000 + ttE.NL (kids.take k) = 1000 + (ttE.BL 1000 (kids.take k)).length by rw [ttE.BL_len]), ← ttE.BL_take (d := E0) (show k < kids.length by simpa using h11)]; rfl) ?_ ?_)))
  ·simp only [T3_] at h11; have hk' : k < kids.length := (by omega); have q := hN (k + 1); rw [ttE.NL_take (d := E0) hk'] at q; exact ⟨⟨⟨⟨by omega, by omega⟩, ⟨ao_ _ _, rfl, (ttE.own _ _).2⟩, by rw [ttE.len]; exact aa2_ (by decide) (by decide) (by omega)⟩, by omega, by omega⟩, hk', hO _ _, rfl⟩
  refine .rgn [] (by simp only [go_sem, seval, au_, ttE.OR_len, a8_, av_, ap_]; rfl) ?_ ?_
  ·first | trivial | simp
  refine Exists.intro (k + 1) ⟨?_, ?_, ?_⟩
  ·simp at h11; omega
  ·simp at h11; omega
  exact Can.weak (Weak.lit (by simp only [go_sem, seval, au_, ttE.OR_len, a8_, av_, ap_, a2_, leV, az_, ay_, V.inn, us, T9_, Ta_] <;> (rw [bv_ (by simp at h11; omega) (by simp at h11; omega)]; simp)) (by simp only [go_sem, seval, au_, ttE.OR_len, a8_, av_, ap_, a2_, leV, az_, ay_, V.inn, us, T9_, Ta_]) (by simp only [go_sem, seval, au_, ttE.OR_len, a8_, av_, ap_, a2_, leV, az_, ay_, V.inn, us, T9_, Ta_] <;> (exact ttE.wkS (by simpa using h11) (by decide) hO hz4 rfl)))
 ·refine .exit (.seq (.rgn [] (by simp only [go_sem, seval, au_, ttE.OR_len, a8_, av_, ap_]; rfl) ?_ ?_))
  ·first | trivial | simp
  refine .ret ⟨.inr rfl, ?_⟩
  exact ttE.out_lst (by simp only [Tryz.results151]; rfl) (by simp only [ba_, bs_, go_sem, seval, au_, ttE.OR_len, a8_, av_, ap_]) (by simp only [bq_, go_sem, seval, au_, ttE.OR_len, a8_, av_, ap_] <;> rfl) (by decide) (by simp at h11; show bf_ _ = bf_ _; rw [g1_ (by rw [ttE.OR_len]; exact h11), T1_ h11])
theorem pv_ (e : E) : sm e = true → ttE.N e ≤ 10000000 → ToO e := by
 induction e using E.ind' with
 | h e ih =>
 intro hs hn
 obtain ⟨a1, a2, a3⟩ := d2_ hs
 have hn2 : ttE.NL e.kids ≤ 10000000 := by rw [dz_] at hn; omega
 have hk := nd_ e.kids
 have hsub : ∀ x ∈ e.kids, ttE.N x ≤ 10000000 := fun x hx => Nat.le_trans (ttE.N_mem hx) hn2
 have hB := kw_ 1000 e
 refine an_ (fn := Tryz.f86) (List.range' 1000 (ttE.N e)) Tryz.func86 rfl rfl (by simp) fun C => ?_
 rw [bb_]
 simp only [Tryz.ntmps86, T7_, List.length_nil, Nat.reduceAdd, Nat.reduceSub, List.replicate_succ, List.replicate_zero, List.cons_append, List.nil_append, bu_]
 refine .seq (.rgn [] (by simp only [go_sem, seval, bm_, a8_, av_, aj_, ag_]; rfl) ?_ ?_)
 ·(first | trivial | (simp; done) | (and_intros <;> first | trivial | rfl | exact ao_ _ _ | exact (ttE.own _ _).2 | exact ttE.lst_own _ _ _ _ | omega | (simp; done) | (simp only [TT.lst_len, TT.len]; rw [List.all_eq_true]; intro x hx; rw [List.mem_range'_1] at hx; simp [List.mem_range'_1]; omega) | (simp; omega)))
 refine .seq (.rgn [] (by simp only [go_sem, seval, bm_, a8_, av_, aj_, ag_]; rfl) ?_ ?_)
 ·(first | trivial | (simp; done) | (and_intros <;> first | trivial | rfl | exact ao_ _ _ | exact (ttE.own _ _).2 | exact ttE.lst_own _ _ _ _ | omega | (simp; done) | (simp only [TT.lst_len, TT.len]; rw [List.all_eq_true]; intro x hx; rw [List.mem_range'_1] at hx; simp [List.mem_range'_1]; omega) | (simp; omega)))
 refine .seq (.rgn [] (by simp only [go_sem, seval, bm_, a8_, av_, aj_, ag_]; rfl) ?_ ?_)
 ·(first | trivial | (simp; done) | (and_intros <;> first | trivial | rfl | exact ao_ _ _ | exact (ttE.own _ _).2 | exact ttE.lst_own _ _ _ _ | omega | (simp; done) | (simp only [TT.lst_len, TT.len]; rw [List.all_eq_true]; intro x hx; rw [List.mem_range'_1] at hx; simp [List.mem_range'_1]; omega) | (simp; omega)))
 refine .seq (.rgn [] (by simp only [go_sem, seval, bm_, a8_, av_, aj_, ag_]; rfl) ?_ ?_)
 ·(first | trivial | (simp; done) | (and_intros <;> first | trivial | rfl | exact ao_ _ _ | exact (ttE.own _ _).2 | exact ttE.lst_own _ _ _ _ | omega | (simp; done) | (simp only [TT.lst_len, TT.len]; rw [List.all_eq_true]; intro x hx; rw [List.mem_range'_1] at hx; simp [List.mem_range'_1]; omega) | (simp; omega)))
 refine .seq (.rgn [] (by simp only [go_sem, seval, bm_, a8_, av_, aj_, ag_]; rfl) ?_ ?_)
 ·(first | trivial | (simp; done) | (and_intros <;> first | trivial | rfl | exact ao_ _ _ | exact (ttE.own _ _).2 | exact ttE.lst_own _ _ _ _ | omega | (simp; done) | (simp only [TT.lst_len, TT.len]; rw [List.all_eq_true]; intro x hx; rw [List.mem_range'_1] at hx; simp [List.mem_range'_1]; omega) | (simp; omega)))
 refine .seq (.rgn [a8_ [] 1000 (u5_ e.kids (fun x hx => ih x hx (c0_ a3 x hx) (hsub x hx)) (by omega) hn2) (ttE.lst_seg 33 4 1000 e.kids)] (by simp only [go_sem, seval, bm_, a8_, av_, aj_, ag_]; rfl) ?_ ?_)
 ·(first | trivial | (simp; done) | (and_intros <;> first | trivial | rfl | exact ao_ _ _ | exact (ttE.own _ _).2 | exact ttE.lst_own _ _ _ _ | omega | (simp; done) | (simp only [TT.lst_len, TT.len]; rw [List.all_eq_true]; intro x hx; rw [List.mem_range'_1] at hx; simp [List.mem_range'_1]; omega) | (simp; omega)))
 refine .seq (.rgn [] (by simp only [go_sem, seval, bm_, a8_, av_, aj_, ag_]; rfl) ?_ ?_)
 ·(first | trivial | (simp; done) | (and_intros <;> first | trivial | rfl | exact ao_ _ _ | exact (ttE.own _ _).2 | exact ttE.lst_own _ _ _ _ | omega | (simp; done) | (simp only [TT.lst_len, TT.len]; rw [List.all_eq_true]; intro x hx; rw [List.mem_range'_1] at hx; simp [List.mem_range'_1]; omega) | (simp; omega)))
 refine .ret ⟨.inr rfl, ?_⟩
 exact ttE.out_one (by simp only [Tryz.results86]; rfl) (by simp only [ba_, bs_, go_sem, seval, bm_, a8_, av_, aj_, ag_]) (by simp only [bq_, go_sem, seval, bm_, a8_, av_, aj_, ag_] <;> rfl) (by intro i b hb; rw [hB] at hb; show bf_ _ _ = _; rw [as_, if_neg (by omega), as_, if_neg (by omega), as_, if_neg (by omega), at_]; exact hb)
theorem qq_ (s : Sl) (hs : fg_ s = true) (hn : ttS.N s ≤ 10000000) : ACall En 20 [.ag (sC s)] [] [.ag (ttS.O 0 s)] (ttS.B 0 s) := by
 obtain ⟨s1, s1', s2, s3⟩ := d9_ hs
 have hn' : ttE.N s.expr + ttE.N s.thn ≤ 10000000 := hn
 refine an_ (fn := Tryz.f20) (List.range' 1000 (ttS.N s)) Tryz.func20 rfl rfl (by simp) fun C => ?_
 rw [bb_]
 simp only [Tryz.ntmps20, T7_, List.length_nil, Nat.reduceAdd, Nat.reduceSub, List.replicate_succ, List.replicate_zero, List.cons_append, List.nil_append, bu_]
 refine .seq (.rgn [] (by simp only [go_sem, seval, aa_, bm_, bz_, a8_, av_, aj_, ap_, ag_, b6_ (show 1000 + ttE.N s.expr = 1000 + (ttE.B 1000 s.expr).length by rw [ttE.len])]; rfl) ?_ ?_)
 ·(first | trivial | (simp; done) | (and_intros <;> first | trivial | rfl | exact ao_ _ _ | exact (ttE.own _ _).2 | exact ttE.lst_own _ _ _ _ | omega | (simp; done) | (simp only [TT.lst_len, TT.len]; rw [List.all_eq_true]; intro x hx; rw [List.mem_range'_1] at hx; simp [List.mem_range'_1]; omega) | (simp; omega)))
 refine .seq (.rgn [] (by simp only [go_sem, seval, aa_, bm_, bz_, a8_, av_, aj_, ap_, ag_, b6_ (show 1000 + ttE.N s.expr = 1000 + (ttE.B 1000 s.expr).length by rw [ttE.len])]; rfl) ?_ ?_)
 ·(first | trivial | (simp; done) | (and_intros <;> first | trivial | rfl | exact ao_ _ _ | exact (ttE.own _ _).2 | exact ttE.lst_own _ _ _ _ | omega | (simp; done) | (simp only [TT.lst_len, TT.len]; rw [List.all_eq_true]; intro x hx; rw [List.mem_range'_1] at hx; simp [List.mem_range'_1]; omega) | (simp; omega)))
 refine .seq (.rgn [] (by simp only [go_sem, seval, aa_, bm_, bz_, a8_, av_, aj_, ap_, ag_, b6_ (show 1000 + ttE.N s.expr = 1000 + (ttE.B 1000 s.expr).length by rw [ttE.len])]; rfl) ?_ ?_)
 ·(first | trivial | (simp; done) | (and_intros <;> first | trivial | rfl | exact ao_ _ _ | exact (ttE.own _ _).2 | exact ttE.lst_own _ _ _ _ | omega | (simp; done) | (simp only [TT.lst_len, TT.len]; rw [List.all_eq_true]; intro x hx; rw [List.mem_range'_1] at hx; simp [List.mem_range'_1]; omega) | (simp; omega)))
 refine .seq (.rgn [] (by simp only [go_sem, seval, aa_, bm_, bz_, a8_, av_, aj_, ap_, ag_, b6_ (show 1000 + ttE.N s.expr = 1000 + (ttE.B 1000 s.expr).length by rw [ttE.len])]; rfl) ?_ ?_)
 ·(first | trivial | (simp; done) | (and_intros <;> first | trivial | rfl | exact ao_ _ _ | exact (ttE.own _ _).2 | exact ttE.lst_own _ _ _ _ | omega | (simp; done) | (simp only [TT.lst_len, TT.len]; rw [List.all_eq_true]; intro x hx; rw [List.mem_range'_1] at hx; simp [List.mem_range'_1]; omega) | (simp; omega)))
 refine .seq (.rgn [] (by simp only [go_sem, seval, aa_, bm_, bz_, a8_, av_, aj_, ap_, ag_, b6_ (show 1000 + ttE.N s.expr = 1000 + (ttE.B 1000 s.expr).length by rw [ttE.len])]; rfl) ?_ ?_)
 ·(first | trivial | (simp; done) | (and_intros <;> first | trivial | rfl | exact ao_ _ _ | exact (ttE.own _ _).2 | exact ttE.lst_own _ _ _ _ | omega | (simp; done) | (simp only [TT.lst_len, TT.len]; rw [List.all_eq_true]; intro x hx; rw [List.mem_range'_1] at hx; simp [List.mem_range'_1]; omega) | (simp; omega)))
 refine .seq (.rgn [a8_ [] 1000 (pv_ s.expr s2 (by omega)) (ttE.seg 1000 s.expr)] (by simp only [go_sem, seval, aa_, bm_, bz_, a8_, av_, aj_, ap_, ag_, b6_ (show 1000 + ttE.N s.expr = 1000 + (ttE.B 1000 s.expr).length by rw [ttE.len])]; rfl) ?_ ?_)
 ·(first | trivial | (simp; done) | (and_intros <;> first | trivial | rfl | exact ao_ _ _ | exact (ttE.own _ _).2 | exact ttE.lst_own _ _ _ _ | omega | (simp; done) | (simp only [TT.lst_len, TT.len]; rw [List.all_eq_true]; intro x hx; rw [List.mem_range'_1] at hx; simp [List.mem_range'_1]; omega) | (simp; omega)))
 refine .seq (.rgn [a8_ [] (1000 + ttE.N s.expr) (pv_ s.thn s3 (by omega)) (ttE.seg (1000 + ttE.N s.expr) s.thn)] (by simp only [go_sem, seval, aa_, bm_, bz_, a8_, av_, aj_, ap_, ag_, b6_ (show 1000 + ttE.N s.expr = 1000 + (ttE.B 1000 s.expr).length by rw [ttE.len])]; rfl) ?_ ?_)
 ·(first | trivial | (simp; done) | (and_intros <;> first | trivial | rfl | exact ao_ _ _ | exact (ttE.own _ _).2 | exact ttE.lst_own _ _ _ _ | omega | (simp; done) | (simp only [TT.lst_len, TT.len]; rw [List.all_eq_true]; intro x hx; rw [List.mem_range'_1] at hx; simp [List.mem_range'_1]; omega) | (simp; omega)))
 refine .seq (.rgn [] (by simp only [go_sem, seval, aa_, bm_, bz_, a8_, av_, aj_, ap_, ag_, b6_ (show 1000 + ttE.N s.expr = 1000 + (ttE.B 1000 s.expr).length by rw [ttE.len])]; rfl) ?_ ?_)
 ·(first | trivial | (simp; done) | (and_intros <;> first | trivial | rfl | exact ao_ _ _ | exact (ttE.own _ _).2 | exact ttE.lst_own _ _ _ _ | omega | (simp; done) | (simp only [TT.lst_len, TT.len]; rw [List.all_eq_true]; intro x hx; rw [List.mem_range'_1] at hx; simp [List.mem_range'_1]; omega) | (simp; omega)))
 refine .ret ⟨.inr rfl, ?_⟩
 exact ttS.out_one (by simp only [Tryz.results20]; rfl) (by simp only [ba_, bs_, go_sem, seval, aa_, bm_, bz_, a8_, av_, aj_, ap_, ag_, b6_ (show 1000 + ttE.N s.expr = 1000 + (ttE.B 1000 s.expr).length by rw [ttE.len])]) (by simp only [bq_, go_sem, seval, aa_, bm_, bz_, a8_, av_, aj_, ap_, ag_, b6_ (show 1000 + ttE.N s.expr = 1000 + (ttE.B 1000 s.expr).length by rw [ttE.len])] <;> rfl) (by intro i b hb; show bf_ _ _ = _; rw [as_, if_neg (by omega), as_, if_neg (by omega), as_, if_neg (by omega), at_]; exact hb)
theorem uu_ (l : List Sl) (hs : jo_ l = true) (hk : l.length ≤ 1048576) (hB : ttS.NL l ≤ 10000000) : ACall En 35 [.sl false (sR l)] [] [.ow 0 11 0 l.length] (ttS.lst 35 11 0 l) := by
 have hN := fun k => ttS.NL_le l k
 have hO : ∀ b a, (ttS.O b a).length = 11 := fun _ _ => rfl
 have hz4 : ∀ u, az_ u z11 = true := fun u => rfl
 refine an_ (fn := Tryz.f35) (17 :: List.range' 1000 (ttS.NL l)) Tryz.func35 rfl rfl (by simp) fun C => ?_
 rw [bb_]
 simp only [Tryz.ntmps35, T7_, List.length_nil, Nat.reduceAdd, Nat.reduceSub, List.replicate_succ, List.replicate_zero, List.cons_append, List.nil_append, bu_]
 refine .seq (.rgn [] (by simp only [go_sem, seval, au_, ttS.OR_len, a8_, av_, ap_, aq_, am_, aa_]; rfl) ?_ ?_)
 ·first | trivial | simp
 refine .seq (.rgn [] (by simp only [go_sem, seval, au_, ttS.OR_len, a8_, av_, ap_, aq_, am_, aa_]; rfl) ?_ ?_)
 ·simp; omega
 refine .seq (.seq (.rgn [] (by simp only [go_sem, seval, au_, ttS.OR_len, a8_, av_, ap_, aq_, am_, aa_]; rfl) ?_ ?_))
 ·first | trivial | simp
 refine .block (.loopK (fun k : Nat => ⟨[.sl false (sR l), .no, .no, .ow 17 11 0 l.length, .i .i64 k, .no, .no, .no, .no, .no, .no, .no, .no, .no, .no, .no, .no, .no, .no, .no, .no, .no, .no], bf_ ((17, ⟨35, 11, de_ (ttS.OR 1000 l) z11 k⟩) :: bu_ 1000 (ttS.BL 1000 (l.take k))), us (17 :: List.range' 1000 (ttS.NL (l.take k)))⟩) (fun k : Nat => k ≤ l.length) (fun k : Nat => l.length - k) (0) ?_ ?_ (fun k hI => ?_))
 ·simp
 ·exact Can.weak (Weak.lit (by simp only [go_sem, seval, au_, ttS.OR_len, a8_, av_, ap_, aq_, am_, aa_, a2_, leV, az_, ay_, V.inn, us, T9_, Ta_] <;> (simp)) (by simp only [go_sem, seval, au_, ttS.OR_len, a8_, av_, ap_, aq_, am_, aa_, a2_, leV, az_, ay_, V.inn, us, T9_, Ta_]) (by simp only [go_sem, seval, au_, ttS.OR_len, a8_, av_, ap_, aq_, am_, aa_, a2_, leV, az_, ay_, V.inn, us, T9_, Ta_] <;> (exact ttS.wk0 rfl hz4)))
 refine .seq (.seq (.rgn [] (by simp only [go_sem, seval, au_, ttS.OR_len, a8_, av_, ap_, aq_, am_, aa_]; rfl) ?_ ?_))
 ·first | trivial | simp
 refine .condB (by simp only [go_sem, seval, au_, ttS.OR_len, a8_, av_, ap_, aq_, am_, aa_]; rfl) (by simp only [go_sem, seval, au_, ttS.OR_len, a8_, av_, ap_, aq_, am_, aa_]) (fun h11 => ?_) (fun h11 => ?_)
 ·refine .skip (.seq (.block (.rgn [a8_ [] (1000 + ttS.NL (l.take k)) (qq_ (l.getD k S0) (gp_ hs (show k < l.length by simpa using h11)) (Nat.le_trans (ttS.N_mem (b2_ (show k < l.length by simpa using h11))) hB)) (ttS.seg (1000 + ttS.NL (l.take k)) (l.getD k S0))] (by simp only [go_sem, seval, au_, ttS.OR_len, a8_, av_, ap_, aq_, am_, aa_, g9_ (show k < l.length by simpa using h11), b6_ (show 1000 + ttS.NL (l.take k) = 1000 + (ttS.BL 1000 (l.take k)).length by rw [ttS.BL_len]), ← ttS.BL_take (d := S0) (show k < l.length by simpa using h11)]; rfl) ?_ ?_)))
  ·simp only [T3_] at h11; have hk' : k < l.length := (by omega); have q := hN (k + 1); rw [ttS.NL_take (d := S0) hk'] at q; exact ⟨⟨⟨⟨by omega, by omega⟩, ⟨ao_ _ _, rfl, (ttS.own _ _).2⟩, by rw [ttS.len]; exact aa2_ (by decide) (by decide) (by omega)⟩, by omega, by omega⟩, hk', hO _ _, rfl⟩
  refine .rgn [] (by simp only [go_sem, seval, au_, ttS.OR_len, a8_, av_, ap_, aq_, am_, aa_]; rfl) ?_ ?_
  ·first | trivial | simp
  refine Exists.intro (k + 1) ⟨?_, ?_, ?_⟩
  ·simp at h11; omega
  ·simp at h11; omega
  exact Can.weak (Weak.lit (by simp only [go_sem, seval, au_, ttS.OR_len, a8_, av_, ap_, aq_, am_, aa_, a2_, leV, az_, ay_, V.inn, us, T9_, Ta_] <;> (rw [bv_ (by simp at h11; omega) (by simp at h11; omega)]; simp)) (by simp only [go_sem, seval, au_, ttS.OR_len, a8_, av_, ap_, aq_, am_, aa_, a2_, leV, az_, ay_, V.inn, us, T9_, Ta_]) (by simp only [go_sem, seval, au_, ttS.OR_len, a8_, av_, ap_, aq_, am_, aa_, a2_, leV, az_, ay_, V.inn, us, T9_, Ta_] <;> (exact ttS.wkS (by simpa using h11) (by decide) hO hz4 rfl)))
 ·refine .exit (.seq (.rgn [] (by simp only [go_sem, seval, au_, ttS.OR_len, a8_, av_, ap_, aq_, am_, aa_]; rfl) ?_ ?_))
  ·first | trivial | simp
  refine .ret ⟨.inr rfl, ?_⟩
  exact ttS.out_lst (by simp only [Tryz.results35]; rfl) (by simp only [ba_, bs_, go_sem, seval, au_, ttS.OR_len, a8_, av_, ap_, aq_, am_, aa_]) (by simp only [bq_, go_sem, seval, au_, ttS.OR_len, a8_, av_, ap_, aq_, am_, aa_] <;> rfl) (by decide) (by simp at h11; show bf_ _ = bf_ _; rw [g1_ (by rw [ttS.OR_len]; exact h11), T1_ h11])
end
end Go.Proofs.YtcigkafioinfoaaGreatDoor
