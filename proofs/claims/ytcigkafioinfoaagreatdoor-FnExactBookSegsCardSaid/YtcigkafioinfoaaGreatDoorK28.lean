/- What the program tells of books, as places of its own. Conditions: none. -/
import Derived.Test.YtcigkafioinfoaaGreatDoorK26
import Derived.Test.YtcigkafioinfoaaGreatDoorK13
set_option linter.unusedVariables false
set_option linter.unusedSimpArgs false
namespace Go.Proofs.YtcigkafioinfoaaGreatDoor
section
set_option maxRecDepth 100000
set_option maxHeartbeats 4000000
theorem xj_ (l : List Pg) (hs : ∀ p ∈ l, pgB p) (hl : l.length ≤ 2000000) : ACall En 45 [.sl false (pgR l)] [] [.ow 0 1 0 (hd_ l).length] [⟨3, 1, inR (hd_ l)⟩] := by
 have hB := fun k => jq_ l k
 refine al_ (fn := Tryz.f45) [20] Tryz.func45 rfl rfl (by simp) fun C => ?_
 rw [ay_]
 simp only [Tryz.ntmps45, T7_, List.length_nil, Nat.reduceAdd, Nat.reduceSub, List.replicate_succ, List.replicate_zero, List.cons_append, List.nil_append, bs_]
 refine .seq (.rgn [] (by simp only [go_sem, seval, ag_, ae_, ai_, aa_, ad_, ao_, av_]; rfl) ?_ ?_)
 ·(first | trivial | (simp; done) | (simp only [T3_] at h12; and_intros <;> omega) | (have := hB k; simp [ad_]; omega))
 refine .seq (.seq (.rgn [a9_ (j2_ l hs hl)] (by simp only [go_sem, seval, ag_, ae_, ai_, aa_, ad_, ao_, av_]; rfl) ?_ ?_))
 ·(first | trivial | (simp; done) | (simp only [T3_] at h12; and_intros <;> omega) | (have := hB k; simp [ad_]; omega))
 refine .condB (by simp only [go_sem, seval, ag_, ae_, ai_, aa_, ad_, ao_, av_]; rfl) (by simp only [go_sem, seval, ag_, ae_, ai_, aa_, ad_, ao_, av_]) (fun h8 => ?_) (fun h8 => ?_)
 ·refine .seq (.rgn [] (by simp only [go_sem, seval, ag_, ae_, ai_, aa_, ad_, ao_, av_]; rfl) ?_ ?_)
  ·(first | trivial | (simp; done) | (simp only [T3_] at h12; and_intros <;> omega) | (have := hB k; simp [ad_]; omega))
  refine .can (Can.ownSlot 2 20 3 1 (by simp only [go_sem, seval, ag_, ae_, ai_, aa_, ad_, ao_, av_] <;> rfl) (by simp only [go_sem, seval, ag_, ae_, ai_, aa_, ad_, ao_, av_]) (by simp only [go_sem, seval, ag_, ae_, ai_, aa_, ad_, ao_, av_] <;> rfl)) ?_
  refine .ret ⟨.inr rfl, ?_⟩
  exact Out.mem' (by simp only [Tryz.results45]; rfl) (by simp only [az_, bj_, go_sem, seval, ag_, ae_, ai_, aa_, ad_, ao_, av_]) (by simp only [bg_, rns, rn, go_sem, seval, ag_, ae_, ai_, aa_, ad_, ao_, av_] <;> (simp at h8; simp [hd_, h8])) (by simp) rfl (by decide) (by simp only [go_sem, seval, ag_, ae_, ai_, aa_, ad_, ao_, av_]) (by simp only [av_, go_sem, seval, ag_, ae_, ai_, aa_, ad_, ao_, av_]) (by simp only [ao_, go_sem, seval, ag_, ae_, ai_, aa_, ad_, ao_, av_] <;> (simp at h8; simp [hd_, h8, inR]))
 ·refine .skip (.seq (.rgn [] (by simp only [go_sem, seval, ag_, ae_, ai_, aa_, ad_, ao_, av_]; rfl) ?_ ?_))
  ·(first | trivial | (simp; done) | (simp only [T3_] at h12; and_intros <;> omega) | (have := hB k; simp [ad_]; omega))
  refine .seq (.seq (.rgn [] (by simp only [go_sem, seval, ag_, ae_, ai_, aa_, ad_, ao_, av_]; rfl) ?_ ?_))
  ·(first | trivial | (simp; done) | (simp only [T3_] at h12; and_intros <;> omega) | (have := hB k; simp [ad_]; omega))
  refine .block (.loopK (fun k : Nat => ⟨[.no, .no, .no, .ow 20 1 0 (ev_ l k).length, .no, .no, .no, .no, .no, .sl false (pgR l), .i .i64 l.length, .i .i64 k, .no, .no, .no, .no, .no, .no, .no, .no, .no, .no, .no, .no, .no, .no], a7_ [(20, ⟨3, 1, inR (ev_ l k)⟩)], us [20]⟩) (fun k : Nat => k ≤ l.length ∧ ea_ l = true) (fun k : Nat => l.length - k) (0) ?_ ?_ (fun k hI => ?_))
  ·exact ⟨by simp, by simpa using h8⟩
  ·refine Can.trans (Can.ownSlot 3 20 3 1 (by simp only [go_sem, seval, ag_, ae_, ai_, aa_, ad_, ao_, av_] <;> rfl) (by simp only [go_sem, seval, ag_, ae_, ai_, aa_, ad_, ao_, av_]) (by simp only [go_sem, seval, ag_, ae_, ai_, aa_, ad_, ao_, av_] <;> rfl)) ?_
   exact Can.weak (Weak.lit (by simp only [go_sem, seval, ag_, ae_, ai_, aa_, ad_, ao_, av_, at_, leV, aq_, ar_, V.inn, us, T9_, Ta_] <;> (simp [ev_])) (by simp only [go_sem, seval, ag_, ae_, ai_, aa_, ad_, ao_, av_, at_, leV, aq_, ar_, V.inn, us, T9_, Ta_]) (by simp only [go_sem, seval, ag_, ae_, ai_, aa_, ad_, ao_, av_, at_, leV, aq_, ar_, V.inn, us, T9_, Ta_] <;> (simp [ev_, inR])))
  refine .seq (.rgn [] (by simp only [go_sem, seval, ag_, ae_, ai_, aa_, ad_, ao_, av_]; rfl) ?_ ?_)
  ·(first | trivial | (simp; done) | (simp only [T3_] at h12; and_intros <;> omega) | (have := hB k; simp [ad_]; omega))
  refine .seq (.condB (by simp only [go_sem, seval, ag_, ae_, ai_, aa_, ad_, ao_, av_]; rfl) (by simp only [go_sem, seval, ag_, ae_, ai_, aa_, ad_, ao_, av_]) (fun h12 => ?_) (fun h12 => ?_))
  ·refine .skip (.seqJ (fun u : Unit => ⟨[.no, .no, .no, .ow 20 1 0 (ev_ l (k + 1)).length, .no, .no, .no, .no, .no, .sl false (pgR l), .i .i64 l.length, .i .i64 k, .no, .no, .no, .no, .no, .no, .no, .no, .no, .no, .no, .no, .no, .no], a7_ [(20, ⟨3, 1, inR (ev_ l (k + 1))⟩)], us [20]⟩) (fun u : Unit => True) ?_ (fun u hJ => ?_))
   ·refine .block (.seq (.rgn [] (by simp only [go_sem, seval, ag_, ae_, ai_, aa_, ad_, ao_, av_, d0_ (show k < l.length by simpa using h12)]; rfl) ?_ ?_))
    ·(first | trivial | (simp; done) | (simp only [T3_] at h12; and_intros <;> omega) | (have := hB k; simp [ad_]; omega))
    refine .seq (.rgn [] (by simp only [go_sem, seval, ag_, ae_, ai_, aa_, ad_, ao_, av_]; rfl) ?_ ?_)
    ·(first | trivial | (simp; done) | (simp only [T3_] at h12; and_intros <;> omega) | (have := hB k; simp [ad_]; omega))
    refine .condB (by simp only [go_sem, seval, ag_, ae_, ai_, aa_, ad_, ao_, av_]; rfl) (by simp only [go_sem, seval, ag_, ae_, ai_, aa_, ad_, ao_, av_]) (fun h18 => ?_) (fun h18 => ?_)
    ·refine .rgn [] (by simp only [go_sem, seval, ag_, ae_, ai_, aa_, ad_, ao_, av_]; rfl) ?_ ?_
     ·(first | trivial | (simp; done) | (simp only [T3_] at h12; and_intros <;> omega) | (have := hB k; simp [ad_]; omega))
     refine Exists.intro (()) ⟨?_, ?_⟩
     ·trivial
     refine Can.trans (Can.swap 32 20 (by decide) (by decide) (by decide) (by decide) (by simp only [go_sem, seval, ag_, ae_, ai_, aa_, ad_, ao_, av_, V.cl]) (by simp only [go_sem, seval, ag_, ae_, ai_, aa_, ad_, ao_, av_, V.cl]) (by simp only [go_sem, seval, ag_, ae_, ai_, aa_, ad_, ao_, av_, by_, sw, swM, rnB] <;> rfl) (by simp only [go_sem, seval, ag_, ae_, ai_, aa_, ad_, ao_, av_, by_, sw, swM, rnB] <;> rfl) (by simp only [go_sem, seval, ag_, ae_, ai_, aa_, ad_, ao_, av_, by_, sw, swM, rnB] <;> rfl)) ?_
     exact Can.weak (Weak.lit (by simp only [go_sem, seval, ag_, ae_, ai_, aa_, ad_, ao_, av_, at_, leV, aq_, ar_, V.inn, us, T9_, Ta_] <;> (first | (rw [ic_ (i := k) (n := 0) (by simpa using h18)]; done) | (rw [dx_ (i := k) (by simpa using h18)]; done))) (by simp only [go_sem, seval, ag_, ae_, ai_, aa_, ad_, ao_, av_, at_, leV, aq_, ar_, V.inn, us, T9_, Ta_]) (by simp only [go_sem, seval, ag_, ae_, ai_, aa_, ad_, ao_, av_, at_, leV, aq_, ar_, V.inn, us, T9_, Ta_] <;> (first | (rw [h2_ (k := k) (by simpa using h18), g1_]; done) | (rw [dx_ (i := k) (by simpa using h18)]; done))))
    ·refine .skip ?_
     refine Exists.intro (()) ⟨?_, ?_⟩
     ·trivial
     exact Can.weak (Weak.lit (by simp only [go_sem, seval, ag_, ae_, ai_, aa_, ad_, ao_, av_, at_, leV, aq_, ar_, V.inn, us, T9_, Ta_] <;> (first | (rw [ic_ (i := k) (n := 0) (by simpa using h18)]; done) | (rw [dx_ (i := k) (by simpa using h18)]; done))) (by simp only [go_sem, seval, ag_, ae_, ai_, aa_, ad_, ao_, av_, at_, leV, aq_, ar_, V.inn, us, T9_, Ta_]) (by simp only [go_sem, seval, ag_, ae_, ai_, aa_, ad_, ao_, av_, at_, leV, aq_, ar_, V.inn, us, T9_, Ta_] <;> (first | (rw [h2_ (k := k) (by simpa using h18), g1_]; done) | (rw [dx_ (i := k) (by simpa using h18)]; done))))
   refine .rgn [] (by simp only [go_sem, seval, ag_, ae_, ai_, aa_, ad_, ao_, av_]; rfl) ?_ ?_
   ·(first | trivial | (simp; done) | (simp only [T3_] at h12; and_intros <;> omega) | (have := hB k; simp [ad_]; omega))
   refine Exists.intro (k + 1) ⟨?_, ?_, ?_⟩
   ·simp at h12; exact ⟨by omega, hI.2⟩
   ·simp at h12; omega
   exact Can.weak (Weak.lit (by simp only [go_sem, seval, ag_, ae_, ai_, aa_, ad_, ao_, av_, at_, leV, aq_, ar_, V.inn, us, T9_, Ta_] <;> (rw [bp_ (by simp at h12; omega) (by simp at h12; omega)]; simp)) (by simp only [go_sem, seval, ag_, ae_, ai_, aa_, ad_, ao_, av_, at_, leV, aq_, ar_, V.inn, us, T9_, Ta_]) (by simp only [go_sem, seval, ag_, ae_, ai_, aa_, ad_, ao_, av_, at_, leV, aq_, ar_, V.inn, us, T9_, Ta_]))
  ·refine .exit (.seq (.rgn [cv_ [20] [] (tn_ (ev_ l l.length) (by have := hB l.length; omega))] (by simp only [go_sem, seval, ag_, ae_, ai_, aa_, ad_, ao_, av_]; rfl) ?_ ?_))
   ·simp only [T4_] at h12; (obtain rfl : k = l.length := (by omega)); simp
   refine .ret ⟨.inr rfl, ?_⟩
   exact Out.mem' (by simp only [Tryz.results45]; rfl) (by simp only [az_, bj_, go_sem, seval, ag_, ae_, ai_, aa_, ad_, ao_, av_]) (by simp only [bg_, rns, rn, go_sem, seval, ag_, ae_, ai_, aa_, ad_, ao_, av_] <;> (simp [hd_, hI.2])) (by simp) rfl (by decide) (by simp only [go_sem, seval, ag_, ae_, ai_, aa_, ad_, ao_, av_]) (by simp only [av_, go_sem, seval, ag_, ae_, ai_, aa_, ad_, ao_, av_]) (by simp only [ao_, go_sem, seval, ag_, ae_, ai_, aa_, ad_, ao_, av_] <;> (simp [hd_, hI.2]))
theorem wk_ (l : List Pg) (hs : ∀ p ∈ l, pgB p) (hl : l.length ≤ 2000000) : ACall En 49 [.sl false (pgR l)] [] [.ow 0 4 0 (ez_ l).length] [⟨98, 4, sgR (ez_ l)⟩] := by
 have hE : ∀ k, ea_ l = true ∧ k < l.length → ACall En 101 [.i .i64 k, .s (l.getD k Pg0).text, .sl false (inR (l.getD k Pg0).frm)] [] [.sl false (sgR (sgs k ((b1_ (l.getD k Pg0).text).getD []) (l.getD k Pg0).frm))] [] := fun k h => by
  obtain ⟨q1, q2, _⟩ := j4_ ((eq_ h.1).2.2 k h.2)
  have hk := l5_ (l.getD k Pg0).line
  rw [q1, q2]
  exact u2_ k _ _ (by have := acd_ hk; omega) (by rw [px_ hk]; exact Nat.le_refl _) (by have := p6_ hk; omega)
 have hN : ∀ k, ea_ l = true → k ≤ l.length → (ds_ l k).length ≤ 2000 := fun k h hk => by
  rw [qk_ h k hk]
  have := t6_ (sq_ h) (k := k) (by rw [hf_]; exact hk)
  have := (eq_ h).2.1
  omega
 refine al_ (fn := Tryz.f49) [20] Tryz.func49 rfl rfl (by simp) fun C => ?_
 rw [ay_]
 simp only [Tryz.ntmps49, T7_, List.length_nil, Nat.reduceAdd, Nat.reduceSub, List.replicate_succ, List.replicate_zero, List.cons_append, List.nil_append, bs_]
 refine .seq (.rgn [] (by simp only [go_sem, seval, ao_, av_, ag_, ae_, ai_, aa_, aj_, ak_]; rfl) ?_ ?_)
 ·(first | trivial | (simp; done) | (simp only [T3_] at h12; have hk : k < l.length := (by omega); have q1 := hN k hI.2 (by omega); have q2 := c2_ k ((b1_ (l.getD k Pg0).text).getD []) (l.getD k Pg0).frm; have q3 := (hs _ (bt_ (d := Pg0) hk)).2.2; first | (and_intros <;> omega) | exact ⟨⟨hI.2, hk⟩, of_eq_true (cx_ _), by simp, by omega⟩))
 refine .seq (.seq (.rgn [a9_ (j2_ l hs hl)] (by simp only [go_sem, seval, ao_, av_, ag_, ae_, ai_, aa_, aj_, ak_]; rfl) ?_ ?_))
 ·(first | trivial | (simp; done) | (simp only [T3_] at h12; have hk : k < l.length := (by omega); have q1 := hN k hI.2 (by omega); have q2 := c2_ k ((b1_ (l.getD k Pg0).text).getD []) (l.getD k Pg0).frm; have q3 := (hs _ (bt_ (d := Pg0) hk)).2.2; first | (and_intros <;> omega) | exact ⟨⟨hI.2, hk⟩, of_eq_true (cx_ _), by simp, by omega⟩))
 refine .condB (by simp only [go_sem, seval, ao_, av_, ag_, ae_, ai_, aa_, aj_, ak_]; rfl) (by simp only [go_sem, seval, ao_, av_, ag_, ae_, ai_, aa_, aj_, ak_]) (fun h8 => ?_) (fun h8 => ?_)
 ·refine .seq (.rgn [] (by simp only [go_sem, seval, ao_, av_, ag_, ae_, ai_, aa_, aj_, ak_]; rfl) ?_ ?_)
  ·(first | trivial | (simp; done) | (simp only [T3_] at h12; have hk : k < l.length := (by omega); have q1 := hN k hI.2 (by omega); have q2 := c2_ k ((b1_ (l.getD k Pg0).text).getD []) (l.getD k Pg0).frm; have q3 := (hs _ (bt_ (d := Pg0) hk)).2.2; first | (and_intros <;> omega) | exact ⟨⟨hI.2, hk⟩, of_eq_true (cx_ _), by simp, by omega⟩))
  refine .can (Can.ownSlot 2 20 98 4 (by simp only [go_sem, seval, ao_, av_, ag_, ae_, ai_, aa_, aj_, ak_] <;> rfl) (by simp only [go_sem, seval, ao_, av_, ag_, ae_, ai_, aa_, aj_, ak_]) (by simp only [go_sem, seval, ao_, av_, ag_, ae_, ai_, aa_, aj_, ak_] <;> rfl)) ?_
  refine .ret ⟨.inr rfl, ?_⟩
  exact Out.mem' (by simp only [Tryz.results49]; rfl) (by simp only [az_, bj_, go_sem, seval, ao_, av_, ag_, ae_, ai_, aa_, aj_, ak_]) (by simp only [bg_, rns, rn, go_sem, seval, ao_, av_, ag_, ae_, ai_, aa_, aj_, ak_] <;> (simp at h8; simp [ez_, h8])) (by simp) rfl (by decide) (by simp only [go_sem, seval, ao_, av_, ag_, ae_, ai_, aa_, aj_, ak_]) (by simp only [av_, go_sem, seval, ao_, av_, ag_, ae_, ai_, aa_, aj_, ak_]) (by simp only [ao_, go_sem, seval, ao_, av_, ag_, ae_, ai_, aa_, aj_, ak_] <;> (simp at h8; simp [ez_, h8, sgR]))
 ·refine .skip (.seq (.rgn [] (by simp only [go_sem, seval, ao_, av_, ag_, ae_, ai_, aa_, aj_, ak_]; rfl) ?_ ?_))
  ·(first | trivial | (simp; done) | (simp only [T3_] at h12; have hk : k < l.length := (by omega); have q1 := hN k hI.2 (by omega); have q2 := c2_ k ((b1_ (l.getD k Pg0).text).getD []) (l.getD k Pg0).frm; have q3 := (hs _ (bt_ (d := Pg0) hk)).2.2; first | (and_intros <;> omega) | exact ⟨⟨hI.2, hk⟩, of_eq_true (cx_ _), by simp, by omega⟩))
  refine .seq (.seq (.rgn [] (by simp only [go_sem, seval, ao_, av_, ag_, ae_, ai_, aa_, aj_, ak_]; rfl) ?_ ?_))
  ·(first | trivial | (simp; done) | (simp only [T3_] at h12; have hk : k < l.length := (by omega); have q1 := hN k hI.2 (by omega); have q2 := c2_ k ((b1_ (l.getD k Pg0).text).getD []) (l.getD k Pg0).frm; have q3 := (hs _ (bt_ (d := Pg0) hk)).2.2; first | (and_intros <;> omega) | exact ⟨⟨hI.2, hk⟩, of_eq_true (cx_ _), by simp, by omega⟩))
  refine .block (.loopK (fun k : Nat => ⟨[.no, .no, .no, .ow 20 4 0 (ds_ l k).length, .no, .no, .no, .no, .no, .sl false (pgR l), .i .i64 l.length, .i .i64 k, .no, .no, .no, .no, .no, .no, .no, .no, .no, .no, .no, .no, .no, .no, .no, .no, .no], a7_ [(20, ⟨98, 4, sgR (ds_ l k)⟩)], us [20]⟩) (fun k : Nat => k ≤ l.length ∧ ea_ l = true) (fun k : Nat => l.length - k) (0) ?_ ?_ (fun k hI => ?_))
  ·exact ⟨by simp, by simpa using h8⟩
  ·refine Can.trans (Can.ownSlot 3 20 98 4 (by simp only [go_sem, seval, ao_, av_, ag_, ae_, ai_, aa_, aj_, ak_] <;> rfl) (by simp only [go_sem, seval, ao_, av_, ag_, ae_, ai_, aa_, aj_, ak_]) (by simp only [go_sem, seval, ao_, av_, ag_, ae_, ai_, aa_, aj_, ak_] <;> rfl)) ?_
   exact Can.weak (Weak.lit (by simp only [go_sem, seval, ao_, av_, ag_, ae_, ai_, aa_, aj_, ak_, at_, leV, aq_, ar_, V.inn, us, T9_, Ta_] <;> (simp [ds_])) (by simp only [go_sem, seval, ao_, av_, ag_, ae_, ai_, aa_, aj_, ak_, at_, leV, aq_, ar_, V.inn, us, T9_, Ta_]) (by simp only [go_sem, seval, ao_, av_, ag_, ae_, ai_, aa_, aj_, ak_, at_, leV, aq_, ar_, V.inn, us, T9_, Ta_] <;> (simp [ds_, sgR])))
  refine .seq (.rgn [] (by simp only [go_sem, seval, ao_, av_, ag_, ae_, ai_, aa_, aj_, ak_]; rfl) ?_ ?_)
  ·(first | trivial | (simp; done) | (simp only [T3_] at h12; have hk : k < l.length := (by omega); have q1 := hN k hI.2 (by omega); have q2 := c2_ k ((b1_ (l.getD k Pg0).text).getD []) (l.getD k Pg0).frm; have q3 := (hs _ (bt_ (d := Pg0) hk)).2.2; first | (and_intros <;> omega) | exact ⟨⟨hI.2, hk⟩, of_eq_true (cx_ _), by simp, by omega⟩))
  refine .seq (.condB (by simp only [go_sem, seval, ao_, av_, ag_, ae_, ai_, aa_, aj_, ak_]; rfl) (by simp only [go_sem, seval, ao_, av_, ag_, ae_, ai_, aa_, aj_, ak_]) (fun h12 => ?_) (fun h12 => ?_))
  ·refine .skip (.seqJ (fun u : Unit => ⟨[.no, .no, .no, .ow 20 4 0 (ds_ l (k + 1)).length, .no, .no, .no, .no, .no, .sl false (pgR l), .i .i64 l.length, .i .i64 k, .no, .no, .no, .no, .no, .no, .no, .no, .no, .no, .no, .no, .no, .no, .no, .no, .no], a7_ [(20, ⟨98, 4, sgR (ds_ l (k + 1))⟩)], us [20]⟩) (fun u : Unit => True) ?_ (fun u hJ => ?_))
   ·refine .block (.seq (.rgn [] (by simp only [go_sem, seval, ao_, av_, ag_, ae_, ai_, aa_, aj_, ak_, d0_ (show k < l.length by simpa using h12)]; rfl) ?_ ?_))
    ·(first | trivial | (simp; done) | (simp only [T3_] at h12; have hk : k < l.length := (by omega); have q1 := hN k hI.2 (by omega); have q2 := c2_ k ((b1_ (l.getD k Pg0).text).getD []) (l.getD k Pg0).frm; have q3 := (hs _ (bt_ (d := Pg0) hk)).2.2; first | (and_intros <;> omega) | exact ⟨⟨hI.2, hk⟩, of_eq_true (cx_ _), by simp, by omega⟩))
    refine .seq (.rgn [] (by simp only [go_sem, seval, ao_, av_, ag_, ae_, ai_, aa_, aj_, ak_]; rfl) ?_ ?_)
    ·(first | trivial | (simp; done) | (simp only [T3_] at h12; have hk : k < l.length := (by omega); have q1 := hN k hI.2 (by omega); have q2 := c2_ k ((b1_ (l.getD k Pg0).text).getD []) (l.getD k Pg0).frm; have q3 := (hs _ (bt_ (d := Pg0) hk)).2.2; first | (and_intros <;> omega) | exact ⟨⟨hI.2, hk⟩, of_eq_true (cx_ _), by simp, by omega⟩))
    refine .condB (by simp only [go_sem, seval, ao_, av_, ag_, ae_, ai_, aa_, aj_, ak_]; rfl) (by simp only [go_sem, seval, ao_, av_, ag_, ae_, ai_, aa_, aj_, ak_]) (fun h17 => ?_) (fun h17 => ?_)
    ·refine .rgn [cw_ (ea_ l = true ∧ k < l.length) (hE k)] (by simp only [go_sem, seval, ao_, av_, ag_, ae_, ai_, aa_, aj_, ak_]; rfl) ?_ ?_
     ·(first | trivial | (simp; done) | (simp only [T3_] at h12; have hk : k < l.length := (by omega); have q1 := hN k hI.2 (by omega); have q2 := c2_ k ((b1_ (l.getD k Pg0).text).getD []) (l.getD k Pg0).frm; have q3 := (hs _ (bt_ (d := Pg0) hk)).2.2; first | (and_intros <;> omega) | exact ⟨⟨hI.2, hk⟩, of_eq_true (cx_ _), by simp, by omega⟩))
     refine Exists.intro (()) ⟨?_, ?_⟩
     ·trivial
     refine Can.trans (Can.swap 35 20 (by decide) (by decide) (by decide) (by decide) (by simp only [go_sem, seval, ao_, av_, ag_, ae_, ai_, aa_, aj_, ak_, V.cl]) (by simp only [go_sem, seval, ao_, av_, ag_, ae_, ai_, aa_, aj_, ak_, V.cl]) (by simp only [go_sem, seval, ao_, av_, ag_, ae_, ai_, aa_, aj_, ak_, by_, sw, swM, rnB] <;> rfl) (by simp only [go_sem, seval, ao_, av_, ag_, ae_, ai_, aa_, aj_, ak_, by_, sw, swM, rnB] <;> rfl) (by simp only [go_sem, seval, ao_, av_, ag_, ae_, ai_, aa_, aj_, ak_, by_, sw, swM, rnB] <;> rfl)) ?_
     exact Can.weak (Weak.lit (by simp only [go_sem, seval, ao_, av_, ag_, ae_, ai_, aa_, aj_, ak_, at_, leV, aq_, ar_, V.inn, us, T9_, Ta_] <;> (first | (rw [ds_, if_pos (by simpa using h17)]; simp; done) | (rw [ds_, if_neg (by simpa using h17)]; simp; done))) (by simp only [go_sem, seval, ao_, av_, ag_, ae_, ai_, aa_, aj_, ak_, at_, leV, aq_, ar_, V.inn, us, T9_, Ta_]) (by simp only [go_sem, seval, ao_, av_, ag_, ae_, ai_, aa_, aj_, ak_, at_, leV, aq_, ar_, V.inn, us, T9_, Ta_] <;> (first | (rw [ds_, if_pos (by simpa using h17)]; simp [nz_]; done) | (rw [ds_, if_neg (by simpa using h17)]; simp; done))))
    ·refine .skip ?_
     refine Exists.intro (()) ⟨?_, ?_⟩
     ·trivial
     exact Can.weak (Weak.lit (by simp only [go_sem, seval, ao_, av_, ag_, ae_, ai_, aa_, aj_, ak_, at_, leV, aq_, ar_, V.inn, us, T9_, Ta_] <;> (first | (rw [ds_, if_pos (by simpa using h17)]; simp; done) | (rw [ds_, if_neg (by simpa using h17)]; simp; done))) (by simp only [go_sem, seval, ao_, av_, ag_, ae_, ai_, aa_, aj_, ak_, at_, leV, aq_, ar_, V.inn, us, T9_, Ta_]) (by simp only [go_sem, seval, ao_, av_, ag_, ae_, ai_, aa_, aj_, ak_, at_, leV, aq_, ar_, V.inn, us, T9_, Ta_] <;> (first | (rw [ds_, if_pos (by simpa using h17)]; simp [nz_]; done) | (rw [ds_, if_neg (by simpa using h17)]; simp; done))))
   refine .rgn [] (by simp only [go_sem, seval, ao_, av_, ag_, ae_, ai_, aa_, aj_, ak_]; rfl) ?_ ?_
   ·(first | trivial | (simp; done) | (simp only [T3_] at h12; have hk : k < l.length := (by omega); have q1 := hN k hI.2 (by omega); have q2 := c2_ k ((b1_ (l.getD k Pg0).text).getD []) (l.getD k Pg0).frm; have q3 := (hs _ (bt_ (d := Pg0) hk)).2.2; first | (and_intros <;> omega) | exact ⟨⟨hI.2, hk⟩, of_eq_true (cx_ _), by simp, by omega⟩))
   refine Exists.intro (k + 1) ⟨?_, ?_, ?_⟩
   ·simp at h12; exact ⟨by omega, hI.2⟩
   ·simp at h12; omega
   exact Can.weak (Weak.lit (by simp only [go_sem, seval, ao_, av_, ag_, ae_, ai_, aa_, aj_, ak_, at_, leV, aq_, ar_, V.inn, us, T9_, Ta_] <;> (rw [bp_ (by simp at h12; omega) (by simp at h12; omega)]; simp)) (by simp only [go_sem, seval, ao_, av_, ag_, ae_, ai_, aa_, aj_, ak_, at_, leV, aq_, ar_, V.inn, us, T9_, Ta_]) (by simp only [go_sem, seval, ao_, av_, ag_, ae_, ai_, aa_, aj_, ak_, at_, leV, aq_, ar_, V.inn, us, T9_, Ta_]))
  ·refine .exit (.seq (.rgn [adh_ [20] [] (ea_ l = true) (fun h => yd_ (ds_ l l.length) (by have := hN _ h (Nat.le_refl _); omega))] (by simp only [go_sem, seval, ao_, av_, ag_, ae_, ai_, aa_, aj_, ak_]; rfl) ?_ ?_))
   ·simp only [T4_] at h12; (obtain rfl : k = l.length := (by omega)); simp [hI.2]
   refine .ret ⟨.inr rfl, ?_⟩
   exact Out.mem' (by simp only [Tryz.results49]; rfl) (by simp only [az_, bj_, go_sem, seval, ao_, av_, ag_, ae_, ai_, aa_, aj_, ak_]) (by simp only [bg_, rns, rn, go_sem, seval, ao_, av_, ag_, ae_, ai_, aa_, aj_, ak_] <;> (simp [ez_, hI.2])) (by simp) rfl (by decide) (by simp only [go_sem, seval, ao_, av_, ag_, ae_, ai_, aa_, aj_, ak_]) (by simp only [av_, go_sem, seval, ao_, av_, ag_, ae_, ai_, aa_, aj_, ak_]) (by simp only [ao_, go_sem, seval, ao_, av_, ag_, ae_, ai_, aa_, aj_, ak_] <;> (simp [ez_, hI.2]))
end
end Go.Proofs.YtcigkafioinfoaaGreatDoor
