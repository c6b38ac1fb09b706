/- Books: what the program's tell. Conditions: none. -/
import Derived.Test.YtcigkafioinfoaaGreatDoorK12
import Derived.Test.YtcigkafioinfoaaGreatDoorK1
import Derived.Test.YtcigkafioinfoaaGreatDoorK4
set_option linter.unusedVariables false
set_option linter.unusedSimpArgs false
namespace Go.Proofs.YtcigkafioinfoaaGreatDoor
section
set_option maxRecDepth 100000
set_option maxHeartbeats 4000000
theorem h2_ {l : List Pg} {k : Nat} (h : (l.getD k Pg0).good = false) : ev_ l (k + 1) = ev_ l k ++ [(k : Int)] := by rw [ev_, h]; rfl
theorem xo_ (l : List Pg) (hs : ∀ p ∈ l, pgB p) (hl : l.length ≤ 2000000) : ACall En 45 [.sl false (pgR l)] [] [.sl false (inR (hd_ l))] [] := by
 have hB := fun k => jq_ l k
 refine al_ (fn := Tryz.f45) [] Tryz.func45 rfl rfl (by simp) fun C => ?_
 rw [ay_]
 simp only [Tryz.ntmps45, T7_, List.length_nil, Nat.reduceAdd, Nat.reduceSub, List.replicate_succ, List.replicate_zero, List.cons_append, List.nil_append, bs_]
 refine .seq (.rgn [] (by simp only [go_sem, seval, ag_, ae_, ai_, aa_, ad_, ao_, av_]; rfl) ?_ ?_)
 ·(first | trivial | (simp; done) | (simp only [T3_] at h12; and_intros <;> omega) | (have := hB k; simp [ad_]; omega))
 refine .seq (.seq (.rgn [a9_ (j2_ l hs hl)] (by simp only [go_sem, seval, ag_, ae_, ai_, aa_, ad_, ao_, av_]; rfl) ?_ ?_))
 ·(first | trivial | (simp; done) | (simp only [T3_] at h12; and_intros <;> omega) | (have := hB k; simp [ad_]; omega))
 refine .condB (by simp only [go_sem, seval, ag_, ae_, ai_, aa_, ad_, ao_, av_]; rfl) (by simp only [go_sem, seval, ag_, ae_, ai_, aa_, ad_, ao_, av_]) (fun h8 => ?_) (fun h8 => ?_)
 ·refine .seq (.rgn [] (by simp only [go_sem, seval, ag_, ae_, ai_, aa_, ad_, ao_, av_]; rfl) ?_ ?_)
  ·(first | trivial | (simp; done) | (simp only [T3_] at h12; and_intros <;> omega) | (have := hB k; simp [ad_]; omega))
  refine .ret ⟨.inr rfl, ?_⟩
  exact Out.plainL (by simp only [Tryz.results45]; rfl) (by simp only [az_, bj_, go_sem, seval, ag_, ae_, ai_, aa_, ad_, ao_, av_] <;> (split <;> rfl)) (by simp only [bg_, go_sem, seval, ag_, ae_, ai_, aa_, ad_, ao_, av_] <;> (simp at h8; simp [hd_, h8, inR, les, ler, leV])) (by simp only [go_sem, seval, ag_, ae_, ai_, aa_, ad_, ao_, av_])
 ·refine .skip (.seq (.rgn [] (by simp only [go_sem, seval, ag_, ae_, ai_, aa_, ad_, ao_, av_]; rfl) ?_ ?_))
  ·(first | trivial | (simp; done) | (simp only [T3_] at h12; and_intros <;> omega) | (have := hB k; simp [ad_]; omega))
  refine .seq (.seq (.rgn [] (by simp only [go_sem, seval, ag_, ae_, ai_, aa_, ad_, ao_, av_]; rfl) ?_ ?_))
  ·(first | trivial | (simp; done) | (simp only [T3_] at h12; and_intros <;> omega) | (have := hB k; simp [ad_]; omega))
  refine .block (.loopK (fun k : Nat => ⟨[.no, .no, .no, .ow 20 1 0 (ev_ l k).length, .no, .no, .no, .no, .no, .sl false (pgR l), .i .i64 l.length, .i .i64 k, .no, .no, .no, .no, .no, .no, .no, .no, .no, .no, .no, .no, .no, .no], a7_ [(20, ⟨3, 1, inR (ev_ l k)⟩)], us [20]⟩) (fun k : Nat => k ≤ l.length ∧ ea_ l = true) (fun k : Nat => l.length - k) (0) ?_ ?_ (fun k hI => ?_))
  ·exact ⟨by simp, by simpa using h8⟩
  ·refine Can.trans (Can.ownSlot 3 20 3 1 (by simp only [go_sem, seval, ag_, ae_, ai_, aa_, ad_, ao_, av_] <;> rfl) (by simp only [go_sem, seval, ag_, ae_, ai_, aa_, ad_, ao_, av_]) (by simp only [go_sem, seval, ag_, ae_, ai_, aa_, ad_, ao_, av_] <;> rfl)) ?_
   exact Can.weak (Weak.lit (by simp only [go_sem, seval, ag_, ae_, ai_, aa_, ad_, ao_, av_, at_, leV, aq_, ar_, V.inn, us, T9_, Ta_] <;> (simp [ev_])) (by simp only [go_sem, seval, ag_, ae_, ai_, aa_, ad_, ao_, av_, at_, leV, aq_, ar_, V.inn, us, T9_, Ta_]) (by simp only [go_sem, seval, ag_, ae_, ai_, aa_, ad_, ao_, av_, at_, leV, aq_, ar_, V.inn, us, T9_, Ta_] <;> (simp [ev_, inR])))
  refine .seq (.rgn [] (by simp only [go_sem, seval, ag_, ae_, ai_, aa_, ad_, ao_, av_]; rfl) ?_ ?_)
  ·(first | trivial | (simp; done) | (simp only [T3_] at h12; and_intros <;> omega) | (have := hB k; simp [ad_]; omega))
  refine .seq (.condB (by simp only [go_sem, seval, ag_, ae_, ai_, aa_, ad_, ao_, av_]; rfl) (by simp only [go_sem, seval, ag_, ae_, ai_, aa_, ad_, ao_, av_]) (fun h12 => ?_) (fun h12 => ?_))
  ·refine .skip (.seqJ (fun u : Unit => ⟨[.no, .no, .no, .ow 20 1 0 (ev_ l (k + 1)).length, .no, .no, .no, .no, .no, .sl false (pgR l), .i .i64 l.length, .i .i64 k, .no, .no, .no, .no, .no, .no, .no, .no, .no, .no, .no, .no, .no, .no], a7_ [(20, ⟨3, 1, inR (ev_ l (k + 1))⟩)], us [20]⟩) (fun u : Unit => True) ?_ (fun u hJ => ?_))
   ·refine .block (.seq (.rgn [] (by simp only [go_sem, seval, ag_, ae_, ai_, aa_, ad_, ao_, av_, d0_ (show k < l.length by simpa using h12)]; rfl) ?_ ?_))
    ·(first | trivial | (simp; done) | (simp only [T3_] at h12; and_intros <;> omega) | (have := hB k; simp [ad_]; omega))
    refine .seq (.rgn [] (by simp only [go_sem, seval, ag_, ae_, ai_, aa_, ad_, ao_, av_]; rfl) ?_ ?_)
    ·(first | trivial | (simp; done) | (simp only [T3_] at h12; and_intros <;> omega) | (have := hB k; simp [ad_]; omega))
    refine .condB (by simp only [go_sem, seval, ag_, ae_, ai_, aa_, ad_, ao_, av_]; rfl) (by simp only [go_sem, seval, ag_, ae_, ai_, aa_, ad_, ao_, av_]) (fun h18 => ?_) (fun h18 => ?_)
    ·refine .rgn [] (by simp only [go_sem, seval, ag_, ae_, ai_, aa_, ad_, ao_, av_]; rfl) ?_ ?_
     ·(first | trivial | (simp; done) | (simp only [T3_] at h12; and_intros <;> omega) | (have := hB k; simp [ad_]; omega))
     refine Exists.intro (()) ⟨?_, ?_⟩
     ·trivial
     refine Can.trans (Can.swap 32 20 (by decide) (by decide) (by decide) (by decide) (by simp only [go_sem, seval, ag_, ae_, ai_, aa_, ad_, ao_, av_, V.cl]) (by simp only [go_sem, seval, ag_, ae_, ai_, aa_, ad_, ao_, av_, V.cl]) (by simp only [go_sem, seval, ag_, ae_, ai_, aa_, ad_, ao_, av_, by_, sw, swM, rnB] <;> rfl) (by simp only [go_sem, seval, ag_, ae_, ai_, aa_, ad_, ao_, av_, by_, sw, swM, rnB] <;> rfl) (by simp only [go_sem, seval, ag_, ae_, ai_, aa_, ad_, ao_, av_, by_, sw, swM, rnB] <;> rfl)) ?_
     exact Can.weak (Weak.lit (by simp only [go_sem, seval, ag_, ae_, ai_, aa_, ad_, ao_, av_, at_, leV, aq_, ar_, V.inn, us, T9_, Ta_] <;> (first | (rw [ic_ (i := k) (n := 0) (by simpa using h18)]; done) | (rw [dx_ (i := k) (by simpa using h18)]; done))) (by simp only [go_sem, seval, ag_, ae_, ai_, aa_, ad_, ao_, av_, at_, leV, aq_, ar_, V.inn, us, T9_, Ta_]) (by simp only [go_sem, seval, ag_, ae_, ai_, aa_, ad_, ao_, av_, at_, leV, aq_, ar_, V.inn, us, T9_, Ta_] <;> (first | (rw [h2_ (k := k) (by simpa using h18), g1_]; done) | (rw [dx_ (i := k) (by simpa using h18)]; done))))
    ·refine .skip ?_
     refine Exists.intro (()) ⟨?_, ?_⟩
     ·trivial
     exact Can.weak (Weak.lit (by simp only [go_sem, seval, ag_, ae_, ai_, aa_, ad_, ao_, av_, at_, leV, aq_, ar_, V.inn, us, T9_, Ta_] <;> (first | (rw [ic_ (i := k) (n := 0) (by simpa using h18)]; done) | (rw [dx_ (i := k) (by simpa using h18)]; done))) (by simp only [go_sem, seval, ag_, ae_, ai_, aa_, ad_, ao_, av_, at_, leV, aq_, ar_, V.inn, us, T9_, Ta_]) (by simp only [go_sem, seval, ag_, ae_, ai_, aa_, ad_, ao_, av_, at_, leV, aq_, ar_, V.inn, us, T9_, Ta_] <;> (first | (rw [h2_ (k := k) (by simpa using h18), g1_]; done) | (rw [dx_ (i := k) (by simpa using h18)]; done))))
   refine .rgn [] (by simp only [go_sem, seval, ag_, ae_, ai_, aa_, ad_, ao_, av_]; rfl) ?_ ?_
   ·(first | trivial | (simp; done) | (simp only [T3_] at h12; and_intros <;> omega) | (have := hB k; simp [ad_]; omega))
   refine Exists.intro (k + 1) ⟨?_, ?_, ?_⟩
   ·simp at h12; exact ⟨by omega, hI.2⟩
   ·simp at h12; omega
   exact Can.weak (Weak.lit (by simp only [go_sem, seval, ag_, ae_, ai_, aa_, ad_, ao_, av_, at_, leV, aq_, ar_, V.inn, us, T9_, Ta_] <;> (rw [bp_ (by simp at h12; omega) (by simp at h12; omega)]; simp)) (by simp only [go_sem, seval, ag_, ae_, ai_, aa_, ad_, ao_, av_, at_, leV, aq_, ar_, V.inn, us, T9_, Ta_]) (by simp only [go_sem, seval, ag_, ae_, ai_, aa_, ad_, ao_, av_, at_, leV, aq_, ar_, V.inn, us, T9_, Ta_]))
  ·refine .exit (.seq (.rgn [cv_ [20] [] (tn_ (ev_ l l.length) (by have := hB l.length; omega))] (by simp only [go_sem, seval, ag_, ae_, ai_, aa_, ad_, ao_, av_]; rfl) ?_ ?_))
   ·simp only [T4_] at h12; (obtain rfl : k = l.length := (by omega)); simp
   refine .frz 20 (by simp only [go_sem, seval, ag_, ae_, ai_, aa_, ad_, ao_, av_]; rfl) (by simp only [go_sem, seval, ag_, ae_, ai_, aa_, ad_, ao_, av_]) (by simp only [go_sem, seval, ag_, ae_, ai_, aa_, ad_, ao_, av_]; rfl) (by simp only [go_sem, seval, ag_, ae_, ai_, aa_, ad_, ao_, av_]; rfl) ?_
   refine .ret ⟨.inr rfl, ?_⟩
   exact Out.plainL (by simp only [Tryz.results45]; rfl) (by simp only [az_, bj_, go_sem, seval, ag_, ae_, ai_, aa_, ad_, ao_, av_] <;> (split <;> rfl)) (by simp only [bg_, go_sem, seval, ag_, ae_, ai_, aa_, ad_, ao_, av_] <;> (rw [T1_ (by rw [ad_]; exact Nat.le_refl _)]; simp [hd_, hI.2, les, leV, ap_])) (by simp only [go_sem, seval, ag_, ae_, ai_, aa_, ad_, ao_, av_])
theorem wr_ (l : List Pg) (hs : ∀ p ∈ l, pgB p) (hl : l.length ≤ 2000000) : ACall En 49 [.sl false (pgR l)] [] [.sl false (sgR (ez_ l))] [] := by
 have hE : ∀ k, ea_ l = true ∧ k < l.length → ACall En 101 [.i .i64 k, .s (l.getD k Pg0).text, .sl false (inR (l.getD k Pg0).frm)] [] [.sl false (sgR (sgs k ((b1_ (l.getD k Pg0).text).getD []) (l.getD k Pg0).frm))] [] := fun k h => by
  obtain ⟨q1, q2, _⟩ := j4_ ((eq_ h.1).2.2 k h.2)
  have hk := l5_ (l.getD k Pg0).line
  rw [q1, q2]
  exact u2_ k _ _ (by have := acd_ hk; omega) (by rw [px_ hk]; exact Nat.le_refl _) (by have := p6_ hk; omega)
 have hN : ∀ k, ea_ l = true → k ≤ l.length → (ds_ l k).length ≤ 2000 := fun k h hk => by
  rw [qk_ h k hk]
  have := t6_ (sq_ h) (k := k) (by rw [hf_]; exact hk)
  have := (eq_ h).2.1
  omega
 refine al_ (fn := Tryz.f49) [] Tryz.func49 rfl rfl (by simp) fun C => ?_
 rw [ay_]
 simp only [Tryz.ntmps49, T7_, List.length_nil, Nat.reduceAdd, Nat.reduceSub, List.replicate_succ, List.replicate_zero, List.cons_append, List.nil_append, bs_]
 refine .seq (.rgn [] (by simp only [go_sem, seval, ag_, ae_, ai_, aa_, aj_, ak_]; rfl) ?_ ?_)
 ·(first | trivial | (simp; done) | (simp only [T3_] at h12; have hk : k < l.length := (by omega); have q1 := hN k hI.2 (by omega); have q2 := c2_ k ((b1_ (l.getD k Pg0).text).getD []) (l.getD k Pg0).frm; have q3 := (hs _ (bt_ (d := Pg0) hk)).2.2; first | (and_intros <;> omega) | exact ⟨⟨hI.2, hk⟩, of_eq_true (cx_ _), by simp, by omega⟩))
 refine .seq (.seq (.rgn [a9_ (j2_ l hs hl)] (by simp only [go_sem, seval, ag_, ae_, ai_, aa_, aj_, ak_]; rfl) ?_ ?_))
 ·(first | trivial | (simp; done) | (simp only [T3_] at h12; have hk : k < l.length := (by omega); have q1 := hN k hI.2 (by omega); have q2 := c2_ k ((b1_ (l.getD k Pg0).text).getD []) (l.getD k Pg0).frm; have q3 := (hs _ (bt_ (d := Pg0) hk)).2.2; first | (and_intros <;> omega) | exact ⟨⟨hI.2, hk⟩, of_eq_true (cx_ _), by simp, by omega⟩))
 refine .condB (by simp only [go_sem, seval, ag_, ae_, ai_, aa_, aj_, ak_]; rfl) (by simp only [go_sem, seval, ag_, ae_, ai_, aa_, aj_, ak_]) (fun h8 => ?_) (fun h8 => ?_)
 ·refine .seq (.rgn [] (by simp only [go_sem, seval, ag_, ae_, ai_, aa_, aj_, ak_]; rfl) ?_ ?_)
  ·(first | trivial | (simp; done) | (simp only [T3_] at h12; have hk : k < l.length := (by omega); have q1 := hN k hI.2 (by omega); have q2 := c2_ k ((b1_ (l.getD k Pg0).text).getD []) (l.getD k Pg0).frm; have q3 := (hs _ (bt_ (d := Pg0) hk)).2.2; first | (and_intros <;> omega) | exact ⟨⟨hI.2, hk⟩, of_eq_true (cx_ _), by simp, by omega⟩))
  refine .ret ⟨.inr rfl, ?_⟩
  exact Out.plainL (by simp only [Tryz.results49]; rfl) (by simp only [az_, bj_, go_sem, seval, ag_, ae_, ai_, aa_, aj_, ak_] <;> (split <;> rfl)) (by simp only [bg_, go_sem, seval, ag_, ae_, ai_, aa_, aj_, ak_] <;> (simp at h8; simp [ez_, h8, sgR, ler])) (by simp only [go_sem, seval, ag_, ae_, ai_, aa_, aj_, ak_])
 ·refine .skip (.seq (.rgn [] (by simp only [go_sem, seval, ag_, ae_, ai_, aa_, aj_, ak_]; rfl) ?_ ?_))
  ·(first | trivial | (simp; done) | (simp only [T3_] at h12; have hk : k < l.length := (by omega); have q1 := hN k hI.2 (by omega); have q2 := c2_ k ((b1_ (l.getD k Pg0).text).getD []) (l.getD k Pg0).frm; have q3 := (hs _ (bt_ (d := Pg0) hk)).2.2; first | (and_intros <;> omega) | exact ⟨⟨hI.2, hk⟩, of_eq_true (cx_ _), by simp, by omega⟩))
  refine .seqJ (fun u : Unit => ⟨[.no, .no, .no, .sl false (sgR (ds_ l l.length)), .no, .no, .no, .no, .no, .no, .no, .no, .no, .no, .no, .no, .no, .no, .no, .no, .no, .no, .no, .no, .no, .no, .no, .no, .no], a7_ [], us []⟩) (fun u : Unit => ea_ l = true) ?_ (fun u hJ => ?_)
  ·refine .seq (.rgn [] (by simp only [go_sem, seval, ag_, ae_, ai_, aa_, aj_, ak_]; rfl) ?_ ?_)
   ·(first | trivial | (simp; done) | (simp only [T3_] at h12; have hk : k < l.length := (by omega); have q1 := hN k hI.2 (by omega); have q2 := c2_ k ((b1_ (l.getD k Pg0).text).getD []) (l.getD k Pg0).frm; have q3 := (hs _ (bt_ (d := Pg0) hk)).2.2; first | (and_intros <;> omega) | exact ⟨⟨hI.2, hk⟩, of_eq_true (cx_ _), by simp, by omega⟩))
   refine .block (.loopK (fun k : Nat => ⟨[.no, .no, .no, .ow 20 4 0 (ds_ l k).length, .no, .no, .no, .no, .no, .sl false (pgR l), .i .i64 l.length, .i .i64 k, .no, .no, .no, .no, .no, .no, .no, .no, .no, .no, .no, .no, .no, .no, .no, .no, .no], a7_ [(20, ⟨98, 4, sgR (ds_ l k)⟩)], us [20]⟩) (fun k : Nat => k ≤ l.length ∧ ea_ l = true) (fun k : Nat => l.length - k) (0) ?_ ?_ (fun k hI => ?_))
   ·exact ⟨by simp, by simpa using h8⟩
   ·refine Can.trans (Can.ownSlot 3 20 98 4 (by simp only [go_sem, seval, ag_, ae_, ai_, aa_, aj_, ak_] <;> rfl) (by simp only [go_sem, seval, ag_, ae_, ai_, aa_, aj_, ak_]) (by simp only [go_sem, seval, ag_, ae_, ai_, aa_, aj_, ak_] <;> rfl)) ?_
    exact Can.weak (Weak.lit (by simp only [go_sem, seval, ag_, ae_, ai_, aa_, aj_, ak_, at_, leV, aq_, ar_, V.inn, us, T9_, Ta_] <;> (simp [ds_])) (by simp only [go_sem, seval, ag_, ae_, ai_, aa_, aj_, ak_, at_, leV, aq_, ar_, V.inn, us, T9_, Ta_]) (by simp only [go_sem, seval, ag_, ae_, ai_, aa_, aj_, ak_, at_, leV, aq_, ar_, V.inn, us, T9_, Ta_] <;> (simp [ds_, sgR])))
   refine .seq (.rgn [] (by simp only [go_sem, seval, ag_, ae_, ai_, aa_, aj_, ak_]; rfl) ?_ ?_)
   ·(first | trivial | (simp; done) | (simp only [T3_] at h12; have hk : k < l.length := (by omega); have q1 := hN k hI.2 (by omega); have q2 := c2_ k ((b1_ (l.getD k Pg0).text).getD []) (l.getD k Pg0).frm; have q3 := (hs _ (bt_ (d := Pg0) hk)).2.2; first | (and_intros <;> omega) | exact ⟨⟨hI.2, hk⟩, of_eq_true (cx_ _), by simp, by omega⟩))
   refine .seq (.condB (by simp only [go_sem, seval, ag_, ae_, ai_, aa_, aj_, ak_]; rfl) (by simp only [go_sem, seval, ag_, ae_, ai_, aa_, aj_, ak_]) (fun h12 => ?_) (fun h12 => ?_))
   ·refine .skip (.seqJ (fun u : Unit => ⟨[.no, .no, .no, .ow 20 4 0 (ds_ l (k + 1)).length, .no, .no, .no, .no, .no, .sl false (pgR l), .i .i64 l.length, .i .i64 k, .no, .no, .no, .no, .no, .no, .no, .no, .no, .no, .no, .no, .no, .no, .no, .no, .no], a7_ [(20, ⟨98, 4, sgR (ds_ l (k + 1))⟩)], us [20]⟩) (fun u : Unit => True) ?_ (fun u hJ => ?_))
    ·refine .block (.seq (.rgn [] (by simp only [go_sem, seval, ag_, ae_, ai_, aa_, aj_, ak_, d0_ (show k < l.length by simpa using h12)]; rfl) ?_ ?_))
     ·(first | trivial | (simp; done) | (simp only [T3_] at h12; have hk : k < l.length := (by omega); have q1 := hN k hI.2 (by omega); have q2 := c2_ k ((b1_ (l.getD k Pg0).text).getD []) (l.getD k Pg0).frm; have q3 := (hs _ (bt_ (d := Pg0) hk)).2.2; first | (and_intros <;> omega) | exact ⟨⟨hI.2, hk⟩, of_eq_true (cx_ _), by simp, by omega⟩))
     refine .seq (.rgn [] (by simp only [go_sem, seval, ag_, ae_, ai_, aa_, aj_, ak_]; rfl) ?_ ?_)
     ·(first | trivial | (simp; done) | (simp only [T3_] at h12; have hk : k < l.length := (by omega); have q1 := hN k hI.2 (by omega); have q2 := c2_ k ((b1_ (l.getD k Pg0).text).getD []) (l.getD k Pg0).frm; have q3 := (hs _ (bt_ (d := Pg0) hk)).2.2; first | (and_intros <;> omega) | exact ⟨⟨hI.2, hk⟩, of_eq_true (cx_ _), by simp, by omega⟩))
     refine .condB (by simp only [go_sem, seval, ag_, ae_, ai_, aa_, aj_, ak_]; rfl) (by simp only [go_sem, seval, ag_, ae_, ai_, aa_, aj_, ak_]) (fun h17 => ?_) (fun h17 => ?_)
     ·refine .rgn [cw_ (ea_ l = true ∧ k < l.length) (hE k)] (by simp only [go_sem, seval, ag_, ae_, ai_, aa_, aj_, ak_]; rfl) ?_ ?_
      ·(first | trivial | (simp; done) | (simp only [T3_] at h12; have hk : k < l.length := (by omega); have q1 := hN k hI.2 (by omega); have q2 := c2_ k ((b1_ (l.getD k Pg0).text).getD []) (l.getD k Pg0).frm; have q3 := (hs _ (bt_ (d := Pg0) hk)).2.2; first | (and_intros <;> omega) | exact ⟨⟨hI.2, hk⟩, of_eq_true (cx_ _), by simp, by omega⟩))
      refine Exists.intro (()) ⟨?_, ?_⟩
      ·trivial
      refine Can.trans (Can.swap 35 20 (by decide) (by decide) (by decide) (by decide) (by simp only [go_sem, seval, ag_, ae_, ai_, aa_, aj_, ak_, V.cl]) (by simp only [go_sem, seval, ag_, ae_, ai_, aa_, aj_, ak_, V.cl]) (by simp only [go_sem, seval, ag_, ae_, ai_, aa_, aj_, ak_, by_, sw, swM, rnB] <;> rfl) (by simp only [go_sem, seval, ag_, ae_, ai_, aa_, aj_, ak_, by_, sw, swM, rnB] <;> rfl) (by simp only [go_sem, seval, ag_, ae_, ai_, aa_, aj_, ak_, by_, sw, swM, rnB] <;> rfl)) ?_
      exact Can.weak (Weak.lit (by simp only [go_sem, seval, ag_, ae_, ai_, aa_, aj_, ak_, at_, leV, aq_, ar_, V.inn, us, T9_, Ta_] <;> (first | (rw [ds_, if_pos (by simpa using h17)]; simp; done) | (rw [ds_, if_neg (by simpa using h17)]; simp; done))) (by simp only [go_sem, seval, ag_, ae_, ai_, aa_, aj_, ak_, at_, leV, aq_, ar_, V.inn, us, T9_, Ta_]) (by simp only [go_sem, seval, ag_, ae_, ai_, aa_, aj_, ak_, at_, leV, aq_, ar_, V.inn, us, T9_, Ta_] <;> (first | (rw [ds_, if_pos (by simpa using h17)]; simp [nz_]; done) | (rw [ds_, if_neg (by simpa using h17)]; simp; done))))
     ·refine .skip ?_
      refine Exists.intro (()) ⟨?_, ?_⟩
      ·trivial
      exact Can.weak (Weak.lit (by simp only [go_sem, seval, ag_, ae_, ai_, aa_, aj_, ak_, at_, leV, aq_, ar_, V.inn, us, T9_, Ta_] <;> (first | (rw [ds_, if_pos (by simpa using h17)]; simp; done) | (rw [ds_, if_neg (by simpa using h17)]; simp; done))) (by simp only [go_sem, seval, ag_, ae_, ai_, aa_, aj_, ak_, at_, leV, aq_, ar_, V.inn, us, T9_, Ta_]) (by simp only [go_sem, seval, ag_, ae_, ai_, aa_, aj_, ak_, at_, leV, aq_, ar_, V.inn, us, T9_, Ta_] <;> (first | (rw [ds_, if_pos (by simpa using h17)]; simp [nz_]; done) | (rw [ds_, if_neg (by simpa using h17)]; simp; done))))
    refine .rgn [] (by simp only [go_sem, seval, ag_, ae_, ai_, aa_, aj_, ak_]; rfl) ?_ ?_
    ·(first | trivial | (simp; done) | (simp only [T3_] at h12; have hk : k < l.length := (by omega); have q1 := hN k hI.2 (by omega); have q2 := c2_ k ((b1_ (l.getD k Pg0).text).getD []) (l.getD k Pg0).frm; have q3 := (hs _ (bt_ (d := Pg0) hk)).2.2; first | (and_intros <;> omega) | exact ⟨⟨hI.2, hk⟩, of_eq_true (cx_ _), by simp, by omega⟩))
    refine Exists.intro (k + 1) ⟨?_, ?_, ?_⟩
    ·simp at h12; exact ⟨by omega, hI.2⟩
    ·simp at h12; omega
    exact Can.weak (Weak.lit (by simp only [go_sem, seval, ag_, ae_, ai_, aa_, aj_, ak_, at_, leV, aq_, ar_, V.inn, us, T9_, Ta_] <;> (rw [bp_ (by simp at h12; omega) (by simp at h12; omega)]; simp)) (by simp only [go_sem, seval, ag_, ae_, ai_, aa_, aj_, ak_, at_, leV, aq_, ar_, V.inn, us, T9_, Ta_]) (by simp only [go_sem, seval, ag_, ae_, ai_, aa_, aj_, ak_, at_, leV, aq_, ar_, V.inn, us, T9_, Ta_]))
   ·refine .exit ?_
    refine Exists.intro (()) ⟨?_, ?_⟩
    ·exact hI.2
    refine Can.trans (Can.frz 20 (by simp only [go_sem, seval, ag_, ae_, ai_, aa_, aj_, ak_] <;> rfl) (by simp only [go_sem, seval, ag_, ae_, ai_, aa_, aj_, ak_]) (by simp only [go_sem, seval, ag_, ae_, ai_, aa_, aj_, ak_] <;> rfl) (by simp only [go_sem, seval, ag_, ae_, ai_, aa_, aj_, ak_] <;> rfl)) ?_
    exact Can.weak (Weak.lit (by simp only [go_sem, seval, ag_, ae_, ai_, aa_, aj_, ak_, at_, leV, aq_, ar_, V.inn, us, T9_, Ta_] <;> (simp at h12; (obtain rfl : k = l.length := (by omega)); simp [T1_, ak_, leV, ap_])) (by simp only [go_sem, seval, ag_, ae_, ai_, aa_, aj_, ak_, at_, leV, aq_, ar_, V.inn, us, T9_, Ta_]) (by simp only [go_sem, seval, ag_, ae_, ai_, aa_, aj_, ak_, at_, leV, aq_, ar_, V.inn, us, T9_, Ta_]))
  refine .seq (.rgn [cw_ (ea_ l = true) (fun h => aa7_ (ds_ l l.length) (by have := hN _ h (Nat.le_refl _); omega))] (by simp only [go_sem, seval, ag_, ae_, ai_, aa_, aj_, ak_]; rfl) ?_ ?_)
  ·(first | trivial | (simp; done) | (simp only [T3_] at h12; have hk : k < l.length := (by omega); have q1 := hN k hI.2 (by omega); have q2 := c2_ k ((b1_ (l.getD k Pg0).text).getD []) (l.getD k Pg0).frm; have q3 := (hs _ (bt_ (d := Pg0) hk)).2.2; first | (and_intros <;> omega) | exact ⟨⟨hI.2, hk⟩, of_eq_true (cx_ _), by simp, by omega⟩))
  refine .ret ⟨.inr rfl, ?_⟩
  exact Out.plainL (by simp only [Tryz.results49]; rfl) (by simp only [az_, bj_, go_sem, seval, ag_, ae_, ai_, aa_, aj_, ak_] <;> (split <;> rfl)) (by simp only [bg_, go_sem, seval, ag_, ae_, ai_, aa_, aj_, ak_] <;> (simp [ez_, hJ, ap_, leV])) (by simp only [go_sem, seval, ag_, ae_, ai_, aa_, aj_, ak_])
end
section
set_option maxRecDepth 100000
set_option maxHeartbeats 4000000
theorem aam_ (p q : Pg) (hp : pgB p) (hq : pgB q) : ACall En 70 [.ag (pgC p), .ag (pgC q)] [] [.b (decide (p = q))] [] := by
 have h1 := hp.2.2
 have h2 := hq.2.2
 refine al_ (fn := Tryz.f70) [] Tryz.func70 rfl rfl (by simp) fun C => ?_
 rw [ay_]
 simp only [Tryz.ntmps70, T7_, List.length_nil, Nat.reduceAdd, Nat.reduceSub, List.replicate_succ, List.replicate_zero, List.cons_append, List.nil_append, bs_]
 refine .seq (.rgn [] (by simp only [go_sem, seval, ai_, aa_, ad_]; rfl) ?_ ?_)
 ·first | trivial | simp
 refine .seq (.seq (.rgn [] (by simp only [go_sem, seval, ai_, aa_, ad_]; rfl) ?_ ?_))
 ·first | trivial | simp
 refine .condB (by simp only [go_sem, seval, ai_, aa_, ad_]; rfl) (by simp only [go_sem, seval, ai_, aa_, ad_]) (fun h33 => ?_) (fun h33 => ?_)
 ·refine .seq (.rgn [] (by simp only [go_sem, seval, ai_, aa_, ad_]; rfl) ?_ ?_)
  ·first | trivial | simp
  refine .ret ⟨.inr rfl, ?_⟩
  exact Out.plain (by simp only [Tryz.results70]; rfl) (by simp only [az_, bj_, go_sem, seval, ai_, aa_, ad_] <;> (split <;> rfl)) (by simp only [bg_, go_sem, seval, ai_, aa_, ad_] <;> (rw [decide_eq_false]; rintro rfl; simp at h33)) (by simp only [go_sem, seval, ai_, aa_, ad_])
 ·refine .skip (.seq (.seq (.rgn [] (by simp only [go_sem, seval, ai_, aa_, ad_]; rfl) ?_ ?_)))
  ·first | trivial | simp
  refine .block (.loopK (fun k : Nat => ⟨[.no, .no, .pt 12 4 0 0, .pt 13 4 0 0, .no, .i .i64 k, .no, .no, .no, .no, .no, .no, .no, .no, .no, .no, .no, .no, .no, .no, .no, .no, .no, .no, .no, .no, .no, .no, .no, .no, .no, .no, .no, .no, .no, .no, .no, .no, .no, .no, .no, .no, .no, .no, .no, .no, .no, .no, .no, .no, .no, .no], a7_ [(12, ⟨39, 4, [pgC p]⟩), (13, ⟨39, 4, [pgC q]⟩)], us [12, 13]⟩) (fun k : Nat => k ≤ p.frm.length ∧ p.frm.take k = q.frm.take k) (fun k : Nat => p.frm.length - k) (0) ?_ ?_ (fun k hI => ?_))
  ·exact ⟨Nat.zero_le _, rfl⟩
  ·exact Can.weak (Weak.lit (by simp only [go_sem, seval, ai_, aa_, ad_, at_, leV, aq_, ar_, V.inn, us, T9_, Ta_] <;> ((try simp))) (by simp only [go_sem, seval, ai_, aa_, ad_, at_, leV, aq_, ar_, V.inn, us, T9_, Ta_]) (by simp only [go_sem, seval, ai_, aa_, ad_, at_, leV, aq_, ar_, V.inn, us, T9_, Ta_]))
  refine .seq (.seq (.rgn [] (by simp only [go_sem, seval, ai_, aa_, ad_]; rfl) ?_ ?_))
  ·first | trivial | simp
  refine .condB (by simp only [go_sem, seval, ai_, aa_, ad_]; rfl) (by simp only [go_sem, seval, ai_, aa_, ad_]) (fun h38 => ?_) (fun h38 => ?_)
  ·refine .skip (.seq (.block (.seq (.rgnD [] enM (by simp only [go_sem, seval, ai_, aa_, ad_, dj_ (show k < p.frm.length by simpa using h38), dj_ (show k < q.frm.length by have e := (n8_ h33).2.2.2; simp only [T3_] at h38; omega)]; rfl) (by rfl) ?_ ?_))))
   ·have e := (n8_ h33).2.2.2; simp only [T3_] at h38; and_intros <;> omega
   refine .condB (by simp only [go_sem, seval, ai_, aa_, ad_]; rfl) (by simp only [go_sem, seval, ai_, aa_, ad_]) (fun h51 => ?_) (fun h51 => ?_)
   ·refine .seq (.rgn [] (by simp only [go_sem, seval, ai_, aa_, ad_]; rfl) ?_ ?_)
    ·first | trivial | simp
    refine .ret ⟨.inr rfl, ?_⟩
    exact Out.plain (by simp only [Tryz.results70]; rfl) (by simp only [az_, bj_, go_sem, seval, ai_, aa_, ad_] <;> (split <;> rfl)) (by simp only [bg_, go_sem, seval, ai_, aa_, ad_] <;> (rw [decide_eq_false]; rintro rfl; simp at h51)) (by simp only [go_sem, seval, ai_, aa_, ad_])
   ·refine .skip (.rgn [] (by simp only [go_sem, seval, ai_, aa_, ad_]; rfl) ?_ ?_)
    ·first | trivial | simp
    refine Exists.intro (k + 1) ⟨?_, ?_, ?_⟩
    ·have e := (n8_ h33).2.2.2; simp only [T3_] at h38; exact ⟨by omega, i3_ (d := 0) (by omega) (by omega) hI.2 (bne_eq_false_iff_eq.1 h51)⟩
    ·simp only [T3_] at h38; omega
    exact Can.weak (Weak.lit (by simp only [go_sem, seval, ai_, aa_, ad_, at_, leV, aq_, ar_, V.inn, us, T9_, Ta_] <;> (simp only [T3_] at h38; exact bp_ (n := ((k + 1 : Nat) : Int)) (by omega) (by omega))) (by simp only [go_sem, seval, ai_, aa_, ad_, at_, leV, aq_, ar_, V.inn, us, T9_, Ta_]) (by simp only [go_sem, seval, ai_, aa_, ad_, at_, leV, aq_, ar_, V.inn, us, T9_, Ta_]))
  ·refine .exit (.seq (.rgn [] (by simp only [go_sem, seval, ai_, aa_, ad_]; rfl) ?_ ?_))
   ·first | trivial | simp
   refine .ret ⟨.inr rfl, ?_⟩
   exact Out.plain (by simp only [Tryz.results70]; rfl) (by simp only [az_, bj_, go_sem, seval, ai_, aa_, ad_] <;> (split <;> rfl)) (by simp only [bg_, go_sem, seval, ai_, aa_, ad_] <;> (simp only [T4_] at h38; have e := n8_ h33; have e2 := hI.2; rw [T1_ (by omega), T1_ (by omega)] at e2; rw [decide_eq_true (uf_.2 ⟨⟨⟨e.1, e.2.1⟩, e.2.2.1⟩, e2⟩)])) (by simp only [go_sem, seval, ai_, aa_, ad_])
theorem aip_ {l : List Pg} {k : Nat} (h : k < l.length) : (l.take (k + 1)).all okP = ((l.take k).all okP && okP (l.getD k Pg0)) := by
 rw [List.take_add_one, T6_ h, List.all_append, T8_, T6_ h]; simp
theorem afk_ {l : List Pg} {k : Nat} (hk : k < l.length) (h : okP (l.getD k Pg0) = false) : ea_ l = false := by
 rw [Bool.eq_false_iff]; intro q
 rw [(eq_ q).2.2 k hk] at h; cases h
theorem aik_ {p : Pg} (h : (!tOk p.line || decide (((spl p.line).length : Int) > 1) || !decide (p = ka_ p.line)) = false) : okP p = true := by
 rw [ur_, ← Bool.not_and, Bool.not_eq_false'] at h; exact h
theorem ag1_ {p : Pg} (h : (!tOk p.line || decide (((spl p.line).length : Int) > 1) || !decide (p = ka_ p.line)) = true) : okP p = false := by
 rw [ur_, ← Bool.not_and, Bool.not_eq_true'] at h; exact h
theorem ry_ (l : List Pg) (hs : ∀ p ∈ l, pgB p) (hl : l.length ≤ 2000000) : ACall En 14 [.sl false (pgR l)] [] [.b (ea_ l)] [] := by
 have hB : ∀ k, k < l.length → pgB (l.getD k Pg0) := fun k h => hs _ (bt_ h)
 refine al_ (fn := Tryz.f14) [] Tryz.func14 rfl rfl (by simp) fun C => ?_
 rw [ay_]
 simp only [Tryz.ntmps14, T7_, List.length_nil, Nat.reduceAdd, Nat.reduceSub, List.replicate_succ, List.replicate_zero, List.cons_append, List.nil_append, bs_]
 refine .seq (.rgn [] (by simp only [go_sem, seval, ag_, ae_, ai_, aa_, ac_, ab_]; rfl) ?_ ?_)
 ·first | trivial | simp
 refine .seq (.seq (.rgn [] (by simp only [go_sem, seval, ag_, ae_, ai_, aa_, ac_, ab_]; rfl) ?_ ?_))
 ·first | trivial | simp
 refine .block (.loopK (fun k : Nat => ⟨[.sl false (pgR l), .no, .no, .i .i64 k, .no, .no, .no, .no, .no, .no, .no, .no, .no, .no, .no, .no, .no, .no, .no, .no, .no, .no, .no, .no, .no, .no, .no, .no, .no, .no, .no, .no, .no, .no, .no, .no, .no, .no, .no, .no, .no, .no, .no, .no, .no, .no, .no, .no, .no], a7_ [], us []⟩) (fun k : Nat => k ≤ l.length ∧ (l.take k).all okP = true) (fun k : Nat => l.length - k) (0) ?_ ?_ (fun k hI => ?_))
 ·exact ⟨Nat.zero_le _, rfl⟩
 ·exact Can.weak (Weak.lit (by simp only [go_sem, seval, ag_, ae_, ai_, aa_, ac_, ab_, at_, leV, aq_, ar_, V.inn, us, T9_, Ta_] <;> ((try simp))) (by simp only [go_sem, seval, ag_, ae_, ai_, aa_, ac_, ab_, at_, leV, aq_, ar_, V.inn, us, T9_, Ta_]) (by simp only [go_sem, seval, ag_, ae_, ai_, aa_, ac_, ab_, at_, leV, aq_, ar_, V.inn, us, T9_, Ta_]))
 refine .seq (.seq (.rgn [] (by simp only [go_sem, seval, ag_, ae_, ai_, aa_, ac_, ab_]; rfl) ?_ ?_))
 ·first | trivial | simp
 refine .condB (by simp only [go_sem, seval, ag_, ae_, ai_, aa_, ac_, ab_]; rfl) (by simp only [go_sem, seval, ag_, ae_, ai_, aa_, ac_, ab_]) (fun h7 => ?_) (fun h7 => ?_)
 ·refine .skip (.seq (.block (.seq (.rgnD [cw_ (k < l.length) (fun h => sb_ (l.getD k Pg0).line (by have := (hB k h).1; omega)), cw_ (k < l.length ∧ tOk (l.getD k Pg0).line = true) (fun h => um_ (l.getD k Pg0).line (zh_ h.2)), cw_ (k < l.length) (fun h => aa1_ (l.getD k Pg0).line (by have := (hB k h).1; omega)), cw_ (k < l.length) (fun h => aam_ (l.getD k Pg0) (ka_ (l.getD k Pg0).line) (hB k h) (aem_ (hB k h).1))] enM (by simp only [go_sem, seval, ag_, ae_, ai_, aa_, ac_, ab_, d0_ (show k < l.length by simpa using h7)]; rfl) (by rfl) ?_ ?_))))
  ·simp only [T3_] at h7; and_intros <;> first | omega | trivial | exact fun h => ⟨h, by omega, by omega⟩ | exact fun h => ⟨h, by omega⟩ | exact fun h => ⟨h, by omega, by simpa using h⟩ | exact fun h => by rw [h]; rfl
  refine .condB (by simp only [go_sem, seval, ag_, ae_, ai_, aa_, ac_, ab_]; rfl) (by simp only [go_sem, seval, ag_, ae_, ai_, aa_, ac_, ab_]) (fun h40 => ?_) (fun h40 => ?_)
  ·refine .seq (.rgn [] (by simp only [go_sem, seval, ag_, ae_, ai_, aa_, ac_, ab_]; rfl) ?_ ?_)
   ·first | trivial | simp
   refine .ret ⟨.inr rfl, ?_⟩
   exact Out.plain (by simp only [Tryz.results14]; rfl) (by simp only [az_, bj_, go_sem, seval, ag_, ae_, ai_, aa_, ac_, ab_] <;> (split <;> rfl)) (by simp only [bg_, go_sem, seval, ag_, ae_, ai_, aa_, ac_, ab_] <;> (rw [afk_ (k := k) (by simpa using h7) (ag1_ h40)])) (by simp only [go_sem, seval, ag_, ae_, ai_, aa_, ac_, ab_])
  ·refine .skip (.rgn [] (by simp only [go_sem, seval, ag_, ae_, ai_, aa_, ac_, ab_]; rfl) ?_ ?_)
   ·first | trivial | simp
   refine Exists.intro (k + 1) ⟨?_, ?_, ?_⟩
   ·simp at h7; refine ⟨by omega, ?_⟩; rw [aip_ h7, hI.2, aik_ h40]; rfl
   ·simp at h7; omega
   exact Can.weak (Weak.lit (by simp only [go_sem, seval, ag_, ae_, ai_, aa_, ac_, ab_, at_, leV, aq_, ar_, V.inn, us, T9_, Ta_] <;> (rw [bp_ (by simp at h7; omega) (by simp at h7; omega)]; (try simp))) (by simp only [go_sem, seval, ag_, ae_, ai_, aa_, ac_, ab_, at_, leV, aq_, ar_, V.inn, us, T9_, Ta_]) (by simp only [go_sem, seval, ag_, ae_, ai_, aa_, ac_, ab_, at_, leV, aq_, ar_, V.inn, us, T9_, Ta_]))
 ·refine .exit (.seq (.rgn [] (by simp only [go_sem, seval, ag_, ae_, ai_, aa_, ac_, ab_]; rfl) ?_ ?_))
  ·first | trivial | simp
  refine .ret ⟨.inr rfl, ?_⟩
  exact Out.plain (by simp only [Tryz.results14]; rfl) (by simp only [az_, bj_, go_sem, seval, ag_, ae_, ai_, aa_, ac_, ab_] <;> (split <;> rfl)) (by simp only [bg_, go_sem, seval, ag_, ae_, ai_, aa_, ac_, ab_] <;> (simp only [T4_] at h7; have e := hI.2; rw [T1_ (by omega)] at e; unfold ea_; rw [e]; simp only [h3_, Bool.and_true]; rfl)) (by simp only [go_sem, seval, ag_, ae_, ai_, aa_, ac_, ab_])
theorem bnE {l : List Pg} {k : Nat} (hk : k ≤ l.length) (h : ea_ l = true ∨ k = 0) (h2 : (decide ((k : Int) < l.length) && ea_ l) = false) : ev_ l k = hd_ l := by
 unfold hd_
 cases hb : ea_ l with
 | true =>
  rw [hb] at h2
  simp at h2
  rw [if_pos rfl, show k = l.length by omega]
 | false =>
  rw [hb] at h
  obtain rfl : k = 0 := by simpa using h
  rfl
theorem x2_ (l : List Pg) (hs : ∀ p ∈ l, pgB p) (hl : l.length ≤ 2000000) : ACall En 43 [.sl false (pgR l)] [] [.sl false (inR (hd_ l))] [] := by
 have hB := fun k => jq_ l k
 refine al_ (fn := Tryz.f43) [] Tryz.func43 rfl rfl (by simp) fun C => ?_
 rw [ay_]
 simp only [Tryz.ntmps43, T7_, List.length_nil, Nat.reduceAdd, Nat.reduceSub, List.replicate_succ, List.replicate_zero, List.cons_append, List.nil_append, bs_]
 refine .seq (.rgn [] (by simp only [go_sem, seval, ag_, ae_, ai_, aa_, ad_]; rfl) ?_ ?_)
 ·(first | trivial | (simp; done) | (simp only [T5_, T3_] at h13; and_intros <;> omega) | (have := hB k; simp [ad_]; omega))
 refine .seq (.rgn [] (by simp only [go_sem, seval, ag_, ae_, ai_, aa_, ad_]; rfl) ?_ ?_)
 ·(first | trivial | (simp; done) | (simp only [T5_, T3_] at h13; and_intros <;> omega) | (have := hB k; simp [ad_]; omega))
 refine .seq (.seq (.rgn [] (by simp only [go_sem, seval, ag_, ae_, ai_, aa_, ad_]; rfl) ?_ ?_))
 ·(first | trivial | (simp; done) | (simp only [T5_, T3_] at h13; and_intros <;> omega) | (have := hB k; simp [ad_]; omega))
 refine .block (.loopK (fun k : Nat => ⟨[.sl false (pgR l), .no, .no, .ow 60 1 0 (ev_ l k).length, .i .i64 k, .no, .no, .no, .no, .no, .no, .no, .no, .no, .no, .no, .no, .no, .no, .no, .no, .no, .no, .no, .no, .no, .no], a7_ [(60, ⟨3, 1, inR (ev_ l k)⟩)], us [60]⟩) (fun k : Nat => k ≤ l.length ∧ (ea_ l = true ∨ k = 0)) (fun k : Nat => l.length - k) (0) ?_ ?_ (fun k hI => ?_))
 ·exact ⟨Nat.zero_le _, .inr rfl⟩
 ·refine Can.trans (Can.ownSlot 3 60 3 1 (by simp only [go_sem, seval, ag_, ae_, ai_, aa_, ad_] <;> rfl) (by simp only [go_sem, seval, ag_, ae_, ai_, aa_, ad_]) (by simp only [go_sem, seval, ag_, ae_, ai_, aa_, ad_] <;> rfl)) ?_
  exact Can.weak (Weak.lit (by simp only [go_sem, seval, ag_, ae_, ai_, aa_, ad_, at_, leV, aq_, ar_, V.inn, us, T9_, Ta_] <;> ((try simp [ev_]))) (by simp only [go_sem, seval, ag_, ae_, ai_, aa_, ad_, at_, leV, aq_, ar_, V.inn, us, T9_, Ta_]) (by simp only [go_sem, seval, ag_, ae_, ai_, aa_, ad_, at_, leV, aq_, ar_, V.inn, us, T9_, Ta_] <;> ((try simp [ev_, inR]))))
 refine .seq (.seq (.rgn [a9_ (ry_ l hs hl)] (by simp only [go_sem, seval, ag_, ae_, ai_, aa_, ad_]; rfl) ?_ ?_))
 ·(first | trivial | (simp; done) | (simp only [T5_, T3_] at h13; and_intros <;> omega) | (have := hB k; simp [ad_]; omega))
 refine .condB (by simp only [go_sem, seval, ag_, ae_, ai_, aa_, ad_]; rfl) (by simp only [go_sem, seval, ag_, ae_, ai_, aa_, ad_]) (fun h13 => ?_) (fun h13 => ?_)
 ·refine .skip (.seqJ (fun u : Unit => ⟨[.sl false (pgR l), .no, .no, .ow 60 1 0 (ev_ l (k + 1)).length, .i .i64 k, .no, .no, .no, .no, .no, .no, .no, .no, .no, .no, .no, .no, .no, .no, .no, .no, .no, .no, .no, .no, .no, .no], a7_ [(60, ⟨3, 1, inR (ev_ l (k + 1))⟩)], us [60]⟩) (fun u : Unit => True) ?_ (fun u hJ => ?_))
  ·refine .block (.seq (.rgn [] (by simp only [go_sem, seval, ag_, ae_, ai_, aa_, ad_, d0_ (show k < l.length by simp at h13; omega)]; rfl) ?_ ?_))
   ·(first | trivial | (simp; done) | (simp only [T5_, T3_] at h13; and_intros <;> omega) | (have := hB k; simp [ad_]; omega))
   refine .condB (by simp only [go_sem, seval, ag_, ae_, ai_, aa_, ad_]; rfl) (by simp only [go_sem, seval, ag_, ae_, ai_, aa_, ad_]) (fun h21 => ?_) (fun h21 => ?_)
   ·refine .rgn [] (by simp only [go_sem, seval, ag_, ae_, ai_, aa_, ad_]; rfl) ?_ ?_
    ·(first | trivial | (simp; done) | (simp only [T5_, T3_] at h13; and_intros <;> omega) | (have := hB k; simp [ad_]; omega))
    refine Exists.intro (()) ⟨?_, ?_⟩
    ·trivial
    refine Can.trans (Can.swap 35 60 (by decide) (by decide) (by decide) (by decide) (by simp only [go_sem, seval, ag_, ae_, ai_, aa_, ad_, V.cl]) (by simp only [go_sem, seval, ag_, ae_, ai_, aa_, ad_, V.cl]) (by simp only [go_sem, seval, ag_, ae_, ai_, aa_, ad_, by_, sw, swM, rnB] <;> rfl) (by simp only [go_sem, seval, ag_, ae_, ai_, aa_, ad_, by_, sw, swM, rnB] <;> rfl) (by simp only [go_sem, seval, ag_, ae_, ai_, aa_, ad_, by_, sw, swM, rnB] <;> rfl)) ?_
    exact Can.weak (Weak.lit (by simp only [go_sem, seval, ag_, ae_, ai_, aa_, ad_, at_, leV, aq_, ar_, V.inn, us, T9_, Ta_] <;> (first | (rw [ic_ (i := k) (n := 0) (by simpa using h21)]; done) | (rw [dx_ (i := k) (by simpa using h21)]; done))) (by simp only [go_sem, seval, ag_, ae_, ai_, aa_, ad_, at_, leV, aq_, ar_, V.inn, us, T9_, Ta_]) (by simp only [go_sem, seval, ag_, ae_, ai_, aa_, ad_, at_, leV, aq_, ar_, V.inn, us, T9_, Ta_] <;> (first | (rw [h2_ (k := k) (by simpa using h21), g1_]; done) | (rw [dx_ (i := k) (by simpa using h21)]; done))))
   ·refine .skip ?_
    refine Exists.intro (()) ⟨?_, ?_⟩
    ·trivial
    exact Can.weak (Weak.lit (by simp only [go_sem, seval, ag_, ae_, ai_, aa_, ad_, at_, leV, aq_, ar_, V.inn, us, T9_, Ta_] <;> (first | (rw [ic_ (i := k) (n := 0) (by simpa using h21)]; done) | (rw [dx_ (i := k) (by simpa using h21)]; done))) (by simp only [go_sem, seval, ag_, ae_, ai_, aa_, ad_, at_, leV, aq_, ar_, V.inn, us, T9_, Ta_]) (by simp only [go_sem, seval, ag_, ae_, ai_, aa_, ad_, at_, leV, aq_, ar_, V.inn, us, T9_, Ta_] <;> (first | (rw [h2_ (k := k) (by simpa using h21), g1_]; done) | (rw [dx_ (i := k) (by simpa using h21)]; done))))
  refine .rgn [] (by simp only [go_sem, seval, ag_, ae_, ai_, aa_, ad_]; rfl) ?_ ?_
  ·(first | trivial | (simp; done) | (simp only [T5_, T3_] at h13; and_intros <;> omega) | (have := hB k; simp [ad_]; omega))
  refine Exists.intro (k + 1) ⟨?_, ?_, ?_⟩
  ·simp at h13; exact ⟨by omega, .inl h13.2⟩
  ·simp at h13; omega
  exact Can.weak (Weak.lit (by simp only [go_sem, seval, ag_, ae_, ai_, aa_, ad_, at_, leV, aq_, ar_, V.inn, us, T9_, Ta_] <;> (rw [bp_ (by simp at h13; omega) (by simp at h13; omega)]; (try simp))) (by simp only [go_sem, seval, ag_, ae_, ai_, aa_, ad_, at_, leV, aq_, ar_, V.inn, us, T9_, Ta_]) (by simp only [go_sem, seval, ag_, ae_, ai_, aa_, ad_, at_, leV, aq_, ar_, V.inn, us, T9_, Ta_]))
 ·refine .exit (.seq (.rgn [] (by simp only [go_sem, seval, ag_, ae_, ai_, aa_, ad_]; rfl) ?_ ?_))
  ·(first | trivial | (simp; done) | (simp only [T5_, T3_] at h13; and_intros <;> omega) | (have := hB k; simp [ad_]; omega))
  refine .frz 60 (by simp only [go_sem, seval, ag_, ae_, ai_, aa_, ad_]; rfl) (by simp only [go_sem, seval, ag_, ae_, ai_, aa_, ad_]) (by simp only [go_sem, seval, ag_, ae_, ai_, aa_, ad_]; rfl) (by simp only [go_sem, seval, ag_, ae_, ai_, aa_, ad_]; rfl) ?_
  refine .ret ⟨.inr rfl, ?_⟩
  exact Out.plain (by simp only [Tryz.results43]; rfl) (by simp only [az_, bj_, go_sem, seval, ag_, ae_, ai_, aa_, ad_] <;> (split <;> rfl)) (by simp only [bg_, go_sem, seval, ag_, ae_, ai_, aa_, ad_] <;> (rw [bnE hI.1 hI.2 h13, T1_ (by rw [ad_]; exact Nat.le_refl _)])) (by simp only [go_sem, seval, ag_, ae_, ai_, aa_, ad_])
end
section
set_option maxRecDepth 100000
set_option maxHeartbeats 4000000
def mo_ (l : List Pg) (k j : Nat) : List Sg := ds_ l k ++ sgK k ((b1_ (l.getD k Pg0).text).getD []) (l.getD k Pg0).frm j
theorem jo_ {l : List Pg} (h : ea_ l = true) {k : Nat} (hk : k < l.length) : ((b1_ (l.getD k Pg0).text).getD []).length = (l.getD k Pg0).frm.length ∧ (l.getD k Pg0).frm.length ≤ 76 := by
 obtain ⟨q1, q2, _⟩ := j4_ ((eq_ h).2.2 k hk)
 have hs := l5_ (l.getD k Pg0).line
 rw [q1, q2]
 exact ⟨by rw [px_ hs], p6_ hs⟩
theorem r8_ (l : List Pg) (k : Nat) : mo_ l k 0 = ds_ l k := by unfold mo_; rw [qe_, List.append_nil]
theorem up_ {l : List Pg} (h : ea_ l = true) {k j : Nat} (hk : k < l.length) (hj : (l.getD k Pg0).frm.length ≤ j) : mo_ l k j = ds_ l (k + 1) := by
 have h1 := jo_ h hk
 unfold mo_
 rw [y6_ (.inr hj), ds_]
 congr 1
 cases hg : (l.getD k Pg0).good with
 | true => rfl
 | false =>
  have ho := (eq_ h).2.2 k hk
  have := (j4_ ho).2.1
  rw [ad2_ ho hg, emF_S0] at this
  rw [this]; unfold sgs; simp
theorem gi_ {l : List Pg} (h : ea_ l = true) {k j : Nat} (hk : k < l.length) (hj : j < (l.getD k Pg0).frm.length) : mo_ l k (j + 1) = mo_ l k j ++ (if 0 ≤ (l.getD k Pg0).frm.getD j 0 then [((k : Int), (((b1_ (l.getD k Pg0).text).getD []).getD j T0k).col, (k : Int), (l.getD k Pg0).frm.getD j 0)] else []) := by
 have h1 := jo_ h hk
 unfold mo_
 rw [f1_ (by omega) hj, List.append_assoc]
theorem fg_ {l : List Pg} (h : ea_ l = true) {k j : Nat} (hk : k < l.length) (hj : j ≤ (l.getD k Pg0).frm.length) : (mo_ l k j).length ≤ 3000 := by
 have h1 := jo_ h hk
 have h2 := t6_ (sq_ h) (k := k) (by rw [hf_]; omega)
 have h3 := fw_ k ((b1_ (l.getD k Pg0).text).getD []) (l.getD k Pg0).frm j
 unfold mo_
 rw [T2_, qk_ h k (by omega)]
 omega
theorem snE {l : List Pg} {k : Nat} (hk : k ≤ l.length) (h : 0 < k → ea_ l = true) (h2 : (decide ((k : Int) < l.length) && ea_ l) = false) : ds_ l k = ez_ l := by
 unfold ez_
 cases hb : ea_ l with
 | true =>
  rw [hb] at h2
  simp at h2
  rw [if_pos rfl, show k = l.length by omega]
 | false =>
  rw [hb] at h
  obtain rfl : k = 0 := by rcases Nat.eq_zero_or_pos k with q | q; exact q; exact absurd (h q) (by decide)
  rfl
theorem vk_ (l : List Pg) (hs : ∀ p ∈ l, pgB p) (hl : l.length ≤ 2000000) : ACall En 48 [.sl false (pgR l)] [] [.sl false (sgR (ez_ l))] [] := by
 have hB : ∀ k, k < l.length → pgB (l.getD k Pg0) := fun k h => hs _ (bt_ h)
 refine al_ (fn := Tryz.f48) [] Tryz.func48 rfl rfl (by simp) fun C => ?_
 rw [ay_]
 simp only [Tryz.ntmps48, T7_, List.length_nil, Nat.reduceAdd, Nat.reduceSub, List.replicate_succ, List.replicate_zero, List.cons_append, List.nil_append, bs_]
 refine .seq (.rgn [] (by simp only [go_sem, seval, ag_, ae_, ai_, aa_, ad_, as_, am_, aj_, ak_]; rfl) ?_ ?_)
 ·(first | trivial | (simp; done) | (simp only [T5_, T3_] at h16; and_intros <;> omega) | (simp only [T5_, T3_] at h16 h35; have q := jo_ h16.2 (k := k) (by omega); have q2 := fg_ h16.2 (k := k) (j := j) (by omega) (by omega); and_intros <;> first | omega | (simp [cb_]; done) | (simp; omega)))
 refine .seq (.rgn [] (by simp only [go_sem, seval, ag_, ae_, ai_, aa_, ad_, as_, am_, aj_, ak_]; rfl) ?_ ?_)
 ·(first | trivial | (simp; done) | (simp only [T5_, T3_] at h16; and_intros <;> omega) | (simp only [T5_, T3_] at h16 h35; have q := jo_ h16.2 (k := k) (by omega); have q2 := fg_ h16.2 (k := k) (j := j) (by omega) (by omega); and_intros <;> first | omega | (simp [cb_]; done) | (simp; omega)))
 refine .seq (.seq (.rgn [] (by simp only [go_sem, seval, ag_, ae_, ai_, aa_, ad_, as_, am_, aj_, ak_]; rfl) ?_ ?_))
 ·(first | trivial | (simp; done) | (simp only [T5_, T3_] at h16; and_intros <;> omega) | (simp only [T5_, T3_] at h16 h35; have q := jo_ h16.2 (k := k) (by omega); have q2 := fg_ h16.2 (k := k) (j := j) (by omega) (by omega); and_intros <;> first | omega | (simp [cb_]; done) | (simp; omega)))
 refine .block (.loopK (fun k : Nat => ⟨[.sl false (pgR l), .no, .no, .ow 80 4 0 (ds_ l k).length, .i .i64 k, .no, .no, .no, .no, .no, .no, .no, .no, .no, .no, .no, .no, .no, .no, .no, .no, .no, .no, .no, .no, .no, .no, .no, .no, .no, .no, .no, .no, .no, .no, .no, .no, .no, .no, .no, .no, .no, .no, .no, .no, .no, .no, .no, .no, .no, .no, .no, .no, .no, .no, .no, .no, .no, .no, .no, .no, .no, .no, .no, .no, .no, .no, .no, .no], a7_ [(80, ⟨98, 4, sgR (ds_ l k)⟩)], us [80]⟩) (fun k : Nat => k ≤ l.length ∧ (0 < k → ea_ l = true)) (fun k : Nat => l.length - k) (0) ?_ ?_ (fun k hI => ?_))
 ·exact ⟨by simp, fun h => by omega⟩
 ·refine Can.trans (Can.ownSlot 3 80 98 4 (by simp only [go_sem, seval, ag_, ae_, ai_, aa_, ad_, as_, am_, aj_, ak_] <;> rfl) (by simp only [go_sem, seval, ag_, ae_, ai_, aa_, ad_, as_, am_, aj_, ak_]) (by simp only [go_sem, seval, ag_, ae_, ai_, aa_, ad_, as_, am_, aj_, ak_] <;> rfl)) ?_
  exact Can.weak (Weak.lit (by simp only [go_sem, seval, ag_, ae_, ai_, aa_, ad_, as_, am_, aj_, ak_, at_, leV, aq_, ar_, V.inn, us, T9_, Ta_] <;> (simp [ds_])) (by simp only [go_sem, seval, ag_, ae_, ai_, aa_, ad_, as_, am_, aj_, ak_, at_, leV, aq_, ar_, V.inn, us, T9_, Ta_]) (by simp only [go_sem, seval, ag_, ae_, ai_, aa_, ad_, as_, am_, aj_, ak_, at_, leV, aq_, ar_, V.inn, us, T9_, Ta_] <;> (simp [ds_, sgR])))
 refine .seq (.seq (.rgn [a9_ (ry_ l hs hl)] (by simp only [go_sem, seval, ag_, ae_, ai_, aa_, ad_, as_, am_, aj_, ak_]; rfl) ?_ ?_))
 ·(first | trivial | (simp; done) | (simp only [T5_, T3_] at h16; and_intros <;> omega) | (simp only [T5_, T3_] at h16 h35; have q := jo_ h16.2 (k := k) (by omega); have q2 := fg_ h16.2 (k := k) (j := j) (by omega) (by omega); and_intros <;> first | omega | (simp [cb_]; done) | (simp; omega)))
 refine .condB (by simp only [go_sem, seval, ag_, ae_, ai_, aa_, ad_, as_, am_, aj_, ak_]; rfl) (by simp only [go_sem, seval, ag_, ae_, ai_, aa_, ad_, as_, am_, aj_, ak_]) (fun h16 => ?_) (fun h16 => ?_)
 ·refine .skip (.seq (.block (.seq (.rgn [cw_ (k < l.length) (fun h => o5_ (l.getD k Pg0).text (by have := (hB k h).2.1; omega))] (by simp only [go_sem, seval, ag_, ae_, ai_, aa_, ad_, as_, am_, aj_, ak_, d0_ (show k < l.length by simp at h16; exact h16.1)]; rfl) ?_ ?_))))
  ·(first | trivial | (simp; done) | (simp only [T5_, T3_] at h16; and_intros <;> omega) | (simp only [T5_, T3_] at h16 h35; have q := jo_ h16.2 (k := k) (by omega); have q2 := fg_ h16.2 (k := k) (j := j) (by omega) (by omega); and_intros <;> first | omega | (simp [cb_]; done) | (simp; omega)))
  refine .seq (.rgn [] (by simp only [go_sem, seval, ag_, ae_, ai_, aa_, ad_, as_, am_, aj_, ak_]; rfl) ?_ ?_)
  ·(first | trivial | (simp; done) | (simp only [T5_, T3_] at h16; and_intros <;> omega) | (simp only [T5_, T3_] at h16 h35; have q := jo_ h16.2 (k := k) (by omega); have q2 := fg_ h16.2 (k := k) (j := j) (by omega) (by omega); and_intros <;> first | omega | (simp [cb_]; done) | (simp; omega)))
  refine .block (.loopK (fun j : Nat => ⟨[.sl false (pgR l), .no, .no, .ow 80 4 0 (mo_ l k j).length, .i .i64 k, .sl false (tkR ((b1_ (l.getD k Pg0).text).getD [])), .no, .i .i64 j, .no, .no, .no, .no, .no, .no, .no, .no, .no, .no, .no, .no, .no, .no, .no, .no, .no, .no, .no, .no, .no, .no, .no, .no, .no, .no, .no, .no, .no, .no, .no, .no, .no, .no, .no, .no, .no, .no, .no, .no, .no, .no, .no, .no, .no, .no, .no, .no, .no, .no, .no, .no, .no, .no, .no, .no, .no, .no, .no, .no, .no], a7_ [(80, ⟨98, 4, sgR (mo_ l k j)⟩)], us [80]⟩) (fun j : Nat => k ≤ l.length ∧ (0 < k → ea_ l = true) ∧ j ≤ (l.getD k Pg0).frm.length) (fun j : Nat => (l.getD k Pg0).frm.length - j) (0) ?_ ?_ (fun j hI => ?_))
  ·exact ⟨hI.1, hI.2, Nat.zero_le _⟩
  ·exact Can.weak (Weak.lit (by simp only [go_sem, seval, ag_, ae_, ai_, aa_, ad_, as_, am_, aj_, ak_, at_, leV, aq_, ar_, V.inn, us, T9_, Ta_] <;> (simp [r8_])) (by simp only [go_sem, seval, ag_, ae_, ai_, aa_, ad_, as_, am_, aj_, ak_, at_, leV, aq_, ar_, V.inn, us, T9_, Ta_]) (by simp only [go_sem, seval, ag_, ae_, ai_, aa_, ad_, as_, am_, aj_, ak_, at_, leV, aq_, ar_, V.inn, us, T9_, Ta_] <;> (simp [r8_])))
  refine .seq (.seq (.rgn [] (by simp only [go_sem, seval, ag_, ae_, ai_, aa_, ad_, as_, am_, aj_, ak_, d0_ (show k < l.length by simp at h16; exact h16.1)]; rfl) ?_ ?_))
  ·(first | trivial | (simp; done) | (simp only [T5_, T3_] at h16; and_intros <;> omega) | (simp only [T5_, T3_] at h16 h35; have q := jo_ h16.2 (k := k) (by omega); have q2 := fg_ h16.2 (k := k) (j := j) (by omega) (by omega); and_intros <;> first | omega | (simp [cb_]; done) | (simp; omega)))
  refine .condB (by simp only [go_sem, seval, ag_, ae_, ai_, aa_, ad_, as_, am_, aj_, ak_]; rfl) (by simp only [go_sem, seval, ag_, ae_, ai_, aa_, ad_, as_, am_, aj_, ak_]) (fun h35 => ?_) (fun h35 => ?_)
  ·refine .skip (.seqJ (fun u : Unit => ⟨[.sl false (pgR l), .no, .no, .ow 80 4 0 (mo_ l k (j + 1)).length, .i .i64 k, .sl false (tkR ((b1_ (l.getD k Pg0).text).getD [])), .no, .i .i64 j, .no, .no, .no, .no, .no, .no, .no, .no, .no, .no, .no, .no, .no, .no, .no, .no, .no, .no, .no, .no, .no, .no, .no, .no, .no, .no, .no, .no, .no, .no, .no, .no, .no, .no, .no, .no, .no, .no, .no, .no, .no, .no, .no, .no, .no, .no, .no, .no, .no, .no, .no, .no, .no, .no, .no, .no, .no, .no, .no, .no, .no], a7_ [(80, ⟨98, 4, sgR (mo_ l k (j + 1))⟩)], us [80]⟩) (fun u : Unit => True) ?_ (fun u hJ => ?_))
   ·refine .block (.seq (.rgn [] (by simp only [go_sem, seval, ag_, ae_, ai_, aa_, ad_, as_, am_, aj_, ak_, d0_ (show k < l.length by simp at h16; exact h16.1), dj_ (show j < (l.getD k Pg0).frm.length by simpa using h35)]; rfl) ?_ ?_))
    ·(first | trivial | (simp; done) | (simp only [T5_, T3_] at h16; and_intros <;> omega) | (simp only [T5_, T3_] at h16 h35; have q := jo_ h16.2 (k := k) (by omega); have q2 := fg_ h16.2 (k := k) (j := j) (by omega) (by omega); and_intros <;> first | omega | (simp [cb_]; done) | (simp; omega)))
    refine .condB (by simp only [go_sem, seval, ag_, ae_, ai_, aa_, ad_, as_, am_, aj_, ak_]; rfl) (by simp only [go_sem, seval, ag_, ae_, ai_, aa_, ad_, as_, am_, aj_, ak_]) (fun h46 => ?_) (fun h46 => ?_)
    ·refine .rgnD [] enM (by simp only [go_sem, seval, ag_, ae_, ai_, aa_, ad_, as_, am_, aj_, ak_, d0_ (show k < l.length by simp at h16; exact h16.1), dj_ (show j < (l.getD k Pg0).frm.length by simpa using h35), n9_ (show j < ((b1_ (l.getD k Pg0).text).getD []).length by (simp only [T5_, T3_] at h16 h35; have := (jo_ h16.2 (k := k) (by omega)).1; omega))]; rfl) (by rfl) ?_ ?_
     ·(first | trivial | (simp; done) | (simp only [T5_, T3_] at h16; and_intros <;> omega) | (simp only [T5_, T3_] at h16 h35; have q := jo_ h16.2 (k := k) (by omega); have q2 := fg_ h16.2 (k := k) (j := j) (by omega) (by omega); and_intros <;> first | omega | (simp [cb_]; done) | (simp; omega)))
     refine Exists.intro (()) ⟨?_, ?_⟩
     ·trivial
     refine Can.trans (Can.swap 77 80 (by decide) (by decide) (by decide) (by decide) (by simp only [go_sem, seval, ag_, ae_, ai_, aa_, ad_, as_, am_, aj_, ak_, V.cl]) (by simp only [go_sem, seval, ag_, ae_, ai_, aa_, ad_, as_, am_, aj_, ak_, V.cl]) (by simp only [go_sem, seval, ag_, ae_, ai_, aa_, ad_, as_, am_, aj_, ak_, by_, sw, swM, rnB] <;> rfl) (by simp only [go_sem, seval, ag_, ae_, ai_, aa_, ad_, as_, am_, aj_, ak_, by_, sw, swM, rnB] <;> rfl) (by simp only [go_sem, seval, ag_, ae_, ai_, aa_, ad_, as_, am_, aj_, ak_, by_, sw, swM, rnB] <;> rfl)) ?_
     exact Can.weak (Weak.lit (by simp only [go_sem, seval, ag_, ae_, ai_, aa_, ad_, as_, am_, aj_, ak_, at_, leV, aq_, ar_, V.inn, us, T9_, Ta_] <;> (simp only [T5_, T3_] at h16 h35; first | (rw [gi_ h16.2 (by omega) (by omega), if_pos (by simpa using h46)]; simp; done) | (rw [gi_ h16.2 (by omega) (by omega), if_neg (by simpa using h46)]; simp; done))) (by simp only [go_sem, seval, ag_, ae_, ai_, aa_, ad_, as_, am_, aj_, ak_, at_, leV, aq_, ar_, V.inn, us, T9_, Ta_]) (by simp only [go_sem, seval, ag_, ae_, ai_, aa_, ad_, as_, am_, aj_, ak_, at_, leV, aq_, ar_, V.inn, us, T9_, Ta_] <;> (simp only [T5_, T3_] at h16 h35; first | (rw [gi_ h16.2 (by omega) (by omega), if_pos (by simpa using h46)]; simp [sgR, sgC, T0k]; done) | (rw [gi_ h16.2 (by omega) (by omega), if_neg (by simpa using h46)]; simp; done))))
    ·refine .skip ?_
     refine Exists.intro (()) ⟨?_, ?_⟩
     ·trivial
     exact Can.weak (Weak.lit (by simp only [go_sem, seval, ag_, ae_, ai_, aa_, ad_, as_, am_, aj_, ak_, at_, leV, aq_, ar_, V.inn, us, T9_, Ta_] <;> (simp only [T5_, T3_] at h16 h35; first | (rw [gi_ h16.2 (by omega) (by omega), if_pos (by simpa using h46)]; simp; done) | (rw [gi_ h16.2 (by omega) (by omega), if_neg (by simpa using h46)]; simp; done))) (by simp only [go_sem, seval, ag_, ae_, ai_, aa_, ad_, as_, am_, aj_, ak_, at_, leV, aq_, ar_, V.inn, us, T9_, Ta_]) (by simp only [go_sem, seval, ag_, ae_, ai_, aa_, ad_, as_, am_, aj_, ak_, at_, leV, aq_, ar_, V.inn, us, T9_, Ta_] <;> (simp only [T5_, T3_] at h16 h35; first | (rw [gi_ h16.2 (by omega) (by omega), if_pos (by simpa using h46)]; simp [sgR, sgC, T0k]; done) | (rw [gi_ h16.2 (by omega) (by omega), if_neg (by simpa using h46)]; simp; done))))
   refine .rgn [] (by simp only [go_sem, seval, ag_, ae_, ai_, aa_, ad_, as_, am_, aj_, ak_]; rfl) ?_ ?_
   ·(first | trivial | (simp; done) | (simp only [T5_, T3_] at h16; and_intros <;> omega) | (simp only [T5_, T3_] at h16 h35; have q := jo_ h16.2 (k := k) (by omega); have q2 := fg_ h16.2 (k := k) (j := j) (by omega) (by omega); and_intros <;> first | omega | (simp [cb_]; done) | (simp; omega)))
   refine Exists.intro (j + 1) ⟨?_, ?_, ?_⟩
   ·simp only [T3_] at h35; exact ⟨hI.1, hI.2.1, by omega⟩
   ·simp only [T3_] at h35; omega
   exact Can.weak (Weak.lit (by simp only [go_sem, seval, ag_, ae_, ai_, aa_, ad_, as_, am_, aj_, ak_, at_, leV, aq_, ar_, V.inn, us, T9_, Ta_] <;> (simp only [T5_, T3_] at h16 h35; have := jo_ h16.2 (k := k) (by omega); rw [bp_ (by omega) (by omega)]; (try simp))) (by simp only [go_sem, seval, ag_, ae_, ai_, aa_, ad_, as_, am_, aj_, ak_, at_, leV, aq_, ar_, V.inn, us, T9_, Ta_]) (by simp only [go_sem, seval, ag_, ae_, ai_, aa_, ad_, as_, am_, aj_, ak_, at_, leV, aq_, ar_, V.inn, us, T9_, Ta_]))
  ·refine .exit (.rgn [] (by simp only [go_sem, seval, ag_, ae_, ai_, aa_, ad_, as_, am_, aj_, ak_]; rfl) ?_ ?_)
   ·(first | trivial | (simp; done) | (simp only [T5_, T3_] at h16; and_intros <;> omega) | (simp only [T5_, T3_] at h16 h35; have q := jo_ h16.2 (k := k) (by omega); have q2 := fg_ h16.2 (k := k) (j := j) (by omega) (by omega); and_intros <;> first | omega | (simp [cb_]; done) | (simp; omega)))
   refine Exists.intro (k + 1) ⟨?_, ?_, ?_⟩
   ·simp at h16; exact ⟨by omega, fun _ => h16.2⟩
   ·simp at h16; omega
   exact Can.weak (Weak.lit (by simp only [go_sem, seval, ag_, ae_, ai_, aa_, ad_, as_, am_, aj_, ak_, at_, leV, aq_, ar_, V.inn, us, T9_, Ta_] <;> (simp only [T5_, T3_, T4_] at h16 h35; rw [bp_ (by omega) (by omega), up_ h16.2 (by omega) (j := j) (by omega)]; (try simp))) (by simp only [go_sem, seval, ag_, ae_, ai_, aa_, ad_, as_, am_, aj_, ak_, at_, leV, aq_, ar_, V.inn, us, T9_, Ta_]) (by simp only [go_sem, seval, ag_, ae_, ai_, aa_, ad_, as_, am_, aj_, ak_, at_, leV, aq_, ar_, V.inn, us, T9_, Ta_] <;> (simp only [T5_, T3_, T4_] at h16 h35; rw [up_ h16.2 (by omega) (j := j) (by omega)])))
 ·refine .exit (.seq (.rgn [] (by simp only [go_sem, seval, ag_, ae_, ai_, aa_, ad_, as_, am_, aj_, ak_]; rfl) ?_ ?_))
  ·(first | trivial | (simp; done) | (simp only [T5_, T3_] at h16; and_intros <;> omega) | (simp only [T5_, T3_] at h16 h35; have q := jo_ h16.2 (k := k) (by omega); have q2 := fg_ h16.2 (k := k) (j := j) (by omega) (by omega); and_intros <;> first | omega | (simp [cb_]; done) | (simp; omega)))
  refine .frz 80 (by simp only [go_sem, seval, ag_, ae_, ai_, aa_, ad_, as_, am_, aj_, ak_]; rfl) (by simp only [go_sem, seval, ag_, ae_, ai_, aa_, ad_, as_, am_, aj_, ak_]) (by simp only [go_sem, seval, ag_, ae_, ai_, aa_, ad_, as_, am_, aj_, ak_]; rfl) (by simp only [go_sem, seval, ag_, ae_, ai_, aa_, ad_, as_, am_, aj_, ak_]; rfl) ?_
  refine .ret ⟨.inr rfl, ?_⟩
  exact Out.plain (by simp only [Tryz.results48]; rfl) (by simp only [az_, bj_, go_sem, seval, ag_, ae_, ai_, aa_, ad_, as_, am_, aj_, ak_] <;> (split <;> rfl)) (by simp only [bg_, go_sem, seval, ag_, ae_, ai_, aa_, ad_, as_, am_, aj_, ak_] <;> (rw [snE hI.1 hI.2 h16, T1_ (by rw [ak_]; exact Nat.le_refl _)])) (by simp only [go_sem, seval, ag_, ae_, ai_, aa_, ad_, as_, am_, aj_, ak_])
end
end Go.Proofs.YtcigkafioinfoaaGreatDoor
