/- The law FnBookStuck: what it answers. Conditions: none. -/
import Derived.Test.YtpikbndepapbhaaGreatDoorK16
import Derived.Test.YtpikbndepapbhaaGreatDoorK4
set_option linter.unusedVariables false
set_option linter.unusedSimpArgs false
namespace Go.Proofs.YtpikbndepapbhaaGreatDoor
set_option maxRecDepth 100000
set_option maxHeartbeats 4000000
theorem am6_ {l : List Pg} (h : ∀ p ∈ l, pgB p) (n : Nat) : ∀ p ∈ stk l n, pgB p := fun p hp => by
 obtain ⟨k, hk, rfl⟩ := uk_ hp
 rw [g3_] at hk
 rw [ua_ hk]
 split
 ·exact ⟨by simp [pgE], by simp [pgE], by simp [pgE]⟩
 ·exact h _ (bh_ hk)
theorem oq_ (c : Str) : ACall En 7 [.sl false (byR c)] [] [.b true] [] := by
 have DA := qu_ c
 have hB := ak2_ (c.take 2000) 0
 have hn := oh_ (c.take 2000) 0
 generalize (dBk (c.take 2000) 0).1 = l at *
 have hbad : ct_ l = true → dy_ l = dd_ l l.length := fun h => by unfold dy_; rw [if_pos h]
 have b1 := afb_ l
 have sB := am6_ hB
 have sl := g3_ l
 have g1 := fun n => kc_ (stk l n)
 have g2 := kc_ l
 have hR : ∀ n, ct_ l = true ∧ n < (dy_ l).length → -1000 ≤ (dy_ l).getD n 0 ∧ (dy_ l).getD n 0 ≤ 1000000 := fun n h => by
  rw [hbad h.1] at h ⊢
  obtain ⟨k, hk, h1, _⟩ := jg_ (bh_ (d := 0) h.2)
  omega
 have e1 := fun (h : ct_ l = true) => adx_ h
 have e2 := fun (h : ct_ l = true) => agf_ h
 have e3 := fun (h : ct_ l = true) => ajx_ h
 have e4 := fun (n : Nat) (h : ct_ l = true) (hn : n < (dd_ l l.length).length) => ai7_ h hn
 refine al_ (fn := Tryz.f7) [] Tryz.func7 rfl rfl (by simp) fun C => ?_
 rw [aw_]
 simp only [Tryz.ntmps7, T7_, List.length_nil, Nat.reduceAdd, Nat.reduceSub, List.replicate_succ, List.replicate_zero, List.cons_append, List.nil_append, bo_]
 refine .seq (.rgn [] (by simp only [go_sem, seval, ad_, ae_, ac_, ah_, aq_, az_]; rfl) ?_ ?_)
 ·(first | trivial | (simp; done) | (simp only [T3_] at h37; exact ⟨by omega, hI.2, by omega⟩))
 refine .seq (.seq (.rgn [] (by simp only [go_sem, seval, ad_, ae_, ac_, ah_, aq_, az_]; rfl) ?_ ?_))
 ·(first | trivial | (simp; done) | (simp only [T3_] at h37; exact ⟨by omega, hI.2, by omega⟩))
 refine .condB (by simp only [go_sem, seval, ad_, ae_, ac_, ah_, aq_, az_]; rfl) (by simp only [go_sem, seval, ad_, ae_, ac_, ah_, aq_, az_]) (fun h11 => ?_) (fun h11 => ?_)
 ·refine .seq (.rgn [] (by simp only [go_sem, seval, ad_, ae_, ac_, ah_, aq_, az_]; rfl) ?_ ?_)
  ·(first | trivial | (simp; done) | (simp only [T3_] at h37; exact ⟨by omega, hI.2, by omega⟩))
  refine .ret ⟨.inr rfl, ?_⟩
  exact Out.plain (by simp only [Tryz.results7]; rfl) (by simp only [ay_, a6_, go_sem, seval, ad_, ae_, ac_, ah_, aq_, az_] <;> (split <;> rfl)) (by simp only [a5_, go_sem, seval, ad_, ae_, ac_, ah_, aq_, az_] <;> (rfl)) (by simp only [go_sem, seval, ad_, ae_, ac_, ah_, aq_, az_])
 ·refine .skip (.seq (.rgn [a4_ DA] (by simp only [go_sem, seval, ad_, ae_, ac_, ah_, aq_, az_]; rfl) ?_ ?_))
  ·(first | trivial | (simp; done) | (simp only [T3_] at h37; exact ⟨by omega, hI.2, by omega⟩))
  refine .seq (.rgn [a4_ (pg_ l hB (by omega))] (by simp only [go_sem, seval, ad_, ae_, ac_, ah_, aq_, az_]; rfl) ?_ ?_)
  ·(first | trivial | (simp; done) | (simp only [T3_] at h37; exact ⟨by omega, hI.2, by omega⟩))
  refine .seq (.seq (.rgn [a4_ (pe_ l hB (by omega)), a4_ (jz_ l hB (by omega))] (by simp only [go_sem, seval, ad_, ae_, ac_, ah_, aq_, az_]; rfl) ?_ ?_))
  ·(first | trivial | (simp; done) | (simp only [T3_] at h37; exact ⟨by omega, hI.2, by omega⟩))
  refine .condB (by simp only [go_sem, seval, ad_, ae_, ac_, ah_, aq_, az_]; rfl) (by simp only [go_sem, seval, ad_, ae_, ac_, ah_, aq_, az_]) (fun h26 => ?_) (fun h26 => ?_)
  ·refine .seq (.rgn [a4_ (pe_ l hB (by omega))] (by simp only [go_sem, seval, ad_, ae_, ac_, ah_, aq_, az_]; rfl) ?_ ?_)
   ·(first | trivial | (simp; done) | (simp only [T3_] at h37; exact ⟨by omega, hI.2, by omega⟩))
   refine .ret ⟨.inr rfl, ?_⟩
   exact Out.plain (by simp only [Tryz.results7]; rfl) (by simp only [ay_, a6_, go_sem, seval, ad_, ae_, ac_, ah_, aq_, az_] <;> (split <;> rfl)) (by simp only [a5_, go_sem, seval, ad_, ae_, ac_, ah_, aq_, az_] <;> (simp)) (by simp only [go_sem, seval, ad_, ae_, ac_, ah_, aq_, az_])
  ·refine .skip (.seq (.rgn [] (by simp only [go_sem, seval, ad_, ae_, ac_, ah_, aq_, az_]; rfl) ?_ ?_))
   ·(first | trivial | (simp; done) | (simp only [T3_] at h37; exact ⟨by omega, hI.2, by omega⟩))
   refine .seqJ (fun u : Unit => ⟨[.no, .no, .no, .sl false (pgR l), .no, .sl false (pgR (stk l (dy_ l).length)), .no, .no, .no, .no, .no, .no, .no, .no, .no, .no, .no, .no, .no, .no, .no, .no, .no, .no, .no, .no, .no, .no, .no, .no, .no, .no, .no, .no, .no, .no, .no, .no, .no, .no, .no, .no, .no, .no, .no, .no, .no, .no, .no, .no, .no, .no, .no, .no, .no, .no, .no, .no, .no, .no, .no, .no, .no, .no, .no, .no, .no, .no, .no, .no], be_ [], us []⟩) (fun u : Unit => ct_ l = true) ?_ (fun u hJ => ?_)
   ·refine .seq (.rgn [] (by simp only [go_sem, seval, ad_, ae_, ac_, ah_, aq_, az_]; rfl) ?_ ?_)
    ·(first | trivial | (simp; done) | (simp only [T3_] at h37; exact ⟨by omega, hI.2, by omega⟩))
    refine .block (.loopK (fun n : Nat => ⟨[.no, .no, .no, .sl false (pgR l), .sl false (inR (dy_ l)), .sl false (pgR (stk l n)), .i .i64 n, .no, .no, .no, .no, .no, .no, .no, .no, .no, .no, .no, .no, .no, .no, .no, .no, .no, .no, .no, .no, .no, .no, .no, .no, .no, .no, .no, .no, .no, .no, .no, .no, .no, .no, .no, .no, .no, .no, .no, .no, .no, .no, .no, .no, .no, .no, .no, .no, .no, .no, .no, .no, .no, .no, .no, .no, .no, .no, .no, .no, .no, .no, .no], be_ [], us []⟩) (fun n : Nat => n ≤ (dy_ l).length ∧ ct_ l = true) (fun n : Nat => (dy_ l).length - n) (0) ?_ ?_ (fun n hI => ?_))
    ·exact ⟨Nat.zero_le _, by simpa using h26⟩
    ·exact Can.weak (Weak.lit (by simp only [go_sem, seval, ad_, ae_, ac_, ah_, aq_, az_, as_, leV, ap_, ar_, V.inn, us, T9_, Ta_] <;> (rw [ahe_]; exact a9_ _)) (by simp only [go_sem, seval, ad_, ae_, ac_, ah_, aq_, az_, as_, leV, ap_, ar_, V.inn, us, T9_, Ta_]) (by simp only [go_sem, seval, ad_, ae_, ac_, ah_, aq_, az_, as_, leV, ap_, ar_, V.inn, us, T9_, Ta_]))
    refine .seq (.seq (.rgn [] (by simp only [go_sem, seval, ad_, ae_, ac_, ah_, aq_, az_]; rfl) ?_ ?_))
    ·(first | trivial | (simp; done) | (simp only [T3_] at h37; exact ⟨by omega, hI.2, by omega⟩))
    refine .condB (by simp only [go_sem, seval, ad_, ae_, ac_, ah_, aq_, az_]; rfl) (by simp only [go_sem, seval, ad_, ae_, ac_, ah_, aq_, az_]) (fun h37 => ?_) (fun h37 => ?_)
    ·refine .skip (.seq (.block (.seq (.rgn [cl_ (ct_ l = true ∧ n < (dy_ l).length) (fun h => xv_ (stk l n) ((dy_ l).getD n 0) [] (sB n) (by rw [sl]; omega) (hR n h).1 (hR n h).2 (by simp))] (by simp only [go_sem, seval, ad_, ae_, ac_, ah_, aq_, az_, en_ (show n < (dy_ l).length by simpa using h37)]; rfl) ?_ ?_))))
     ·(first | trivial | (simp; done) | (simp only [T3_] at h37; exact ⟨by omega, hI.2, by omega⟩))
     refine .seq (.seq (.rgn [] (by simp only [go_sem, seval, ad_, ae_, ac_, ah_, aq_, az_]; rfl) ?_ ?_))
     ·(first | trivial | (simp; done) | (simp only [T3_] at h37; exact ⟨by omega, hI.2, by omega⟩))
     refine .condB (by simp only [go_sem, seval, ad_, ae_, ac_, ah_, aq_, az_]; rfl) (by simp only [go_sem, seval, ad_, ae_, ac_, ah_, aq_, az_]) (fun h50 => ?_) (fun h50 => ?_)
     ·simp only [T3_] at h37; have q := (e4 n hI.2 (by rw [← hbad hI.2]; omega)).1; rw [← hbad hI.2] at q; rw [q] at h50; cases h50
     ·refine .skip (.rgn [] (by simp only [go_sem, seval, ad_, ae_, ac_, ah_, aq_, az_]; rfl) ?_ ?_)
      ·(first | trivial | (simp; done) | (simp only [T3_] at h37; exact ⟨by omega, hI.2, by omega⟩))
      refine .rgn [] (by simp only [go_sem, seval, ad_, ae_, ac_, ah_, aq_, az_]; rfl) ?_ ?_
      ·(first | trivial | (simp; done) | (simp only [T3_] at h37; exact ⟨by omega, hI.2, by omega⟩))
      refine Exists.intro (n + 1) ⟨?_, ?_, ?_⟩
      ·simp at h37; exact ⟨by omega, hI.2⟩
      ·simp at h37; omega
      exact Can.weak (Weak.lit (by simp only [go_sem, seval, ad_, ae_, ac_, ah_, aq_, az_, as_, leV, ap_, ar_, V.inn, us, T9_, Ta_] <;> (simp only [T3_] at h37; have q := (e4 n hI.2 (by rw [← hbad hI.2]; omega)).2; rw [← hbad hI.2] at q; exact ⟨by rw [q]; exact a9_ _, bd_ (n := ((n + 1 : Nat) : Int)) (by omega) (by omega)⟩)) (by simp only [go_sem, seval, ad_, ae_, ac_, ah_, aq_, az_, as_, leV, ap_, ar_, V.inn, us, T9_, Ta_]) (by simp only [go_sem, seval, ad_, ae_, ac_, ah_, aq_, az_, as_, leV, ap_, ar_, V.inn, us, T9_, Ta_]))
    ·refine .exit ?_
     refine Exists.intro (()) ⟨?_, ?_⟩
     ·exact hI.2
     exact Can.weak (Weak.lit (by simp only [go_sem, seval, ad_, ae_, ac_, ah_, aq_, az_, as_, leV, ap_, ar_, V.inn, us, T9_, Ta_] <;> (simp only [T4_] at h37; (obtain rfl : n = (dy_ l).length := (by omega)); simp [leV, a9_])) (by simp only [go_sem, seval, ad_, ae_, ac_, ah_, aq_, az_, as_, leV, ap_, ar_, V.inn, us, T9_, Ta_]) (by simp only [go_sem, seval, ad_, ae_, ac_, ah_, aq_, az_, as_, leV, ap_, ar_, V.inn, us, T9_, Ta_]))
   refine .seq (.rgn [a4_ (hv_ (stk l (dy_ l).length) (sB _) (by rw [sl]; omega)), a4_ (hv_ l hB (by omega)), a4_ (hq_ (stk l (dy_ l).length) (sB _) (by rw [sl]; omega)), a4_ (hq_ l hB (by omega)), a4_ (xp_ (cq_ (stk l (dy_ l).length)) (cq_ l) (by have := g1 (dy_ l).length; omega) (by omega)), a4_ (pg_ (stk l (dy_ l).length) (sB _) (by rw [sl]; omega))] (by simp only [go_sem, seval, ad_, ae_, ac_, ah_, aq_, az_]; rfl) ?_ ?_)
   ·(first | trivial | (simp; done) | (simp only [T3_] at h37; exact ⟨by omega, hI.2, by omega⟩))
   refine .ret ⟨.inr rfl, ?_⟩
   exact Out.plain (by simp only [Tryz.results7]; rfl) (by simp only [ay_, a6_, go_sem, seval, ad_, ae_, ac_, ah_, aq_, az_] <;> (split <;> rfl)) (by simp only [a5_, go_sem, seval, ad_, ae_, ac_, ah_, aq_, az_] <;> (rw [hbad hJ, e1 hJ, e2 hJ, e3 hJ]; simp)) (by simp only [go_sem, seval, ad_, ae_, ac_, ah_, aq_, az_])
end Go.Proofs.YtpikbndepapbhaaGreatDoor
