/- Books: what the program's tell. Conditions: none. -/
import Derived.Test.YtpikbndepapbhaaGreatDoorK12
import Derived.Test.YtpikbndepapbhaaGreatDoorK1
import Derived.Test.YtpikbndepapbhaaGreatDoorK4
set_option linter.unusedVariables false
set_option linter.unusedSimpArgs false
namespace Go.Proofs.YtpikbndepapbhaaGreatDoor
section
set_option maxRecDepth 100000
set_option maxHeartbeats 4000000
theorem q6_ {l : List Pg} {f : Pg → Str} (h : ct_ l = true) (hf : ∀ p, okP p = true → (f p).length ≤ 120) : (c2_ (l.map f)).length ≤ 3000 ∧ (l.map f).length ≤ 16 := by
 have h1 := (dg_ h).2.1
 have := aa3_ (l := l.map f) (k := 120) fun s hs => by
  obtain ⟨p, hp, rfl⟩ := List.mem_map.1 hs
  exact hf p (lj_ h p hp)
 rw [List.length_map] at this
 have := Nat.mul_le_mul_right 121 h1
 exact ⟨by omega, by rw [List.length_map]; exact h1⟩
theorem agl_ (F : Nat) (f : Pg → Str) (hF : ∀ p : Pg, ACall En F [.ag (pgC p)] [] [.s (f p)] []) (hf : ∀ p, okP p = true → (f p).length ≤ 120) (l : List Pg) (hs : ∀ p ∈ l, pgB p) (hl : l.length ≤ 1000000) : ACall En 49 [.sl false (pgR l), .fn (.func F) [] []] [] [.s (if ct_ l then c2_ (l.map f) else [])] [] := by
 have hp : ∀ k, b6_ (fk_ (bp_ (l.map f)) [.s []] k) = true := fun k => h5_ (aa_ _) rfl
 have hll : (bp_ (l.map f)).length = l.length := by simp [bp_]
 have hf1 : ∀ k, k < l.length → (l.map f).getD k [] = f (l.getD k Pg0) := fun k h => by simp [T8_, T6_ h]
 refine al_ (fn := Tryz.f49) [] Tryz.func49 rfl rfl (by simp) fun C => ?_
 rw [aw_]
 simp only [Tryz.ntmps49, T7_, List.length_nil, Nat.reduceAdd, Nat.reduceSub, List.replicate_succ, List.replicate_zero, List.cons_append, List.nil_append, bo_]
 refine .seq (.rgn [] (by simp only [go_sem, seval, ae_, ad_, aj_, aa_, ac_, hp, hll, a0_, a2_]; rfl) ?_ ?_)
 ·(first | trivial | (simp; done) | (simp only [T3_] at h17; and_intros <;> omega) | (and_intros <;> omega))
 refine .seq (.seq (.rgn [a4_ (j7_ l hs hl)] (by simp only [go_sem, seval, ae_, ad_, aj_, aa_, ac_, hp, hll, a0_, a2_]; rfl) ?_ ?_))
 ·(first | trivial | (simp; done) | (simp only [T3_] at h17; and_intros <;> omega) | (and_intros <;> omega))
 refine .condB (by simp only [go_sem, seval, ae_, ad_, aj_, aa_, ac_, hp, hll, a0_, a2_]; rfl) (by simp only [go_sem, seval, ae_, ad_, aj_, aa_, ac_, hp, hll, a0_, a2_]) (fun h10 => ?_) (fun h10 => ?_)
 ·refine .seq (.rgn [] (by simp only [go_sem, seval, ae_, ad_, aj_, aa_, ac_, hp, hll, a0_, a2_]; rfl) ?_ ?_)
  ·(first | trivial | (simp; done) | (simp only [T3_] at h17; and_intros <;> omega) | (and_intros <;> omega))
  refine .ret ⟨.inr rfl, ?_⟩
  exact Out.plain (by simp only [Tryz.results49]; rfl) (by simp only [ay_, a6_, go_sem, seval, ae_, ad_, aj_, aa_, ac_, hp, hll, a0_, a2_] <;> (split <;> rfl)) (by simp only [a5_, go_sem, seval, ae_, ad_, aj_, aa_, ac_, hp, hll, a0_, a2_] <;> (simp at h10; simp [h10])) (by simp only [go_sem, seval, ae_, ad_, aj_, aa_, ac_, hp, hll, a0_, a2_])
 ·refine .skip (.seq (.rgn [] (by simp only [go_sem, seval, ae_, ad_, aj_, aa_, ac_, hp, hll, a0_, a2_]; rfl) ?_ ?_))
  ·(first | trivial | (simp; done) | (simp only [T3_] at h17; and_intros <;> omega) | (and_intros <;> omega))
  refine .seq (.seq (.rgn [] (by simp only [go_sem, seval, ae_, ad_, aj_, aa_, ac_, hp, hll, a0_, a2_]; rfl) ?_ ?_))
  ·(first | trivial | (simp; done) | (simp only [T3_] at h17; and_intros <;> omega) | (and_intros <;> omega))
  refine .block (.loopK (fun k : Nat => ⟨[.no, .fn (.func F) [] [], .no, .no, .no, .ow 23 1 0 l.length, .no, .no, .no, .no, .no, .no, .no, .no, .sl false (pgR l), .i .i64 l.length, .i .i64 k, .no, .no, .no, .no, .no, .no, .no, .no, .no, .no, .no, .no, .no], be_ [(23, ⟨9, 1, fk_ (bp_ (l.map f)) [.s []] k⟩)], us [23]⟩) (fun k : Nat => k ≤ l.length ∧ ct_ l = true) (fun k : Nat => l.length - k) (0) ?_ ?_ (fun k hI => ?_))
  ·exact ⟨by simp, by simpa using h10⟩
  ·exact Can.weak (Weak.lit (by simp only [go_sem, seval, ae_, ad_, aj_, aa_, ac_, hp, hll, a0_, a2_, as_, leV, ap_, ar_, V.inn, us, T9_, Ta_] <;> (simp)) (by simp only [go_sem, seval, ae_, ad_, aj_, aa_, ac_, hp, hll, a0_, a2_, as_, leV, ap_, ar_, V.inn, us, T9_, Ta_]) (by simp only [go_sem, seval, ae_, ad_, aj_, aa_, ac_, hp, hll, a0_, a2_, as_, leV, ap_, ar_, V.inn, us, T9_, Ta_] <;> (simp [iq_, hll])))
  refine .seq (.rgn [] (by simp only [go_sem, seval, ae_, ad_, aj_, aa_, ac_, hp, hll, a0_, a2_]; rfl) ?_ ?_)
  ·(first | trivial | (simp; done) | (simp only [T3_] at h17; and_intros <;> omega) | (and_intros <;> omega))
  refine .seq (.condB (by simp only [go_sem, seval, ae_, ad_, aj_, aa_, ac_, hp, hll, a0_, a2_]; rfl) (by simp only [go_sem, seval, ae_, ad_, aj_, aa_, ac_, hp, hll, a0_, a2_]) (fun h17 => ?_) (fun h17 => ?_))
  ·refine .skip (.seq (.block (.seq (.rgn [] (by simp only [go_sem, seval, ae_, ad_, aj_, aa_, ac_, hp, hll, a0_, a2_, de_ (show k < l.length by simpa using h17)]; rfl) ?_ ?_))))
   ·(first | trivial | (simp; done) | (simp only [T3_] at h17; and_intros <;> omega) | (and_intros <;> omega))
   refine .rgn [cl_ (k < l.length) (fun h => hF (l.getD k Pg0))] (by simp only [go_sem, seval, ae_, ad_, aj_, aa_, ac_, hp, hll, a0_, a2_]; rfl) ?_ ?_
   ·(first | trivial | (simp; done) | (simp only [T3_] at h17; and_intros <;> omega) | (and_intros <;> omega))
   refine .rgn [] (by simp only [go_sem, seval, ae_, ad_, aj_, aa_, ac_, hp, hll, a0_, a2_]; rfl) ?_ ?_
   ·(first | trivial | (simp; done) | (simp only [T3_] at h17; and_intros <;> omega) | (and_intros <;> omega))
   refine Exists.intro (k + 1) ⟨?_, ?_, ?_⟩
   ·simp at h17; exact ⟨by omega, hI.2⟩
   ·simp at h17; omega
   exact Can.weak (Weak.lit (by simp only [go_sem, seval, ae_, ad_, aj_, aa_, ac_, hp, hll, a0_, a2_, as_, leV, ap_, ar_, V.inn, us, T9_, Ta_] <;> (rw [bd_ (by simp at h17; omega) (by simp at h17; omega)]; simp)) (by simp only [go_sem, seval, ae_, ad_, aj_, aa_, ac_, hp, hll, a0_, a2_, as_, leV, ap_, ar_, V.inn, us, T9_, Ta_]) (by simp only [go_sem, seval, ae_, ad_, aj_, aa_, ac_, hp, hll, a0_, a2_, as_, leV, ap_, ar_, V.inn, us, T9_, Ta_] <;> ((simp only [T3_] at h17); rw [← id_ (by rw [hll]; omega), cd_ (by rw [List.length_map]; omega), hf1 _ (by omega)])))
  ·refine .exit (.seq (.rgn [xr_ (ct_ l = true) (fun h => vo_ (l.map f) (by have := (q6_ h hf).1; omega) (by have := (q6_ h hf).2; omega))] (by simp only [go_sem, seval, ae_, ad_, aj_, aa_, ac_, hp, hll, a0_, a2_]; rfl) ?_ ?_))
   ·simp only [T4_] at h17; refine ⟨?_, hI.2⟩; rw [jw_ (by rw [hll]; omega), T1_ (by rw [hll]; exact Nat.le_refl _)]; exact a9_ _
   refine .ret ⟨.inr rfl, ?_⟩
   exact Out.plain (by simp only [Tryz.results49]; rfl) (by simp only [ay_, a6_, go_sem, seval, ae_, ad_, aj_, aa_, ac_, hp, hll, a0_, a2_] <;> (split <;> rfl)) (by simp only [a5_, go_sem, seval, ae_, ad_, aj_, aa_, ac_, hp, hll, a0_, a2_] <;> (simp [hI.2])) (by simp only [go_sem, seval, ae_, ad_, aj_, aa_, ac_, hp, hll, a0_, a2_])
theorem v8_ (p : Pg) : ACall En 56 [.ag (pgC p)] [] [.s p.text] [] := by
 refine al_ (fn := Tryz.f56) [] Tryz.func56 rfl rfl (by simp) fun C => ?_
 rw [aw_]
 simp only [Tryz.ntmps56, T7_, List.length_nil, Nat.reduceAdd, Nat.reduceSub, List.replicate_succ, List.replicate_zero, List.cons_append, List.nil_append, bo_]
 refine .seq (.rgn [] (by simp only [go_sem, seval, aj_, ac_]; rfl) ?_ ?_)
 ·first | trivial | simp
 refine .seq (.rgn [] (by simp only [go_sem, seval, aj_, ac_]; rfl) ?_ ?_)
 ·first | trivial | simp
 refine .ret ⟨.inr rfl, ?_⟩
 exact Out.plain (by simp only [Tryz.results56]; rfl) (by simp only [ay_, a6_, go_sem, seval, aj_, ac_] <;> (split <;> rfl)) (by simp only [a5_, go_sem, seval, aj_, ac_] <;> (simp_all)) (by simp only [go_sem, seval, aj_, ac_])
theorem hv_ (l : List Pg) (hs : ∀ p ∈ l, pgB p) (hl : l.length ≤ 1000000) : ACall En 20 [.sl false (pgR l)] [] [.s (iv_ l)] [] := by
 refine al_ (fn := Tryz.f20) [] Tryz.func20 rfl rfl (by simp) fun C => ?_
 rw [aw_]
 simp only [Tryz.ntmps20, T7_, List.length_nil, Nat.reduceAdd, Nat.reduceSub, List.replicate_succ, List.replicate_zero, List.cons_append, List.nil_append, bo_]
 refine .seq (.rgn [] (by simp only [go_sem, seval, ad_]; rfl) ?_ ?_)
 ·first | trivial | simp
 refine .seq (.rgn [a4_ (agl_ _ (·.text) v8_ (fun p hp => by rw [(j5_ hp).1]; exact (lu_ _).2) l hs hl)] (by simp only [go_sem, seval, ad_]; rfl) ?_ ?_)
 ·first | trivial | simp
 refine .ret ⟨.inr rfl, ?_⟩
 exact Out.plain (by simp only [Tryz.results20]; rfl) (by simp only [ay_, a6_, go_sem, seval, ad_] <;> (split <;> rfl)) (by simp only [a5_, go_sem, seval, ad_] <;> (rfl)) (by simp only [go_sem, seval, ad_])
theorem lt_ {l : List Pg} {k : Nat} (h : (l.getD k Pg0).good = false) : dd_ l (k + 1) = dd_ l k ++ [(k : Int)] := by rw [dd_, h]; rfl
theorem pg_ (l : List Pg) (hs : ∀ p ∈ l, pgB p) (hl : l.length ≤ 1000000) : ACall En 17 [.sl false (pgR l)] [] [.sl false (inR (dy_ l))] [] := by
 have hB := fun k => lg_ l k
 refine al_ (fn := Tryz.f17) [] Tryz.func17 rfl rfl (by simp) fun C => ?_
 rw [aw_]
 simp only [Tryz.ntmps17, T7_, List.length_nil, Nat.reduceAdd, Nat.reduceSub, List.replicate_succ, List.replicate_zero, List.cons_append, List.nil_append, bo_]
 refine .seq (.rgn [] (by simp only [go_sem, seval, ae_, ad_, aj_, ac_, ah_, ag_, ak_]; rfl) ?_ ?_)
 ·(first | trivial | (simp; done) | (simp only [T3_] at h12; and_intros <;> omega) | (have := hB k; simp [ah_]; omega))
 refine .seq (.seq (.rgn [a4_ (j7_ l hs hl)] (by simp only [go_sem, seval, ae_, ad_, aj_, ac_, ah_, ag_, ak_]; rfl) ?_ ?_))
 ·(first | trivial | (simp; done) | (simp only [T3_] at h12; and_intros <;> omega) | (have := hB k; simp [ah_]; omega))
 refine .condB (by simp only [go_sem, seval, ae_, ad_, aj_, ac_, ah_, ag_, ak_]; rfl) (by simp only [go_sem, seval, ae_, ad_, aj_, ac_, ah_, ag_, ak_]) (fun h8 => ?_) (fun h8 => ?_)
 ·refine .seq (.rgn [] (by simp only [go_sem, seval, ae_, ad_, aj_, ac_, ah_, ag_, ak_]; rfl) ?_ ?_)
  ·(first | trivial | (simp; done) | (simp only [T3_] at h12; and_intros <;> omega) | (have := hB k; simp [ah_]; omega))
  refine .ret ⟨.inr rfl, ?_⟩
  exact Out.plainL (by simp only [Tryz.results17]; rfl) (by simp only [ay_, a6_, go_sem, seval, ae_, ad_, aj_, ac_, ah_, ag_, ak_] <;> (split <;> rfl)) (by simp only [a5_, go_sem, seval, ae_, ad_, aj_, ac_, ah_, ag_, ak_] <;> (simp at h8; simp [dy_, h8, inR, les, ler, leV])) (by simp only [go_sem, seval, ae_, ad_, aj_, ac_, ah_, ag_, ak_])
 ·refine .skip (.seq (.rgn [] (by simp only [go_sem, seval, ae_, ad_, aj_, ac_, ah_, ag_, ak_]; rfl) ?_ ?_))
  ·(first | trivial | (simp; done) | (simp only [T3_] at h12; and_intros <;> omega) | (have := hB k; simp [ah_]; omega))
  refine .seq (.seq (.rgn [] (by simp only [go_sem, seval, ae_, ad_, aj_, ac_, ah_, ag_, ak_]; rfl) ?_ ?_))
  ·(first | trivial | (simp; done) | (simp only [T3_] at h12; and_intros <;> omega) | (have := hB k; simp [ah_]; omega))
  refine .block (.loopK (fun k : Nat => ⟨[.no, .no, .no, .ow 20 1 0 (dd_ l k).length, .no, .no, .no, .no, .no, .sl false (pgR l), .i .i64 l.length, .i .i64 k, .no, .no, .no, .no, .no, .no, .no, .no, .no, .no, .no, .no, .no, .no], be_ [(20, ⟨3, 1, inR (dd_ l k)⟩)], us [20]⟩) (fun k : Nat => k ≤ l.length ∧ ct_ l = true) (fun k : Nat => l.length - k) (0) ?_ ?_ (fun k hI => ?_))
  ·exact ⟨by simp, by simpa using h8⟩
  ·refine Can.trans (Can.ownSlot 3 20 3 1 (by simp only [go_sem, seval, ae_, ad_, aj_, ac_, ah_, ag_, ak_] <;> rfl) (by simp only [go_sem, seval, ae_, ad_, aj_, ac_, ah_, ag_, ak_]) (by simp only [go_sem, seval, ae_, ad_, aj_, ac_, ah_, ag_, ak_] <;> rfl)) ?_
   exact Can.weak (Weak.lit (by simp only [go_sem, seval, ae_, ad_, aj_, ac_, ah_, ag_, ak_, as_, leV, ap_, ar_, V.inn, us, T9_, Ta_] <;> (simp [dd_])) (by simp only [go_sem, seval, ae_, ad_, aj_, ac_, ah_, ag_, ak_, as_, leV, ap_, ar_, V.inn, us, T9_, Ta_]) (by simp only [go_sem, seval, ae_, ad_, aj_, ac_, ah_, ag_, ak_, as_, leV, ap_, ar_, V.inn, us, T9_, Ta_] <;> (simp [dd_, inR])))
  refine .seq (.rgn [] (by simp only [go_sem, seval, ae_, ad_, aj_, ac_, ah_, ag_, ak_]; rfl) ?_ ?_)
  ·(first | trivial | (simp; done) | (simp only [T3_] at h12; and_intros <;> omega) | (have := hB k; simp [ah_]; omega))
  refine .seq (.condB (by simp only [go_sem, seval, ae_, ad_, aj_, ac_, ah_, ag_, ak_]; rfl) (by simp only [go_sem, seval, ae_, ad_, aj_, ac_, ah_, ag_, ak_]) (fun h12 => ?_) (fun h12 => ?_))
  ·refine .skip (.seqJ (fun u : Unit => ⟨[.no, .no, .no, .ow 20 1 0 (dd_ l (k + 1)).length, .no, .no, .no, .no, .no, .sl false (pgR l), .i .i64 l.length, .i .i64 k, .no, .no, .no, .no, .no, .no, .no, .no, .no, .no, .no, .no, .no, .no], be_ [(20, ⟨3, 1, inR (dd_ l (k + 1))⟩)], us [20]⟩) (fun u : Unit => True) ?_ (fun u hJ => ?_))
   ·refine .block (.seq (.rgn [] (by simp only [go_sem, seval, ae_, ad_, aj_, ac_, ah_, ag_, ak_, de_ (show k < l.length by simpa using h12)]; rfl) ?_ ?_))
    ·(first | trivial | (simp; done) | (simp only [T3_] at h12; and_intros <;> omega) | (have := hB k; simp [ah_]; omega))
    refine .seq (.rgn [] (by simp only [go_sem, seval, ae_, ad_, aj_, ac_, ah_, ag_, ak_]; rfl) ?_ ?_)
    ·(first | trivial | (simp; done) | (simp only [T3_] at h12; and_intros <;> omega) | (have := hB k; simp [ah_]; omega))
    refine .condB (by simp only [go_sem, seval, ae_, ad_, aj_, ac_, ah_, ag_, ak_]; rfl) (by simp only [go_sem, seval, ae_, ad_, aj_, ac_, ah_, ag_, ak_]) (fun h18 => ?_) (fun h18 => ?_)
    ·refine .rgn [] (by simp only [go_sem, seval, ae_, ad_, aj_, ac_, ah_, ag_, ak_]; rfl) ?_ ?_
     ·(first | trivial | (simp; done) | (simp only [T3_] at h12; and_intros <;> omega) | (have := hB k; simp [ah_]; omega))
     refine Exists.intro (()) ⟨?_, ?_⟩
     ·trivial
     refine Can.trans (Can.swap 32 20 (by decide) (by decide) (by decide) (by decide) (by simp only [go_sem, seval, ae_, ad_, aj_, ac_, ah_, ag_, ak_, V.cl]) (by simp only [go_sem, seval, ae_, ad_, aj_, ac_, ah_, ag_, ak_, V.cl]) (by simp only [go_sem, seval, ae_, ad_, aj_, ac_, ah_, ag_, ak_, bj_, sw, swM, rnB] <;> rfl) (by simp only [go_sem, seval, ae_, ad_, aj_, ac_, ah_, ag_, ak_, bj_, sw, swM, rnB] <;> rfl) (by simp only [go_sem, seval, ae_, ad_, aj_, ac_, ah_, ag_, ak_, bj_, sw, swM, rnB] <;> rfl)) ?_
     exact Can.weak (Weak.lit (by simp only [go_sem, seval, ae_, ad_, aj_, ac_, ah_, ag_, ak_, as_, leV, ap_, ar_, V.inn, us, T9_, Ta_] <;> (first | (rw [lh_ (i := k) (n := 0) (by simpa using h18)]; done) | (rw [fm_ (i := k) (by simpa using h18)]; done))) (by simp only [go_sem, seval, ae_, ad_, aj_, ac_, ah_, ag_, ak_, as_, leV, ap_, ar_, V.inn, us, T9_, Ta_]) (by simp only [go_sem, seval, ae_, ad_, aj_, ac_, ah_, ag_, ak_, as_, leV, ap_, ar_, V.inn, us, T9_, Ta_] <;> (first | (rw [lt_ (k := k) (by simpa using h18), j9_]; done) | (rw [fm_ (i := k) (by simpa using h18)]; done))))
    ·refine .skip ?_
     refine Exists.intro (()) ⟨?_, ?_⟩
     ·trivial
     exact Can.weak (Weak.lit (by simp only [go_sem, seval, ae_, ad_, aj_, ac_, ah_, ag_, ak_, as_, leV, ap_, ar_, V.inn, us, T9_, Ta_] <;> (first | (rw [lh_ (i := k) (n := 0) (by simpa using h18)]; done) | (rw [fm_ (i := k) (by simpa using h18)]; done))) (by simp only [go_sem, seval, ae_, ad_, aj_, ac_, ah_, ag_, ak_, as_, leV, ap_, ar_, V.inn, us, T9_, Ta_]) (by simp only [go_sem, seval, ae_, ad_, aj_, ac_, ah_, ag_, ak_, as_, leV, ap_, ar_, V.inn, us, T9_, Ta_] <;> (first | (rw [lt_ (k := k) (by simpa using h18), j9_]; done) | (rw [fm_ (i := k) (by simpa using h18)]; done))))
   refine .rgn [] (by simp only [go_sem, seval, ae_, ad_, aj_, ac_, ah_, ag_, ak_]; rfl) ?_ ?_
   ·(first | trivial | (simp; done) | (simp only [T3_] at h12; and_intros <;> omega) | (have := hB k; simp [ah_]; omega))
   refine Exists.intro (k + 1) ⟨?_, ?_, ?_⟩
   ·simp at h12; exact ⟨by omega, hI.2⟩
   ·simp at h12; omega
   exact Can.weak (Weak.lit (by simp only [go_sem, seval, ae_, ad_, aj_, ac_, ah_, ag_, ak_, as_, leV, ap_, ar_, V.inn, us, T9_, Ta_] <;> (rw [bd_ (by simp at h12; omega) (by simp at h12; omega)]; simp)) (by simp only [go_sem, seval, ae_, ad_, aj_, ac_, ah_, ag_, ak_, as_, leV, ap_, ar_, V.inn, us, T9_, Ta_]) (by simp only [go_sem, seval, ae_, ad_, aj_, ac_, ah_, ag_, ak_, as_, leV, ap_, ar_, V.inn, us, T9_, Ta_]))
  ·refine .exit (.seq (.rgn [bs_ [20] [] (aac_ (dd_ l l.length) (by have := hB l.length; omega))] (by simp only [go_sem, seval, ae_, ad_, aj_, ac_, ah_, ag_, ak_]; rfl) ?_ ?_))
   ·simp only [T4_] at h12; (obtain rfl : k = l.length := (by omega)); simp
   refine .frz 20 (by simp only [go_sem, seval, ae_, ad_, aj_, ac_, ah_, ag_, ak_]; rfl) (by simp only [go_sem, seval, ae_, ad_, aj_, ac_, ah_, ag_, ak_]) (by simp only [go_sem, seval, ae_, ad_, aj_, ac_, ah_, ag_, ak_]; rfl) (by simp only [go_sem, seval, ae_, ad_, aj_, ac_, ah_, ag_, ak_]; rfl) ?_
   refine .ret ⟨.inr rfl, ?_⟩
   exact Out.plainL (by simp only [Tryz.results17]; rfl) (by simp only [ay_, a6_, go_sem, seval, ae_, ad_, aj_, ac_, ah_, ag_, ak_] <;> (split <;> rfl)) (by simp only [a5_, go_sem, seval, ae_, ad_, aj_, ac_, ah_, ag_, ak_] <;> (rw [T1_ (by rw [ah_]; exact Nat.le_refl _)]; simp [dy_, hI.2, les, leV, a9_])) (by simp only [go_sem, seval, ae_, ad_, aj_, ac_, ah_, ag_, ak_])
theorem hq_ (l : List Pg) (hs : ∀ p ∈ l, pgB p) (hl : l.length ≤ 1000000) : ACall En 23 [.sl false (pgR l)] [] [.sl false (sgR (cq_ l))] [] := by
 have hE : ∀ k, ct_ l = true ∧ k < l.length → ACall En 59 [.i .i64 k, .s (l.getD k Pg0).text, .sl false (inR (l.getD k Pg0).frm)] [] [.sl false (sgR (sgs k ((bv_ (l.getD k Pg0).text).getD []) (l.getD k Pg0).frm))] [] := fun k h => by
  obtain ⟨q1, q2, _⟩ := j5_ ((dg_ h.1).2.2 k h.2)
  have hk := ur_ (l.getD k Pg0).line
  rw [q1, q2]
  exact ahm_ k _ _ (by have := alm_ hk; omega) (by rw [ac5_ hk]; exact Nat.le_refl _) (by have := xq_ hk; omega)
 have hN : ∀ k, ct_ l = true → k ≤ l.length → (ez_ l k).length ≤ 2000 := fun k h hk => by
  rw [yc_ h k hk]
  have := ac8_ (ae1_ h) (k := k) (by rw [kz_]; exact hk)
  have := (dg_ h).2.1
  omega
 refine al_ (fn := Tryz.f23) [] Tryz.func23 rfl rfl (by simp) fun C => ?_
 rw [aw_]
 simp only [Tryz.ntmps23, T7_, List.length_nil, Nat.reduceAdd, Nat.reduceSub, List.replicate_succ, List.replicate_zero, List.cons_append, List.nil_append, bo_]
 refine .seq (.rgn [] (by simp only [go_sem, seval, ae_, ad_, aj_, ac_, aq_, az_]; rfl) ?_ ?_)
 ·(first | trivial | (simp; done) | (simp only [T3_] at h12; have hk : k < l.length := (by omega); have q1 := hN k hI.2 (by omega); have q2 := fh_ k ((bv_ (l.getD k Pg0).text).getD []) (l.getD k Pg0).frm; have q3 := (hs _ (bh_ (d := Pg0) hk)).2.2; first | (and_intros <;> omega) | exact ⟨⟨hI.2, hk⟩, of_eq_true (et_ _), by simp, by omega⟩))
 refine .seq (.seq (.rgn [a4_ (j7_ l hs hl)] (by simp only [go_sem, seval, ae_, ad_, aj_, ac_, aq_, az_]; rfl) ?_ ?_))
 ·(first | trivial | (simp; done) | (simp only [T3_] at h12; have hk : k < l.length := (by omega); have q1 := hN k hI.2 (by omega); have q2 := fh_ k ((bv_ (l.getD k Pg0).text).getD []) (l.getD k Pg0).frm; have q3 := (hs _ (bh_ (d := Pg0) hk)).2.2; first | (and_intros <;> omega) | exact ⟨⟨hI.2, hk⟩, of_eq_true (et_ _), by simp, by omega⟩))
 refine .condB (by simp only [go_sem, seval, ae_, ad_, aj_, ac_, aq_, az_]; rfl) (by simp only [go_sem, seval, ae_, ad_, aj_, ac_, aq_, az_]) (fun h8 => ?_) (fun h8 => ?_)
 ·refine .seq (.rgn [] (by simp only [go_sem, seval, ae_, ad_, aj_, ac_, aq_, az_]; rfl) ?_ ?_)
  ·(first | trivial | (simp; done) | (simp only [T3_] at h12; have hk : k < l.length := (by omega); have q1 := hN k hI.2 (by omega); have q2 := fh_ k ((bv_ (l.getD k Pg0).text).getD []) (l.getD k Pg0).frm; have q3 := (hs _ (bh_ (d := Pg0) hk)).2.2; first | (and_intros <;> omega) | exact ⟨⟨hI.2, hk⟩, of_eq_true (et_ _), by simp, by omega⟩))
  refine .ret ⟨.inr rfl, ?_⟩
  exact Out.plainL (by simp only [Tryz.results23]; rfl) (by simp only [ay_, a6_, go_sem, seval, ae_, ad_, aj_, ac_, aq_, az_] <;> (split <;> rfl)) (by simp only [a5_, go_sem, seval, ae_, ad_, aj_, ac_, aq_, az_] <;> (simp at h8; simp [cq_, h8, sgR, ler])) (by simp only [go_sem, seval, ae_, ad_, aj_, ac_, aq_, az_])
 ·refine .skip (.seq (.rgn [] (by simp only [go_sem, seval, ae_, ad_, aj_, ac_, aq_, az_]; rfl) ?_ ?_))
  ·(first | trivial | (simp; done) | (simp only [T3_] at h12; have hk : k < l.length := (by omega); have q1 := hN k hI.2 (by omega); have q2 := fh_ k ((bv_ (l.getD k Pg0).text).getD []) (l.getD k Pg0).frm; have q3 := (hs _ (bh_ (d := Pg0) hk)).2.2; first | (and_intros <;> omega) | exact ⟨⟨hI.2, hk⟩, of_eq_true (et_ _), by simp, by omega⟩))
  refine .seqJ (fun u : Unit => ⟨[.no, .no, .no, .sl false (sgR (ez_ l l.length)), .no, .no, .no, .no, .no, .no, .no, .no, .no, .no, .no, .no, .no, .no, .no, .no, .no, .no, .no, .no, .no, .no, .no, .no, .no], be_ [], us []⟩) (fun u : Unit => ct_ l = true) ?_ (fun u hJ => ?_)
  ·refine .seq (.rgn [] (by simp only [go_sem, seval, ae_, ad_, aj_, ac_, aq_, az_]; rfl) ?_ ?_)
   ·(first | trivial | (simp; done) | (simp only [T3_] at h12; have hk : k < l.length := (by omega); have q1 := hN k hI.2 (by omega); have q2 := fh_ k ((bv_ (l.getD k Pg0).text).getD []) (l.getD k Pg0).frm; have q3 := (hs _ (bh_ (d := Pg0) hk)).2.2; first | (and_intros <;> omega) | exact ⟨⟨hI.2, hk⟩, of_eq_true (et_ _), by simp, by omega⟩))
   refine .block (.loopK (fun k : Nat => ⟨[.no, .no, .no, .ow 20 4 0 (ez_ l k).length, .no, .no, .no, .no, .no, .sl false (pgR l), .i .i64 l.length, .i .i64 k, .no, .no, .no, .no, .no, .no, .no, .no, .no, .no, .no, .no, .no, .no, .no, .no, .no], be_ [(20, ⟨54, 4, sgR (ez_ l k)⟩)], us [20]⟩) (fun k : Nat => k ≤ l.length ∧ ct_ l = true) (fun k : Nat => l.length - k) (0) ?_ ?_ (fun k hI => ?_))
   ·exact ⟨by simp, by simpa using h8⟩
   ·refine Can.trans (Can.ownSlot 3 20 54 4 (by simp only [go_sem, seval, ae_, ad_, aj_, ac_, aq_, az_] <;> rfl) (by simp only [go_sem, seval, ae_, ad_, aj_, ac_, aq_, az_]) (by simp only [go_sem, seval, ae_, ad_, aj_, ac_, aq_, az_] <;> rfl)) ?_
    exact Can.weak (Weak.lit (by simp only [go_sem, seval, ae_, ad_, aj_, ac_, aq_, az_, as_, leV, ap_, ar_, V.inn, us, T9_, Ta_] <;> (simp [ez_])) (by simp only [go_sem, seval, ae_, ad_, aj_, ac_, aq_, az_, as_, leV, ap_, ar_, V.inn, us, T9_, Ta_]) (by simp only [go_sem, seval, ae_, ad_, aj_, ac_, aq_, az_, as_, leV, ap_, ar_, V.inn, us, T9_, Ta_] <;> (simp [ez_, sgR])))
   refine .seq (.rgn [] (by simp only [go_sem, seval, ae_, ad_, aj_, ac_, aq_, az_]; rfl) ?_ ?_)
   ·(first | trivial | (simp; done) | (simp only [T3_] at h12; have hk : k < l.length := (by omega); have q1 := hN k hI.2 (by omega); have q2 := fh_ k ((bv_ (l.getD k Pg0).text).getD []) (l.getD k Pg0).frm; have q3 := (hs _ (bh_ (d := Pg0) hk)).2.2; first | (and_intros <;> omega) | exact ⟨⟨hI.2, hk⟩, of_eq_true (et_ _), by simp, by omega⟩))
   refine .seq (.condB (by simp only [go_sem, seval, ae_, ad_, aj_, ac_, aq_, az_]; rfl) (by simp only [go_sem, seval, ae_, ad_, aj_, ac_, aq_, az_]) (fun h12 => ?_) (fun h12 => ?_))
   ·refine .skip (.seqJ (fun u : Unit => ⟨[.no, .no, .no, .ow 20 4 0 (ez_ l (k + 1)).length, .no, .no, .no, .no, .no, .sl false (pgR l), .i .i64 l.length, .i .i64 k, .no, .no, .no, .no, .no, .no, .no, .no, .no, .no, .no, .no, .no, .no, .no, .no, .no], be_ [(20, ⟨54, 4, sgR (ez_ l (k + 1))⟩)], us [20]⟩) (fun u : Unit => True) ?_ (fun u hJ => ?_))
    ·refine .block (.seq (.rgn [] (by simp only [go_sem, seval, ae_, ad_, aj_, ac_, aq_, az_, de_ (show k < l.length by simpa using h12)]; rfl) ?_ ?_))
     ·(first | trivial | (simp; done) | (simp only [T3_] at h12; have hk : k < l.length := (by omega); have q1 := hN k hI.2 (by omega); have q2 := fh_ k ((bv_ (l.getD k Pg0).text).getD []) (l.getD k Pg0).frm; have q3 := (hs _ (bh_ (d := Pg0) hk)).2.2; first | (and_intros <;> omega) | exact ⟨⟨hI.2, hk⟩, of_eq_true (et_ _), by simp, by omega⟩))
     refine .seq (.rgn [] (by simp only [go_sem, seval, ae_, ad_, aj_, ac_, aq_, az_]; rfl) ?_ ?_)
     ·(first | trivial | (simp; done) | (simp only [T3_] at h12; have hk : k < l.length := (by omega); have q1 := hN k hI.2 (by omega); have q2 := fh_ k ((bv_ (l.getD k Pg0).text).getD []) (l.getD k Pg0).frm; have q3 := (hs _ (bh_ (d := Pg0) hk)).2.2; first | (and_intros <;> omega) | exact ⟨⟨hI.2, hk⟩, of_eq_true (et_ _), by simp, by omega⟩))
     refine .condB (by simp only [go_sem, seval, ae_, ad_, aj_, ac_, aq_, az_]; rfl) (by simp only [go_sem, seval, ae_, ad_, aj_, ac_, aq_, az_]) (fun h17 => ?_) (fun h17 => ?_)
     ·refine .rgn [cl_ (ct_ l = true ∧ k < l.length) (hE k)] (by simp only [go_sem, seval, ae_, ad_, aj_, ac_, aq_, az_]; rfl) ?_ ?_
      ·(first | trivial | (simp; done) | (simp only [T3_] at h12; have hk : k < l.length := (by omega); have q1 := hN k hI.2 (by omega); have q2 := fh_ k ((bv_ (l.getD k Pg0).text).getD []) (l.getD k Pg0).frm; have q3 := (hs _ (bh_ (d := Pg0) hk)).2.2; first | (and_intros <;> omega) | exact ⟨⟨hI.2, hk⟩, of_eq_true (et_ _), by simp, by omega⟩))
      refine Exists.intro (()) ⟨?_, ?_⟩
      ·trivial
      refine Can.trans (Can.swap 35 20 (by decide) (by decide) (by decide) (by decide) (by simp only [go_sem, seval, ae_, ad_, aj_, ac_, aq_, az_, V.cl]) (by simp only [go_sem, seval, ae_, ad_, aj_, ac_, aq_, az_, V.cl]) (by simp only [go_sem, seval, ae_, ad_, aj_, ac_, aq_, az_, bj_, sw, swM, rnB] <;> rfl) (by simp only [go_sem, seval, ae_, ad_, aj_, ac_, aq_, az_, bj_, sw, swM, rnB] <;> rfl) (by simp only [go_sem, seval, ae_, ad_, aj_, ac_, aq_, az_, bj_, sw, swM, rnB] <;> rfl)) ?_
      exact Can.weak (Weak.lit (by simp only [go_sem, seval, ae_, ad_, aj_, ac_, aq_, az_, as_, leV, ap_, ar_, V.inn, us, T9_, Ta_] <;> (first | (rw [ez_, if_pos (by simpa using h17)]; simp; done) | (rw [ez_, if_neg (by simpa using h17)]; simp; done))) (by simp only [go_sem, seval, ae_, ad_, aj_, ac_, aq_, az_, as_, leV, ap_, ar_, V.inn, us, T9_, Ta_]) (by simp only [go_sem, seval, ae_, ad_, aj_, ac_, aq_, az_, as_, leV, ap_, ar_, V.inn, us, T9_, Ta_] <;> (first | (rw [ez_, if_pos (by simpa using h17)]; simp [z2_]; done) | (rw [ez_, if_neg (by simpa using h17)]; simp; done))))
     ·refine .skip ?_
      refine Exists.intro (()) ⟨?_, ?_⟩
      ·trivial
      exact Can.weak (Weak.lit (by simp only [go_sem, seval, ae_, ad_, aj_, ac_, aq_, az_, as_, leV, ap_, ar_, V.inn, us, T9_, Ta_] <;> (first | (rw [ez_, if_pos (by simpa using h17)]; simp; done) | (rw [ez_, if_neg (by simpa using h17)]; simp; done))) (by simp only [go_sem, seval, ae_, ad_, aj_, ac_, aq_, az_, as_, leV, ap_, ar_, V.inn, us, T9_, Ta_]) (by simp only [go_sem, seval, ae_, ad_, aj_, ac_, aq_, az_, as_, leV, ap_, ar_, V.inn, us, T9_, Ta_] <;> (first | (rw [ez_, if_pos (by simpa using h17)]; simp [z2_]; done) | (rw [ez_, if_neg (by simpa using h17)]; simp; done))))
    refine .rgn [] (by simp only [go_sem, seval, ae_, ad_, aj_, ac_, aq_, az_]; rfl) ?_ ?_
    ·(first | trivial | (simp; done) | (simp only [T3_] at h12; have hk : k < l.length := (by omega); have q1 := hN k hI.2 (by omega); have q2 := fh_ k ((bv_ (l.getD k Pg0).text).getD []) (l.getD k Pg0).frm; have q3 := (hs _ (bh_ (d := Pg0) hk)).2.2; first | (and_intros <;> omega) | exact ⟨⟨hI.2, hk⟩, of_eq_true (et_ _), by simp, by omega⟩))
    refine Exists.intro (k + 1) ⟨?_, ?_, ?_⟩
    ·simp at h12; exact ⟨by omega, hI.2⟩
    ·simp at h12; omega
    exact Can.weak (Weak.lit (by simp only [go_sem, seval, ae_, ad_, aj_, ac_, aq_, az_, as_, leV, ap_, ar_, V.inn, us, T9_, Ta_] <;> (rw [bd_ (by simp at h12; omega) (by simp at h12; omega)]; simp)) (by simp only [go_sem, seval, ae_, ad_, aj_, ac_, aq_, az_, as_, leV, ap_, ar_, V.inn, us, T9_, Ta_]) (by simp only [go_sem, seval, ae_, ad_, aj_, ac_, aq_, az_, as_, leV, ap_, ar_, V.inn, us, T9_, Ta_]))
   ·refine .exit ?_
    refine Exists.intro (()) ⟨?_, ?_⟩
    ·exact hI.2
    refine Can.trans (Can.frz 20 (by simp only [go_sem, seval, ae_, ad_, aj_, ac_, aq_, az_] <;> rfl) (by simp only [go_sem, seval, ae_, ad_, aj_, ac_, aq_, az_]) (by simp only [go_sem, seval, ae_, ad_, aj_, ac_, aq_, az_] <;> rfl) (by simp only [go_sem, seval, ae_, ad_, aj_, ac_, aq_, az_] <;> rfl)) ?_
    exact Can.weak (Weak.lit (by simp only [go_sem, seval, ae_, ad_, aj_, ac_, aq_, az_, as_, leV, ap_, ar_, V.inn, us, T9_, Ta_] <;> (simp at h12; (obtain rfl : k = l.length := (by omega)); simp [T1_, az_, leV, a9_])) (by simp only [go_sem, seval, ae_, ad_, aj_, ac_, aq_, az_, as_, leV, ap_, ar_, V.inn, us, T9_, Ta_]) (by simp only [go_sem, seval, ae_, ad_, aj_, ac_, aq_, az_, as_, leV, ap_, ar_, V.inn, us, T9_, Ta_]))
  refine .seq (.rgn [cl_ (ct_ l = true) (fun h => ack_ (ez_ l l.length) (by have := hN _ h (Nat.le_refl _); omega))] (by simp only [go_sem, seval, ae_, ad_, aj_, ac_, aq_, az_]; rfl) ?_ ?_)
  ·(first | trivial | (simp; done) | (simp only [T3_] at h12; have hk : k < l.length := (by omega); have q1 := hN k hI.2 (by omega); have q2 := fh_ k ((bv_ (l.getD k Pg0).text).getD []) (l.getD k Pg0).frm; have q3 := (hs _ (bh_ (d := Pg0) hk)).2.2; first | (and_intros <;> omega) | exact ⟨⟨hI.2, hk⟩, of_eq_true (et_ _), by simp, by omega⟩))
  refine .ret ⟨.inr rfl, ?_⟩
  exact Out.plainL (by simp only [Tryz.results23]; rfl) (by simp only [ay_, a6_, go_sem, seval, ae_, ad_, aj_, ac_, aq_, az_] <;> (split <;> rfl)) (by simp only [a5_, go_sem, seval, ae_, ad_, aj_, ac_, aq_, az_] <;> (simp [cq_, hJ, a9_, leV])) (by simp only [go_sem, seval, ae_, ad_, aj_, ac_, aq_, az_])
end
section
set_option maxRecDepth 100000
set_option maxHeartbeats 4000000
theorem acp_ (p q : Pg) (hp : pgB p) (hq : pgB q) : ACall En 69 [.ag (pgC p), .ag (pgC q)] [] [.b (decide (p = q))] [] := by
 have h1 := hp.2.2
 have h2 := hq.2.2
 refine al_ (fn := Tryz.f69) [] Tryz.func69 rfl rfl (by simp) fun C => ?_
 rw [aw_]
 simp only [Tryz.ntmps69, T7_, List.length_nil, Nat.reduceAdd, Nat.reduceSub, List.replicate_succ, List.replicate_zero, List.cons_append, List.nil_append, bo_]
 refine .seq (.rgn [] (by simp only [go_sem, seval, aj_, ac_, ah_]; rfl) ?_ ?_)
 ·first | trivial | simp
 refine .seq (.seq (.rgn [] (by simp only [go_sem, seval, aj_, ac_, ah_]; rfl) ?_ ?_))
 ·first | trivial | simp
 refine .condB (by simp only [go_sem, seval, aj_, ac_, ah_]; rfl) (by simp only [go_sem, seval, aj_, ac_, ah_]) (fun h33 => ?_) (fun h33 => ?_)
 ·refine .seq (.rgn [] (by simp only [go_sem, seval, aj_, ac_, ah_]; rfl) ?_ ?_)
  ·first | trivial | simp
  refine .ret ⟨.inr rfl, ?_⟩
  exact Out.plain (by simp only [Tryz.results69]; rfl) (by simp only [ay_, a6_, go_sem, seval, aj_, ac_, ah_] <;> (split <;> rfl)) (by simp only [a5_, go_sem, seval, aj_, ac_, ah_] <;> (rw [decide_eq_false]; rintro rfl; simp at h33)) (by simp only [go_sem, seval, aj_, ac_, ah_])
 ·refine .skip (.seq (.seq (.rgn [] (by simp only [go_sem, seval, aj_, ac_, ah_]; rfl) ?_ ?_)))
  ·first | trivial | simp
  refine .block (.loopK (fun k : Nat => ⟨[.no, .no, .pt 12 4 0 0, .pt 13 4 0 0, .no, .i .i64 k, .no, .no, .no, .no, .no, .no, .no, .no, .no, .no, .no, .no, .no, .no, .no, .no, .no, .no, .no, .no, .no, .no, .no, .no, .no, .no, .no, .no, .no, .no, .no, .no, .no, .no, .no, .no, .no, .no, .no, .no, .no, .no, .no, .no, .no, .no], be_ [(12, ⟨47, 4, [pgC p]⟩), (13, ⟨47, 4, [pgC q]⟩)], us [12, 13]⟩) (fun k : Nat => k ≤ p.frm.length ∧ p.frm.take k = q.frm.take k) (fun k : Nat => p.frm.length - k) (0) ?_ ?_ (fun k hI => ?_))
  ·exact ⟨Nat.zero_le _, rfl⟩
  ·exact Can.weak (Weak.lit (by simp only [go_sem, seval, aj_, ac_, ah_, as_, leV, ap_, ar_, V.inn, us, T9_, Ta_] <;> ((try simp))) (by simp only [go_sem, seval, aj_, ac_, ah_, as_, leV, ap_, ar_, V.inn, us, T9_, Ta_]) (by simp only [go_sem, seval, aj_, ac_, ah_, as_, leV, ap_, ar_, V.inn, us, T9_, Ta_]))
  refine .seq (.seq (.rgn [] (by simp only [go_sem, seval, aj_, ac_, ah_]; rfl) ?_ ?_))
  ·first | trivial | simp
  refine .condB (by simp only [go_sem, seval, aj_, ac_, ah_]; rfl) (by simp only [go_sem, seval, aj_, ac_, ah_]) (fun h38 => ?_) (fun h38 => ?_)
  ·refine .skip (.seq (.block (.seq (.rgnD [] enM (by simp only [go_sem, seval, aj_, ac_, ah_, en_ (show k < p.frm.length by simpa using h38), en_ (show k < q.frm.length by have e := (c4_ h33).2.2.2; simp only [T3_] at h38; omega)]; rfl) (by rfl) ?_ ?_))))
   ·have e := (c4_ h33).2.2.2; simp only [T3_] at h38; and_intros <;> omega
   refine .condB (by simp only [go_sem, seval, aj_, ac_, ah_]; rfl) (by simp only [go_sem, seval, aj_, ac_, ah_]) (fun h51 => ?_) (fun h51 => ?_)
   ·refine .seq (.rgn [] (by simp only [go_sem, seval, aj_, ac_, ah_]; rfl) ?_ ?_)
    ·first | trivial | simp
    refine .ret ⟨.inr rfl, ?_⟩
    exact Out.plain (by simp only [Tryz.results69]; rfl) (by simp only [ay_, a6_, go_sem, seval, aj_, ac_, ah_] <;> (split <;> rfl)) (by simp only [a5_, go_sem, seval, aj_, ac_, ah_] <;> (rw [decide_eq_false]; rintro rfl; simp at h51)) (by simp only [go_sem, seval, aj_, ac_, ah_])
   ·refine .skip (.rgn [] (by simp only [go_sem, seval, aj_, ac_, ah_]; rfl) ?_ ?_)
    ·first | trivial | simp
    refine Exists.intro (k + 1) ⟨?_, ?_, ?_⟩
    ·have e := (c4_ h33).2.2.2; simp only [T3_] at h38; exact ⟨by omega, l7_ (d := 0) (by omega) (by omega) hI.2 (bne_eq_false_iff_eq.1 h51)⟩
    ·simp only [T3_] at h38; omega
    exact Can.weak (Weak.lit (by simp only [go_sem, seval, aj_, ac_, ah_, as_, leV, ap_, ar_, V.inn, us, T9_, Ta_] <;> (simp only [T3_] at h38; exact bd_ (n := ((k + 1 : Nat) : Int)) (by omega) (by omega))) (by simp only [go_sem, seval, aj_, ac_, ah_, as_, leV, ap_, ar_, V.inn, us, T9_, Ta_]) (by simp only [go_sem, seval, aj_, ac_, ah_, as_, leV, ap_, ar_, V.inn, us, T9_, Ta_]))
  ·refine .exit (.seq (.rgn [] (by simp only [go_sem, seval, aj_, ac_, ah_]; rfl) ?_ ?_))
   ·first | trivial | simp
   refine .ret ⟨.inr rfl, ?_⟩
   exact Out.plain (by simp only [Tryz.results69]; rfl) (by simp only [ay_, a6_, go_sem, seval, aj_, ac_, ah_] <;> (split <;> rfl)) (by simp only [a5_, go_sem, seval, aj_, ac_, ah_] <;> (simp only [T4_] at h38; have e := c4_ h33; have e2 := hI.2; rw [T1_ (by omega), T1_ (by omega)] at e2; rw [decide_eq_true (wg_.2 ⟨⟨⟨e.1, e.2.1⟩, e.2.2.1⟩, e2⟩)])) (by simp only [go_sem, seval, aj_, ac_, ah_])
theorem aik_ {l : List Pg} {k : Nat} (h : k < l.length) : (l.take (k + 1)).all okP = ((l.take k).all okP && okP (l.getD k Pg0)) := by
 rw [List.take_add_one, T6_ h, List.all_append, T8_, T6_ h]; simp
theorem aed_ {l : List Pg} {k : Nat} (hk : k < l.length) (h : okP (l.getD k Pg0) = false) : ct_ l = false := by
 rw [Bool.eq_false_iff]; intro q
 rw [(dg_ q).2.2 k hk] at h; cases h
theorem aj0_ {p : Pg} (h : (!tOk p.line || decide (((spl p.line).length : Int) > 1) || !decide (p = ec_ p.line)) = false) : okP p = true := by
 rw [uv_, ← Bool.not_and, Bool.not_eq_false'] at h; exact h
theorem ai4_ {p : Pg} (h : (!tOk p.line || decide (((spl p.line).length : Int) > 1) || !decide (p = ec_ p.line)) = true) : okP p = false := by
 rw [uv_, ← Bool.not_and, Bool.not_eq_true'] at h; exact h
theorem bkTk {ls : List Str} {k : Nat} (h : k < ls.length) : pgR ((ls.take (k + 1)).map ec_) = pgR ((ls.take k).map ec_) ++ [pgC (ec_ (ls.getD k []))] := by
 rw [List.take_add_one, T6_ h, T8_, T6_ h, List.map_append]; unfold pgR; rw [List.map_append]; rfl
theorem jz_ (l : List Pg) (hs : ∀ p ∈ l, pgB p) (hl : l.length ≤ 1000000) : ACall En 34 [.sl false (pgR l)] [] [.b (ct_ l)] [] := by
 have hB : ∀ k, k < l.length → pgB (l.getD k Pg0) := fun k h => hs _ (bh_ h)
 refine al_ (fn := Tryz.f34) [] Tryz.func34 rfl rfl (by simp) fun C => ?_
 rw [aw_]
 simp only [Tryz.ntmps34, T7_, List.length_nil, Nat.reduceAdd, Nat.reduceSub, List.replicate_succ, List.replicate_zero, List.cons_append, List.nil_append, bo_]
 refine .seq (.rgn [] (by simp only [go_sem, seval, ae_, ad_, aj_, ac_, ab_, aa_]; rfl) ?_ ?_)
 ·first | trivial | simp
 refine .seq (.seq (.rgn [] (by simp only [go_sem, seval, ae_, ad_, aj_, ac_, ab_, aa_]; rfl) ?_ ?_))
 ·first | trivial | simp
 refine .block (.loopK (fun k : Nat => ⟨[.sl false (pgR l), .no, .no, .i .i64 k, .no, .no, .no, .no, .no, .no, .no, .no, .no, .no, .no, .no, .no, .no, .no, .no, .no, .no, .no, .no, .no, .no, .no, .no, .no, .no, .no, .no, .no, .no, .no, .no, .no, .no, .no, .no, .no, .no, .no, .no, .no, .no, .no, .no, .no], be_ [], us []⟩) (fun k : Nat => k ≤ l.length ∧ (l.take k).all okP = true) (fun k : Nat => l.length - k) (0) ?_ ?_ (fun k hI => ?_))
 ·exact ⟨Nat.zero_le _, rfl⟩
 ·exact Can.weak (Weak.lit (by simp only [go_sem, seval, ae_, ad_, aj_, ac_, ab_, aa_, as_, leV, ap_, ar_, V.inn, us, T9_, Ta_] <;> ((try simp))) (by simp only [go_sem, seval, ae_, ad_, aj_, ac_, ab_, aa_, as_, leV, ap_, ar_, V.inn, us, T9_, Ta_]) (by simp only [go_sem, seval, ae_, ad_, aj_, ac_, ab_, aa_, as_, leV, ap_, ar_, V.inn, us, T9_, Ta_]))
 refine .seq (.seq (.rgn [] (by simp only [go_sem, seval, ae_, ad_, aj_, ac_, ab_, aa_]; rfl) ?_ ?_))
 ·first | trivial | simp
 refine .condB (by simp only [go_sem, seval, ae_, ad_, aj_, ac_, ab_, aa_]; rfl) (by simp only [go_sem, seval, ae_, ad_, aj_, ac_, ab_, aa_]) (fun h7 => ?_) (fun h7 => ?_)
 ·refine .skip (.seq (.block (.seq (.rgnD [cl_ (k < l.length) (fun h => ml_ (l.getD k Pg0).line (by have := (hB k h).1; omega)), cl_ (k < l.length ∧ tOk (l.getD k Pg0).line = true) (fun h => o8_ (l.getD k Pg0).line (tx_ h.2)), cl_ (k < l.length) (fun h => sc_ (l.getD k Pg0).line (by have := (hB k h).1; omega)), cl_ (k < l.length) (fun h => acp_ (l.getD k Pg0) (ec_ (l.getD k Pg0).line) (hB k h) (yq_ (hB k h).1))] enM (by simp only [go_sem, seval, ae_, ad_, aj_, ac_, ab_, aa_, de_ (show k < l.length by simpa using h7)]; rfl) (by rfl) ?_ ?_))))
  ·simp only [T3_] at h7; and_intros <;> first | omega | trivial | exact fun h => ⟨h, by omega, by omega⟩ | exact fun h => ⟨h, by omega⟩ | exact fun h => ⟨h, by omega, by simpa using h⟩ | exact fun h => by rw [h]; rfl
  refine .condB (by simp only [go_sem, seval, ae_, ad_, aj_, ac_, ab_, aa_]; rfl) (by simp only [go_sem, seval, ae_, ad_, aj_, ac_, ab_, aa_]) (fun h40 => ?_) (fun h40 => ?_)
  ·refine .seq (.rgn [] (by simp only [go_sem, seval, ae_, ad_, aj_, ac_, ab_, aa_]; rfl) ?_ ?_)
   ·first | trivial | simp
   refine .ret ⟨.inr rfl, ?_⟩
   exact Out.plain (by simp only [Tryz.results34]; rfl) (by simp only [ay_, a6_, go_sem, seval, ae_, ad_, aj_, ac_, ab_, aa_] <;> (split <;> rfl)) (by simp only [a5_, go_sem, seval, ae_, ad_, aj_, ac_, ab_, aa_] <;> (rw [aed_ (k := k) (by simpa using h7) (ai4_ h40)])) (by simp only [go_sem, seval, ae_, ad_, aj_, ac_, ab_, aa_])
  ·refine .skip (.rgn [] (by simp only [go_sem, seval, ae_, ad_, aj_, ac_, ab_, aa_]; rfl) ?_ ?_)
   ·first | trivial | simp
   refine Exists.intro (k + 1) ⟨?_, ?_, ?_⟩
   ·simp at h7; refine ⟨by omega, ?_⟩; rw [aik_ h7, hI.2, aj0_ h40]; rfl
   ·simp at h7; omega
   exact Can.weak (Weak.lit (by simp only [go_sem, seval, ae_, ad_, aj_, ac_, ab_, aa_, as_, leV, ap_, ar_, V.inn, us, T9_, Ta_] <;> (rw [bd_ (by simp at h7; omega) (by simp at h7; omega)]; (try simp))) (by simp only [go_sem, seval, ae_, ad_, aj_, ac_, ab_, aa_, as_, leV, ap_, ar_, V.inn, us, T9_, Ta_]) (by simp only [go_sem, seval, ae_, ad_, aj_, ac_, ab_, aa_, as_, leV, ap_, ar_, V.inn, us, T9_, Ta_]))
 ·refine .exit (.seq (.rgn [] (by simp only [go_sem, seval, ae_, ad_, aj_, ac_, ab_, aa_]; rfl) ?_ ?_))
  ·first | trivial | simp
  refine .ret ⟨.inr rfl, ?_⟩
  exact Out.plain (by simp only [Tryz.results34]; rfl) (by simp only [ay_, a6_, go_sem, seval, ae_, ad_, aj_, ac_, ab_, aa_] <;> (split <;> rfl)) (by simp only [a5_, go_sem, seval, ae_, ad_, aj_, ac_, ab_, aa_] <;> (simp only [T4_] at h7; have e := hI.2; rw [T1_ (by omega)] at e; unfold ct_; rw [e]; simp only [h7_, Bool.and_true]; rfl)) (by simp only [go_sem, seval, ae_, ad_, aj_, ac_, ab_, aa_])
theorem yw_ (s : Str) (hs : s.length ≤ 281474976710656) : ACall En 14 [.s s] [] [.ow 0 4 0 (ik_ s).length] [⟨47, 4, pgR (ik_ s)⟩] := by
 have hL := yh_ s
 have hM := qi_ s
 have hb : ik_ s = if (gs_ s).length ≤ 16 then (gs_ s).map ec_ else [] := rfl
 have T := s0_ s hs
 generalize gs_ s = ls at *
 refine al_ (fn := Tryz.f14) [60] Tryz.func14 rfl rfl (by simp) fun C => ?_
 rw [aw_]
 simp only [Tryz.ntmps14, T7_, List.length_nil, Nat.reduceAdd, Nat.reduceSub, List.replicate_succ, List.replicate_zero, List.cons_append, List.nil_append, bo_]
 refine .seq (.rgn [] (by simp only [go_sem, seval, ab_, aa_, ad_, ae_, aj_, ac_]; rfl) ?_ ?_)
 ·(first | trivial | (simp; done) | (simp only [T3_, T4_] at h11 h16; and_intros <;> first | omega | (simp; done) | (simp; omega)))
 refine .seq (.rgn [] (by simp only [go_sem, seval, ab_, aa_, ad_, ae_, aj_, ac_]; rfl) ?_ ?_)
 ·(first | trivial | (simp; done) | (simp only [T3_, T4_] at h11 h16; and_intros <;> first | omega | (simp; done) | (simp; omega)))
 refine .seq (.rgn [a4_ T] (by simp only [go_sem, seval, ab_, aa_, ad_, ae_, aj_, ac_]; rfl) ?_ ?_)
 ·(first | trivial | (simp; done) | (simp only [T3_, T4_] at h11 h16; and_intros <;> first | omega | (simp; done) | (simp; omega)))
 refine .seq (.seq (.rgn [] (by simp only [go_sem, seval, ab_, aa_, ad_, ae_, aj_, ac_]; rfl) ?_ ?_))
 ·(first | trivial | (simp; done) | (simp only [T3_, T4_] at h11 h16; and_intros <;> first | omega | (simp; done) | (simp; omega)))
 refine .condB (by simp only [go_sem, seval, ab_, aa_, ad_, ae_, aj_, ac_]; rfl) (by simp only [go_sem, seval, ab_, aa_, ad_, ae_, aj_, ac_]) (fun h11 => ?_) (fun h11 => ?_)
 ·refine .seq (.rgn [] (by simp only [go_sem, seval, ab_, aa_, ad_, ae_, aj_, ac_]; rfl) ?_ ?_)
  ·(first | trivial | (simp; done) | (simp only [T3_, T4_] at h11 h16; and_intros <;> first | omega | (simp; done) | (simp; omega)))
  refine .can (Can.ownSlot 2 60 47 4 (by simp only [go_sem, seval, ab_, aa_, ad_, ae_, aj_, ac_] <;> rfl) (by simp only [go_sem, seval, ab_, aa_, ad_, ae_, aj_, ac_]) (by simp only [go_sem, seval, ab_, aa_, ad_, ae_, aj_, ac_] <;> rfl)) ?_
  refine .ret ⟨.inr rfl, ?_⟩
  exact Out.mem' (by simp only [Tryz.results14]; rfl) (by simp only [ay_, a6_, go_sem, seval, ab_, aa_, ad_, ae_, aj_, ac_]) (by simp only [a5_, rns, rn, go_sem, seval, ab_, aa_, ad_, ae_, aj_, ac_] <;> (rw [show ik_ s = [] by rw [hb, if_neg (by simp at h11; omega)]]; rfl)) (by simp) rfl (by decide) (by simp only [go_sem, seval, ab_, aa_, ad_, ae_, aj_, ac_]) (by simp only [ak_, go_sem, seval, ab_, aa_, ad_, ae_, aj_, ac_]) (by simp only [ag_, go_sem, seval, ab_, aa_, ad_, ae_, aj_, ac_] <;> (rw [show ik_ s = [] by rw [hb, if_neg (by simp at h11; omega)]]; rfl))
 ·refine .skip (.seq (.seq (.rgn [] (by simp only [go_sem, seval, ab_, aa_, ad_, ae_, aj_, ac_]; rfl) ?_ ?_)))
  ·(first | trivial | (simp; done) | (simp only [T3_, T4_] at h11 h16; and_intros <;> first | omega | (simp; done) | (simp; omega)))
  refine .block (.loopK (fun k : Nat => ⟨[.no, .no, .no, .ow 60 4 0 k, .sl false (bp_ ls), .i .i64 k, .no, .no, .no, .no, .no, .no, .no, .no, .no, .no, .no, .no, .no, .no, .no, .no, .no, .no, .no, .no, .no, .no], be_ [(60, ⟨47, 4, pgR ((ls.take k).map ec_)⟩)], us [60]⟩) (fun k : Nat => k ≤ ls.length) (fun k : Nat => ls.length - k) (0) ?_ ?_ (fun k hI => ?_))
  ·simp
  ·refine Can.trans (Can.ownSlot 3 60 47 4 (by simp only [go_sem, seval, ab_, aa_, ad_, ae_, aj_, ac_] <;> rfl) (by simp only [go_sem, seval, ab_, aa_, ad_, ae_, aj_, ac_]) (by simp only [go_sem, seval, ab_, aa_, ad_, ae_, aj_, ac_] <;> rfl)) ?_
   exact Can.weak (Weak.lit (by simp only [go_sem, seval, ab_, aa_, ad_, ae_, aj_, ac_, as_, leV, ap_, ar_, V.inn, us, T9_, Ta_] <;> ((try simp))) (by simp only [go_sem, seval, ab_, aa_, ad_, ae_, aj_, ac_, as_, leV, ap_, ar_, V.inn, us, T9_, Ta_]) (by simp only [go_sem, seval, ab_, aa_, ad_, ae_, aj_, ac_, as_, leV, ap_, ar_, V.inn, us, T9_, Ta_] <;> ((try simp [pgR]))))
  refine .seq (.seq (.rgn [] (by simp only [go_sem, seval, ab_, aa_, ad_, ae_, aj_, ac_]; rfl) ?_ ?_))
  ·(first | trivial | (simp; done) | (simp only [T3_, T4_] at h11 h16; and_intros <;> first | omega | (simp; done) | (simp; omega)))
  refine .condB (by simp only [go_sem, seval, ab_, aa_, ad_, ae_, aj_, ac_]; rfl) (by simp only [go_sem, seval, ab_, aa_, ad_, ae_, aj_, ac_]) (fun h16 => ?_) (fun h16 => ?_)
  ·refine .skip (.seq (.block (.rgn [cl_ (k < ls.length) (fun h => sc_ (ls.getD k []) (by have := hM _ (bh_ (d := []) h); omega))] (by simp only [go_sem, seval, ab_, aa_, ad_, ae_, aj_, ac_, cd_ (show k < ls.length by simpa using h16)]; rfl) ?_ ?_)))
   ·(first | trivial | (simp; done) | (simp only [T3_, T4_] at h11 h16; and_intros <;> first | omega | (simp; done) | (simp; omega)))
   refine .rgn [] (by simp only [go_sem, seval, ab_, aa_, ad_, ae_, aj_, ac_]; rfl) ?_ ?_
   ·(first | trivial | (simp; done) | (simp only [T3_, T4_] at h11 h16; and_intros <;> first | omega | (simp; done) | (simp; omega)))
   refine Exists.intro (k + 1) ⟨?_, ?_, ?_⟩
   ·simp at h16; omega
   ·simp at h16; omega
   refine Can.trans (Can.swap 36 60 (by decide) (by decide) (by decide) (by decide) (by simp only [go_sem, seval, ab_, aa_, ad_, ae_, aj_, ac_, V.cl]) (by simp only [go_sem, seval, ab_, aa_, ad_, ae_, aj_, ac_, V.cl]) (by simp only [go_sem, seval, ab_, aa_, ad_, ae_, aj_, ac_, bj_, sw, swM, rnB] <;> rfl) (by simp only [go_sem, seval, ab_, aa_, ad_, ae_, aj_, ac_, bj_, sw, swM, rnB] <;> rfl) (by simp only [go_sem, seval, ab_, aa_, ad_, ae_, aj_, ac_, bj_, sw, swM, rnB] <;> rfl)) ?_
   exact Can.weak (Weak.lit (by simp only [go_sem, seval, ab_, aa_, ad_, ae_, aj_, ac_, as_, leV, ap_, ar_, V.inn, us, T9_, Ta_] <;> (rw [bd_ (by simp at h16; omega) (by simp at h16; omega)]; (try simp))) (by simp only [go_sem, seval, ab_, aa_, ad_, ae_, aj_, ac_, as_, leV, ap_, ar_, V.inn, us, T9_, Ta_]) (by simp only [go_sem, seval, ab_, aa_, ad_, ae_, aj_, ac_, as_, leV, ap_, ar_, V.inn, us, T9_, Ta_] <;> (rw [bkTk (by simpa using h16), aj_])))
  ·refine .exit (.seq (.rgn [] (by simp only [go_sem, seval, ab_, aa_, ad_, ae_, aj_, ac_]; rfl) ?_ ?_))
   ·(first | trivial | (simp; done) | (simp only [T3_, T4_] at h11 h16; and_intros <;> first | omega | (simp; done) | (simp; omega)))
   refine .ret ⟨.inr rfl, ?_⟩
   exact Out.mem' (by simp only [Tryz.results14]; rfl) (by simp only [ay_, a6_, go_sem, seval, ab_, aa_, ad_, ae_, aj_, ac_]) (by simp only [a5_, rns, rn, go_sem, seval, ab_, aa_, ad_, ae_, aj_, ac_] <;> (simp only [T4_] at h11 h16; rw [show ik_ s = ls.map ec_ by rw [hb, if_pos (by omega)], List.length_map, show k = ls.length by omega])) (by simp) rfl (by decide) (by simp only [go_sem, seval, ab_, aa_, ad_, ae_, aj_, ac_]) (by simp only [ak_, go_sem, seval, ab_, aa_, ad_, ae_, aj_, ac_]) (by simp only [ag_, go_sem, seval, ab_, aa_, ad_, ae_, aj_, ac_] <;> (simp only [T4_] at h11 h16; rw [show ik_ s = ls.map ec_ by rw [hb, if_pos (by omega)], T1_ (show ls.length ≤ k by omega)]))
theorem bnE {l : List Pg} {k : Nat} (hk : k ≤ l.length) (h : ct_ l = true ∨ k = 0) (h2 : (decide ((k : Int) < l.length) && ct_ l) = false) : dd_ l k = dy_ l := by
 unfold dy_
 cases hb : ct_ l with
 | true =>
  rw [hb] at h2
  simp at h2
  rw [if_pos rfl, show k = l.length by omega]
 | false =>
  rw [hb] at h
  obtain rfl : k = 0 := by simpa using h
  rfl
theorem pe_ (l : List Pg) (hs : ∀ p ∈ l, pgB p) (hl : l.length ≤ 1000000) : ACall En 33 [.sl false (pgR l)] [] [.sl false (inR (dy_ l))] [] := by
 have hB := fun k => lg_ l k
 refine al_ (fn := Tryz.f33) [] Tryz.func33 rfl rfl (by simp) fun C => ?_
 rw [aw_]
 simp only [Tryz.ntmps33, T7_, List.length_nil, Nat.reduceAdd, Nat.reduceSub, List.replicate_succ, List.replicate_zero, List.cons_append, List.nil_append, bo_]
 refine .seq (.rgn [] (by simp only [go_sem, seval, ae_, ad_, aj_, ac_, ah_]; rfl) ?_ ?_)
 ·(first | trivial | (simp; done) | (simp only [T5_, T3_] at h13; and_intros <;> omega) | (have := hB k; simp [ah_]; omega))
 refine .seq (.rgn [] (by simp only [go_sem, seval, ae_, ad_, aj_, ac_, ah_]; rfl) ?_ ?_)
 ·(first | trivial | (simp; done) | (simp only [T5_, T3_] at h13; and_intros <;> omega) | (have := hB k; simp [ah_]; omega))
 refine .seq (.seq (.rgn [] (by simp only [go_sem, seval, ae_, ad_, aj_, ac_, ah_]; rfl) ?_ ?_))
 ·(first | trivial | (simp; done) | (simp only [T5_, T3_] at h13; and_intros <;> omega) | (have := hB k; simp [ah_]; omega))
 refine .block (.loopK (fun k : Nat => ⟨[.sl false (pgR l), .no, .no, .ow 60 1 0 (dd_ l k).length, .i .i64 k, .no, .no, .no, .no, .no, .no, .no, .no, .no, .no, .no, .no, .no, .no, .no, .no, .no, .no, .no, .no, .no, .no], be_ [(60, ⟨3, 1, inR (dd_ l k)⟩)], us [60]⟩) (fun k : Nat => k ≤ l.length ∧ (ct_ l = true ∨ k = 0)) (fun k : Nat => l.length - k) (0) ?_ ?_ (fun k hI => ?_))
 ·exact ⟨Nat.zero_le _, .inr rfl⟩
 ·refine Can.trans (Can.ownSlot 3 60 3 1 (by simp only [go_sem, seval, ae_, ad_, aj_, ac_, ah_] <;> rfl) (by simp only [go_sem, seval, ae_, ad_, aj_, ac_, ah_]) (by simp only [go_sem, seval, ae_, ad_, aj_, ac_, ah_] <;> rfl)) ?_
  exact Can.weak (Weak.lit (by simp only [go_sem, seval, ae_, ad_, aj_, ac_, ah_, as_, leV, ap_, ar_, V.inn, us, T9_, Ta_] <;> ((try simp [dd_]))) (by simp only [go_sem, seval, ae_, ad_, aj_, ac_, ah_, as_, leV, ap_, ar_, V.inn, us, T9_, Ta_]) (by simp only [go_sem, seval, ae_, ad_, aj_, ac_, ah_, as_, leV, ap_, ar_, V.inn, us, T9_, Ta_] <;> ((try simp [dd_, inR]))))
 refine .seq (.seq (.rgn [a4_ (jz_ l hs hl)] (by simp only [go_sem, seval, ae_, ad_, aj_, ac_, ah_]; rfl) ?_ ?_))
 ·(first | trivial | (simp; done) | (simp only [T5_, T3_] at h13; and_intros <;> omega) | (have := hB k; simp [ah_]; omega))
 refine .condB (by simp only [go_sem, seval, ae_, ad_, aj_, ac_, ah_]; rfl) (by simp only [go_sem, seval, ae_, ad_, aj_, ac_, ah_]) (fun h13 => ?_) (fun h13 => ?_)
 ·refine .skip (.seqJ (fun u : Unit => ⟨[.sl false (pgR l), .no, .no, .ow 60 1 0 (dd_ l (k + 1)).length, .i .i64 k, .no, .no, .no, .no, .no, .no, .no, .no, .no, .no, .no, .no, .no, .no, .no, .no, .no, .no, .no, .no, .no, .no], be_ [(60, ⟨3, 1, inR (dd_ l (k + 1))⟩)], us [60]⟩) (fun u : Unit => True) ?_ (fun u hJ => ?_))
  ·refine .block (.seq (.rgn [] (by simp only [go_sem, seval, ae_, ad_, aj_, ac_, ah_, de_ (show k < l.length by simp at h13; omega)]; rfl) ?_ ?_))
   ·(first | trivial | (simp; done) | (simp only [T5_, T3_] at h13; and_intros <;> omega) | (have := hB k; simp [ah_]; omega))
   refine .condB (by simp only [go_sem, seval, ae_, ad_, aj_, ac_, ah_]; rfl) (by simp only [go_sem, seval, ae_, ad_, aj_, ac_, ah_]) (fun h21 => ?_) (fun h21 => ?_)
   ·refine .rgn [] (by simp only [go_sem, seval, ae_, ad_, aj_, ac_, ah_]; rfl) ?_ ?_
    ·(first | trivial | (simp; done) | (simp only [T5_, T3_] at h13; and_intros <;> omega) | (have := hB k; simp [ah_]; omega))
    refine Exists.intro (()) ⟨?_, ?_⟩
    ·trivial
    refine Can.trans (Can.swap 35 60 (by decide) (by decide) (by decide) (by decide) (by simp only [go_sem, seval, ae_, ad_, aj_, ac_, ah_, V.cl]) (by simp only [go_sem, seval, ae_, ad_, aj_, ac_, ah_, V.cl]) (by simp only [go_sem, seval, ae_, ad_, aj_, ac_, ah_, bj_, sw, swM, rnB] <;> rfl) (by simp only [go_sem, seval, ae_, ad_, aj_, ac_, ah_, bj_, sw, swM, rnB] <;> rfl) (by simp only [go_sem, seval, ae_, ad_, aj_, ac_, ah_, bj_, sw, swM, rnB] <;> rfl)) ?_
    exact Can.weak (Weak.lit (by simp only [go_sem, seval, ae_, ad_, aj_, ac_, ah_, as_, leV, ap_, ar_, V.inn, us, T9_, Ta_] <;> (first | (rw [lh_ (i := k) (n := 0) (by simpa using h21)]; done) | (rw [fm_ (i := k) (by simpa using h21)]; done))) (by simp only [go_sem, seval, ae_, ad_, aj_, ac_, ah_, as_, leV, ap_, ar_, V.inn, us, T9_, Ta_]) (by simp only [go_sem, seval, ae_, ad_, aj_, ac_, ah_, as_, leV, ap_, ar_, V.inn, us, T9_, Ta_] <;> (first | (rw [lt_ (k := k) (by simpa using h21), j9_]; done) | (rw [fm_ (i := k) (by simpa using h21)]; done))))
   ·refine .skip ?_
    refine Exists.intro (()) ⟨?_, ?_⟩
    ·trivial
    exact Can.weak (Weak.lit (by simp only [go_sem, seval, ae_, ad_, aj_, ac_, ah_, as_, leV, ap_, ar_, V.inn, us, T9_, Ta_] <;> (first | (rw [lh_ (i := k) (n := 0) (by simpa using h21)]; done) | (rw [fm_ (i := k) (by simpa using h21)]; done))) (by simp only [go_sem, seval, ae_, ad_, aj_, ac_, ah_, as_, leV, ap_, ar_, V.inn, us, T9_, Ta_]) (by simp only [go_sem, seval, ae_, ad_, aj_, ac_, ah_, as_, leV, ap_, ar_, V.inn, us, T9_, Ta_] <;> (first | (rw [lt_ (k := k) (by simpa using h21), j9_]; done) | (rw [fm_ (i := k) (by simpa using h21)]; done))))
  refine .rgn [] (by simp only [go_sem, seval, ae_, ad_, aj_, ac_, ah_]; rfl) ?_ ?_
  ·(first | trivial | (simp; done) | (simp only [T5_, T3_] at h13; and_intros <;> omega) | (have := hB k; simp [ah_]; omega))
  refine Exists.intro (k + 1) ⟨?_, ?_, ?_⟩
  ·simp at h13; exact ⟨by omega, .inl h13.2⟩
  ·simp at h13; omega
  exact Can.weak (Weak.lit (by simp only [go_sem, seval, ae_, ad_, aj_, ac_, ah_, as_, leV, ap_, ar_, V.inn, us, T9_, Ta_] <;> (rw [bd_ (by simp at h13; omega) (by simp at h13; omega)]; (try simp))) (by simp only [go_sem, seval, ae_, ad_, aj_, ac_, ah_, as_, leV, ap_, ar_, V.inn, us, T9_, Ta_]) (by simp only [go_sem, seval, ae_, ad_, aj_, ac_, ah_, as_, leV, ap_, ar_, V.inn, us, T9_, Ta_]))
 ·refine .exit (.seq (.rgn [] (by simp only [go_sem, seval, ae_, ad_, aj_, ac_, ah_]; rfl) ?_ ?_))
  ·(first | trivial | (simp; done) | (simp only [T5_, T3_] at h13; and_intros <;> omega) | (have := hB k; simp [ah_]; omega))
  refine .frz 60 (by simp only [go_sem, seval, ae_, ad_, aj_, ac_, ah_]; rfl) (by simp only [go_sem, seval, ae_, ad_, aj_, ac_, ah_]) (by simp only [go_sem, seval, ae_, ad_, aj_, ac_, ah_]; rfl) (by simp only [go_sem, seval, ae_, ad_, aj_, ac_, ah_]; rfl) ?_
  refine .ret ⟨.inr rfl, ?_⟩
  exact Out.plain (by simp only [Tryz.results33]; rfl) (by simp only [ay_, a6_, go_sem, seval, ae_, ad_, aj_, ac_, ah_] <;> (split <;> rfl)) (by simp only [a5_, go_sem, seval, ae_, ad_, aj_, ac_, ah_] <;> (rw [bnE hI.1 hI.2 h13, T1_ (by rw [ah_]; exact Nat.le_refl _)])) (by simp only [go_sem, seval, ae_, ad_, aj_, ac_, ah_])
end
section
set_option maxRecDepth 100000
set_option maxHeartbeats 4000000
end
end Go.Proofs.YtpikbndepapbhaaGreatDoor
