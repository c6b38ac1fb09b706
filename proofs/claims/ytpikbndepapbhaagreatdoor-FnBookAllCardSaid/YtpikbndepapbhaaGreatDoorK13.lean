/- Books: what the program's tell. Conditions: none. -/
import Derived.Test.YtpikbndepapbhaaGreatDoorK12
import Derived.Test.YtpikbndepapbhaaGreatDoorK1
import Derived.Test.YtpikbndepapbhaaGreatDoorK4
set_option linter.unusedVariables false
set_option linter.unusedSimpArgs false
namespace Go.Proofs.YtpikbndepapbhaaGreatDoor
section
set_option maxRecDepth 100000
set_option maxHeartbeats 4000000
theorem qn_ {l : List Pg} {f : Pg → Str} (h : e3_ l = true) (hf : ∀ p, okP p = true → (f p).length ≤ 120) : (cj_ (l.map f)).length ≤ 3000 ∧ (l.map f).length ≤ 16 := by
 have h1 := (f1_ h).2.1
 have := yn_ (l := l.map f) (k := 120) fun s hs => by
  obtain ⟨p, hp, rfl⟩ := List.mem_map.1 hs
  exact hf p (ol_ h p hp)
 rw [List.length_map] at this
 have := Nat.mul_le_mul_right 121 h1
 exact ⟨by omega, by rw [List.length_map]; exact h1⟩
theorem t8_ (F : Nat) (f : Pg → Str) (hF : ∀ p : Pg, ACall En F [.ag (pgC p)] [] [.s (f p)] []) (hf : ∀ p, okP p = true → (f p).length ≤ 120) (l : List Pg) (hs : ∀ p ∈ l, pgB p) (hl : l.length ≤ 1000000) : ACall En 49 [.sl false (pgR l), .fn (.func F) [] []] [] [.s (if e3_ l then cj_ (l.map f) else [])] [] := by
 have hp : ∀ k, b5_ (d7_ (bo_ (l.map f)) [.s []] k) = true := fun k => fy_ (aa_ _) rfl
 have hll : (bo_ (l.map f)).length = l.length := by simp [bo_]
 have hf1 : ∀ k, k < l.length → (l.map f).getD k [] = f (l.getD k Pg0) := fun k h => by simp [T8_, T6_ h]
 refine aj_ (fn := Tryz.f49) [] Tryz.func49 rfl rfl (by simp) fun C => ?_
 rw [a0_]
 simp only [Tryz.ntmps49, T7_, List.length_nil, Nat.reduceAdd, Nat.reduceSub, List.replicate_succ, List.replicate_zero, List.cons_append, List.nil_append, bq_]
 refine .seq (.rgn [] (by simp only [go_sem, seval, am_, ag_, an_, aa_, ac_, hp, hll, as_, aw_]; rfl) ?_ ?_)
 ·(first | trivial | (simp; done) | (simp only [T3_] at h17; and_intros <;> omega) | (and_intros <;> omega))
 refine .seq (.seq (.rgn [a5_ (ji_ l hs hl)] (by simp only [go_sem, seval, am_, ag_, an_, aa_, ac_, hp, hll, as_, aw_]; rfl) ?_ ?_))
 ·(first | trivial | (simp; done) | (simp only [T3_] at h17; and_intros <;> omega) | (and_intros <;> omega))
 refine .condB (by simp only [go_sem, seval, am_, ag_, an_, aa_, ac_, hp, hll, as_, aw_]; rfl) (by simp only [go_sem, seval, am_, ag_, an_, aa_, ac_, hp, hll, as_, aw_]) (fun h10 => ?_) (fun h10 => ?_)
 ·refine .seq (.rgn [] (by simp only [go_sem, seval, am_, ag_, an_, aa_, ac_, hp, hll, as_, aw_]; rfl) ?_ ?_)
  ·(first | trivial | (simp; done) | (simp only [T3_] at h17; and_intros <;> omega) | (and_intros <;> omega))
  refine .ret ⟨.inr rfl, ?_⟩
  exact Out.plain (by simp only [Tryz.results49]; rfl) (by simp only [a1_, a9_, go_sem, seval, am_, ag_, an_, aa_, ac_, hp, hll, as_, aw_] <;> (split <;> rfl)) (by simp only [a8_, go_sem, seval, am_, ag_, an_, aa_, ac_, hp, hll, as_, aw_] <;> (simp at h10; simp [h10])) (by simp only [go_sem, seval, am_, ag_, an_, aa_, ac_, hp, hll, as_, aw_])
 ·refine .skip (.seq (.rgn [] (by simp only [go_sem, seval, am_, ag_, an_, aa_, ac_, hp, hll, as_, aw_]; rfl) ?_ ?_))
  ·(first | trivial | (simp; done) | (simp only [T3_] at h17; and_intros <;> omega) | (and_intros <;> omega))
  refine .seq (.seq (.rgn [] (by simp only [go_sem, seval, am_, ag_, an_, aa_, ac_, hp, hll, as_, aw_]; rfl) ?_ ?_))
  ·(first | trivial | (simp; done) | (simp only [T3_] at h17; and_intros <;> omega) | (and_intros <;> omega))
  refine .block (.loopK (fun k : Nat => ⟨[.no, .fn (.func F) [] [], .no, .no, .no, .ow 23 1 0 l.length, .no, .no, .no, .no, .no, .no, .no, .no, .sl false (pgR l), .i .i64 l.length, .i .i64 k, .no, .no, .no, .no, .no, .no, .no, .no, .no, .no, .no, .no, .no], bg_ [(23, ⟨9, 1, d7_ (bo_ (l.map f)) [.s []] k⟩)], us [23]⟩) (fun k : Nat => k ≤ l.length ∧ e3_ l = true) (fun k : Nat => l.length - k) (0) ?_ ?_ (fun k hI => ?_))
  ·exact ⟨by simp, by simpa using h10⟩
  ·exact Can.weak (Weak.lit (by simp only [go_sem, seval, am_, ag_, an_, aa_, ac_, hp, hll, as_, aw_, av_, leV, at_, au_, V.inn, us, T9_, Ta_] <;> (simp)) (by simp only [go_sem, seval, am_, ag_, an_, aa_, ac_, hp, hll, as_, aw_, av_, leV, at_, au_, V.inn, us, T9_, Ta_]) (by simp only [go_sem, seval, am_, ag_, an_, aa_, ac_, hp, hll, as_, aw_, av_, leV, at_, au_, V.inn, us, T9_, Ta_] <;> (simp [fo_, hll])))
  refine .seq (.rgn [] (by simp only [go_sem, seval, am_, ag_, an_, aa_, ac_, hp, hll, as_, aw_]; rfl) ?_ ?_)
  ·(first | trivial | (simp; done) | (simp only [T3_] at h17; and_intros <;> omega) | (and_intros <;> omega))
  refine .seq (.condB (by simp only [go_sem, seval, am_, ag_, an_, aa_, ac_, hp, hll, as_, aw_]; rfl) (by simp only [go_sem, seval, am_, ag_, an_, aa_, ac_, hp, hll, as_, aw_]) (fun h17 => ?_) (fun h17 => ?_))
  ·refine .skip (.seq (.block (.seq (.rgn [] (by simp only [go_sem, seval, am_, ag_, an_, aa_, ac_, hp, hll, as_, aw_, f5_ (show k < l.length by simpa using h17)]; rfl) ?_ ?_))))
   ·(first | trivial | (simp; done) | (simp only [T3_] at h17; and_intros <;> omega) | (and_intros <;> omega))
   refine .rgn [cf_ (k < l.length) (fun h => hF (l.getD k Pg0))] (by simp only [go_sem, seval, am_, ag_, an_, aa_, ac_, hp, hll, as_, aw_]; rfl) ?_ ?_
   ·(first | trivial | (simp; done) | (simp only [T3_] at h17; and_intros <;> omega) | (and_intros <;> omega))
   refine .rgn [] (by simp only [go_sem, seval, am_, ag_, an_, aa_, ac_, hp, hll, as_, aw_]; rfl) ?_ ?_
   ·(first | trivial | (simp; done) | (simp only [T3_] at h17; and_intros <;> omega) | (and_intros <;> omega))
   refine Exists.intro (k + 1) ⟨?_, ?_, ?_⟩
   ·simp at h17; exact ⟨by omega, hI.2⟩
   ·simp at h17; omega
   exact Can.weak (Weak.lit (by simp only [go_sem, seval, am_, ag_, an_, aa_, ac_, hp, hll, as_, aw_, av_, leV, at_, au_, V.inn, us, T9_, Ta_] <;> (rw [bh_ (by simp at h17; omega) (by simp at h17; omega)]; simp)) (by simp only [go_sem, seval, am_, ag_, an_, aa_, ac_, hp, hll, as_, aw_, av_, leV, at_, au_, V.inn, us, T9_, Ta_]) (by simp only [go_sem, seval, am_, ag_, an_, aa_, ac_, hp, hll, as_, aw_, av_, leV, at_, au_, V.inn, us, T9_, Ta_] <;> ((simp only [T3_] at h17); rw [← f9_ (by rw [hll]; omega), b8_ (by rw [List.length_map]; omega), hf1 _ (by omega)])))
  ·refine .exit (.seq (.rgn [rz_ (e3_ l = true) (fun h => m4_ (l.map f) (by have := (qn_ h hf).1; omega) (by have := (qn_ h hf).2; omega))] (by simp only [go_sem, seval, am_, ag_, an_, aa_, ac_, hp, hll, as_, aw_]; rfl) ?_ ?_))
   ·simp only [T4_] at h17; refine ⟨?_, hI.2⟩; rw [g4_ (by rw [hll]; omega), T1_ (by rw [hll]; exact Nat.le_refl _)]; exact be_ _
   refine .ret ⟨.inr rfl, ?_⟩
   exact Out.plain (by simp only [Tryz.results49]; rfl) (by simp only [a1_, a9_, go_sem, seval, am_, ag_, an_, aa_, ac_, hp, hll, as_, aw_] <;> (split <;> rfl)) (by simp only [a8_, go_sem, seval, am_, ag_, an_, aa_, ac_, hp, hll, as_, aw_] <;> (simp [hI.2])) (by simp only [go_sem, seval, am_, ag_, an_, aa_, ac_, hp, hll, as_, aw_])
theorem ue_ (p : Pg) : ACall En 50 [.ag (pgC p)] [] [.s p.line] [] := by
 refine aj_ (fn := Tryz.f50) [] Tryz.func50 rfl rfl (by simp) fun C => ?_
 rw [a0_]
 simp only [Tryz.ntmps50, T7_, List.length_nil, Nat.reduceAdd, Nat.reduceSub, List.replicate_succ, List.replicate_zero, List.cons_append, List.nil_append, bq_]
 refine .seq (.rgn [] (by simp only [go_sem, seval, an_, ac_]; rfl) ?_ ?_)
 ·first | trivial | simp
 refine .seq (.rgn [] (by simp only [go_sem, seval, an_, ac_]; rfl) ?_ ?_)
 ·first | trivial | simp
 refine .ret ⟨.inr rfl, ?_⟩
 exact Out.plain (by simp only [Tryz.results50]; rfl) (by simp only [a1_, a9_, go_sem, seval, an_, ac_] <;> (split <;> rfl)) (by simp only [a8_, go_sem, seval, an_, ac_] <;> (simp_all)) (by simp only [go_sem, seval, an_, ac_])
theorem v7_ (p : Pg) : ACall En 56 [.ag (pgC p)] [] [.s p.text] [] := by
 refine aj_ (fn := Tryz.f56) [] Tryz.func56 rfl rfl (by simp) fun C => ?_
 rw [a0_]
 simp only [Tryz.ntmps56, T7_, List.length_nil, Nat.reduceAdd, Nat.reduceSub, List.replicate_succ, List.replicate_zero, List.cons_append, List.nil_append, bq_]
 refine .seq (.rgn [] (by simp only [go_sem, seval, an_, ac_]; rfl) ?_ ?_)
 ·first | trivial | simp
 refine .seq (.rgn [] (by simp only [go_sem, seval, an_, ac_]; rfl) ?_ ?_)
 ·first | trivial | simp
 refine .ret ⟨.inr rfl, ?_⟩
 exact Out.plain (by simp only [Tryz.results56]; rfl) (by simp only [a1_, a9_, go_sem, seval, an_, ac_] <;> (split <;> rfl)) (by simp only [a8_, go_sem, seval, an_, ac_] <;> (simp_all)) (by simp only [go_sem, seval, an_, ac_])
theorem t7_ (l : List Pg) (hs : ∀ p ∈ l, pgB p) (hl : l.length ≤ 1000000) : ACall En 18 [.sl false (pgR l)] [] [.s (w0_ l)] [] := by
 refine aj_ (fn := Tryz.f18) [] Tryz.func18 rfl rfl (by simp) fun C => ?_
 rw [a0_]
 simp only [Tryz.ntmps18, T7_, List.length_nil, Nat.reduceAdd, Nat.reduceSub, List.replicate_succ, List.replicate_zero, List.cons_append, List.nil_append, bq_]
 refine .seq (.rgn [] (by simp only [go_sem, seval, ag_]; rfl) ?_ ?_)
 ·first | trivial | simp
 refine .seq (.rgn [a5_ (t8_ _ (·.line) ue_ (fun p hp => (abf_ (wf_ hp).1).2) l hs hl)] (by simp only [go_sem, seval, ag_]; rfl) ?_ ?_)
 ·first | trivial | simp
 refine .ret ⟨.inr rfl, ?_⟩
 exact Out.plain (by simp only [Tryz.results18]; rfl) (by simp only [a1_, a9_, go_sem, seval, ag_] <;> (split <;> rfl)) (by simp only [a8_, go_sem, seval, ag_] <;> (rfl)) (by simp only [go_sem, seval, ag_])
theorem v4_ (l : List Pg) (hs : ∀ p ∈ l, pgB p) (hl : l.length ≤ 1000000) : ACall En 20 [.sl false (pgR l)] [] [.s (wr_ l)] [] := by
 refine aj_ (fn := Tryz.f20) [] Tryz.func20 rfl rfl (by simp) fun C => ?_
 rw [a0_]
 simp only [Tryz.ntmps20, T7_, List.length_nil, Nat.reduceAdd, Nat.reduceSub, List.replicate_succ, List.replicate_zero, List.cons_append, List.nil_append, bq_]
 refine .seq (.rgn [] (by simp only [go_sem, seval, ag_]; rfl) ?_ ?_)
 ·first | trivial | simp
 refine .seq (.rgn [a5_ (t8_ _ (·.text) v7_ (fun p hp => by rw [(if_ hp).1]; exact (u1_ _).2) l hs hl)] (by simp only [go_sem, seval, ag_]; rfl) ?_ ?_)
 ·first | trivial | simp
 refine .ret ⟨.inr rfl, ?_⟩
 exact Out.plain (by simp only [Tryz.results20]; rfl) (by simp only [a1_, a9_, go_sem, seval, ag_] <;> (split <;> rfl)) (by simp only [a8_, go_sem, seval, ag_] <;> (rfl)) (by simp only [go_sem, seval, ag_])
theorem v9_ {l : List Pg} {k : Nat} (h : (l.getD k Pg0).good = false) : gr_ l (k + 1) = gr_ l k ++ [(k : Int)] := by rw [gr_, h]; rfl
theorem wy_ (l : List Pg) (hs : ∀ p ∈ l, pgB p) (hl : l.length ≤ 1000000) : ACall En 17 [.sl false (pgR l)] [] [.sl false (inR (mw_ l))] [] := by
 have hB := fun k => o4_ l k
 refine aj_ (fn := Tryz.f17) [] Tryz.func17 rfl rfl (by simp) fun C => ?_
 rw [a0_]
 simp only [Tryz.ntmps17, T7_, List.length_nil, Nat.reduceAdd, Nat.reduceSub, List.replicate_succ, List.replicate_zero, List.cons_append, List.nil_append, bq_]
 refine .seq (.rgn [] (by simp only [go_sem, seval, am_, ag_, an_, ac_, ai_, ah_, ap_]; rfl) ?_ ?_)
 ·(first | trivial | (simp; done) | (simp only [T3_] at h12; and_intros <;> omega) | (have := hB k; simp [ai_]; omega))
 refine .seq (.seq (.rgn [a5_ (ji_ l hs hl)] (by simp only [go_sem, seval, am_, ag_, an_, ac_, ai_, ah_, ap_]; rfl) ?_ ?_))
 ·(first | trivial | (simp; done) | (simp only [T3_] at h12; and_intros <;> omega) | (have := hB k; simp [ai_]; omega))
 refine .condB (by simp only [go_sem, seval, am_, ag_, an_, ac_, ai_, ah_, ap_]; rfl) (by simp only [go_sem, seval, am_, ag_, an_, ac_, ai_, ah_, ap_]) (fun h8 => ?_) (fun h8 => ?_)
 ·refine .seq (.rgn [] (by simp only [go_sem, seval, am_, ag_, an_, ac_, ai_, ah_, ap_]; rfl) ?_ ?_)
  ·(first | trivial | (simp; done) | (simp only [T3_] at h12; and_intros <;> omega) | (have := hB k; simp [ai_]; omega))
  refine .ret ⟨.inr rfl, ?_⟩
  exact Out.plainL (by simp only [Tryz.results17]; rfl) (by simp only [a1_, a9_, go_sem, seval, am_, ag_, an_, ac_, ai_, ah_, ap_] <;> (split <;> rfl)) (by simp only [a8_, go_sem, seval, am_, ag_, an_, ac_, ai_, ah_, ap_] <;> (simp at h8; simp [mw_, h8, inR, les, ler, leV])) (by simp only [go_sem, seval, am_, ag_, an_, ac_, ai_, ah_, ap_])
 ·refine .skip (.seq (.rgn [] (by simp only [go_sem, seval, am_, ag_, an_, ac_, ai_, ah_, ap_]; rfl) ?_ ?_))
  ·(first | trivial | (simp; done) | (simp only [T3_] at h12; and_intros <;> omega) | (have := hB k; simp [ai_]; omega))
  refine .seq (.seq (.rgn [] (by simp only [go_sem, seval, am_, ag_, an_, ac_, ai_, ah_, ap_]; rfl) ?_ ?_))
  ·(first | trivial | (simp; done) | (simp only [T3_] at h12; and_intros <;> omega) | (have := hB k; simp [ai_]; omega))
  refine .block (.loopK (fun k : Nat => ⟨[.no, .no, .no, .ow 20 1 0 (gr_ l k).length, .no, .no, .no, .no, .no, .sl false (pgR l), .i .i64 l.length, .i .i64 k, .no, .no, .no, .no, .no, .no, .no, .no, .no, .no, .no, .no, .no, .no], bg_ [(20, ⟨3, 1, inR (gr_ l k)⟩)], us [20]⟩) (fun k : Nat => k ≤ l.length ∧ e3_ l = true) (fun k : Nat => l.length - k) (0) ?_ ?_ (fun k hI => ?_))
  ·exact ⟨by simp, by simpa using h8⟩
  ·refine Can.trans (Can.ownSlot 3 20 3 1 (by simp only [go_sem, seval, am_, ag_, an_, ac_, ai_, ah_, ap_] <;> rfl) (by simp only [go_sem, seval, am_, ag_, an_, ac_, ai_, ah_, ap_]) (by simp only [go_sem, seval, am_, ag_, an_, ac_, ai_, ah_, ap_] <;> rfl)) ?_
   exact Can.weak (Weak.lit (by simp only [go_sem, seval, am_, ag_, an_, ac_, ai_, ah_, ap_, av_, leV, at_, au_, V.inn, us, T9_, Ta_] <;> (simp [gr_])) (by simp only [go_sem, seval, am_, ag_, an_, ac_, ai_, ah_, ap_, av_, leV, at_, au_, V.inn, us, T9_, Ta_]) (by simp only [go_sem, seval, am_, ag_, an_, ac_, ai_, ah_, ap_, av_, leV, at_, au_, V.inn, us, T9_, Ta_] <;> (simp [gr_, inR])))
  refine .seq (.rgn [] (by simp only [go_sem, seval, am_, ag_, an_, ac_, ai_, ah_, ap_]; rfl) ?_ ?_)
  ·(first | trivial | (simp; done) | (simp only [T3_] at h12; and_intros <;> omega) | (have := hB k; simp [ai_]; omega))
  refine .seq (.condB (by simp only [go_sem, seval, am_, ag_, an_, ac_, ai_, ah_, ap_]; rfl) (by simp only [go_sem, seval, am_, ag_, an_, ac_, ai_, ah_, ap_]) (fun h12 => ?_) (fun h12 => ?_))
  ·refine .skip (.seqJ (fun u : Unit => ⟨[.no, .no, .no, .ow 20 1 0 (gr_ l (k + 1)).length, .no, .no, .no, .no, .no, .sl false (pgR l), .i .i64 l.length, .i .i64 k, .no, .no, .no, .no, .no, .no, .no, .no, .no, .no, .no, .no, .no, .no], bg_ [(20, ⟨3, 1, inR (gr_ l (k + 1))⟩)], us [20]⟩) (fun u : Unit => True) ?_ (fun u hJ => ?_))
   ·refine .block (.seq (.rgn [] (by simp only [go_sem, seval, am_, ag_, an_, ac_, ai_, ah_, ap_, f5_ (show k < l.length by simpa using h12)]; rfl) ?_ ?_))
    ·(first | trivial | (simp; done) | (simp only [T3_] at h12; and_intros <;> omega) | (have := hB k; simp [ai_]; omega))
    refine .seq (.rgn [] (by simp only [go_sem, seval, am_, ag_, an_, ac_, ai_, ah_, ap_]; rfl) ?_ ?_)
    ·(first | trivial | (simp; done) | (simp only [T3_] at h12; and_intros <;> omega) | (have := hB k; simp [ai_]; omega))
    refine .condB (by simp only [go_sem, seval, am_, ag_, an_, ac_, ai_, ah_, ap_]; rfl) (by simp only [go_sem, seval, am_, ag_, an_, ac_, ai_, ah_, ap_]) (fun h18 => ?_) (fun h18 => ?_)
    ·refine .rgn [] (by simp only [go_sem, seval, am_, ag_, an_, ac_, ai_, ah_, ap_]; rfl) ?_ ?_
     ·(first | trivial | (simp; done) | (simp only [T3_] at h12; and_intros <;> omega) | (have := hB k; simp [ai_]; omega))
     refine Exists.intro (()) ⟨?_, ?_⟩
     ·trivial
     refine Can.trans (Can.swap 32 20 (by decide) (by decide) (by decide) (by decide) (by simp only [go_sem, seval, am_, ag_, an_, ac_, ai_, ah_, ap_, V.cl]) (by simp only [go_sem, seval, am_, ag_, an_, ac_, ai_, ah_, ap_, V.cl]) (by simp only [go_sem, seval, am_, ag_, an_, ac_, ai_, ah_, ap_, bl_, sw, swM, rnB] <;> rfl) (by simp only [go_sem, seval, am_, ag_, an_, ac_, ai_, ah_, ap_, bl_, sw, swM, rnB] <;> rfl) (by simp only [go_sem, seval, am_, ag_, an_, ac_, ai_, ah_, ap_, bl_, sw, swM, rnB] <;> rfl)) ?_
     exact Can.weak (Weak.lit (by simp only [go_sem, seval, am_, ag_, an_, ac_, ai_, ah_, ap_, av_, leV, at_, au_, V.inn, us, T9_, Ta_] <;> (first | (rw [v0_ (i := k) (n := 0) (by simpa using h18)]; done) | (rw [js_ (i := k) (by simpa using h18)]; done))) (by simp only [go_sem, seval, am_, ag_, an_, ac_, ai_, ah_, ap_, av_, leV, at_, au_, V.inn, us, T9_, Ta_]) (by simp only [go_sem, seval, am_, ag_, an_, ac_, ai_, ah_, ap_, av_, leV, at_, au_, V.inn, us, T9_, Ta_] <;> (first | (rw [v9_ (k := k) (by simpa using h18), rh_]; done) | (rw [js_ (i := k) (by simpa using h18)]; done))))
    ·refine .skip ?_
     refine Exists.intro (()) ⟨?_, ?_⟩
     ·trivial
     exact Can.weak (Weak.lit (by simp only [go_sem, seval, am_, ag_, an_, ac_, ai_, ah_, ap_, av_, leV, at_, au_, V.inn, us, T9_, Ta_] <;> (first | (rw [v0_ (i := k) (n := 0) (by simpa using h18)]; done) | (rw [js_ (i := k) (by simpa using h18)]; done))) (by simp only [go_sem, seval, am_, ag_, an_, ac_, ai_, ah_, ap_, av_, leV, at_, au_, V.inn, us, T9_, Ta_]) (by simp only [go_sem, seval, am_, ag_, an_, ac_, ai_, ah_, ap_, av_, leV, at_, au_, V.inn, us, T9_, Ta_] <;> (first | (rw [v9_ (k := k) (by simpa using h18), rh_]; done) | (rw [js_ (i := k) (by simpa using h18)]; done))))
   refine .rgn [] (by simp only [go_sem, seval, am_, ag_, an_, ac_, ai_, ah_, ap_]; rfl) ?_ ?_
   ·(first | trivial | (simp; done) | (simp only [T3_] at h12; and_intros <;> omega) | (have := hB k; simp [ai_]; omega))
   refine Exists.intro (k + 1) ⟨?_, ?_, ?_⟩
   ·simp at h12; exact ⟨by omega, hI.2⟩
   ·simp at h12; omega
   exact Can.weak (Weak.lit (by simp only [go_sem, seval, am_, ag_, an_, ac_, ai_, ah_, ap_, av_, leV, at_, au_, V.inn, us, T9_, Ta_] <;> (rw [bh_ (by simp at h12; omega) (by simp at h12; omega)]; simp)) (by simp only [go_sem, seval, am_, ag_, an_, ac_, ai_, ah_, ap_, av_, leV, at_, au_, V.inn, us, T9_, Ta_]) (by simp only [go_sem, seval, am_, ag_, an_, ac_, ai_, ah_, ap_, av_, leV, at_, au_, V.inn, us, T9_, Ta_]))
  ·refine .exit (.seq (.rgn [bu_ [20] [] (yx_ (gr_ l l.length) (by have := hB l.length; omega))] (by simp only [go_sem, seval, am_, ag_, an_, ac_, ai_, ah_, ap_]; rfl) ?_ ?_))
   ·simp only [T4_] at h12; (obtain rfl : k = l.length := (by omega)); simp
   refine .frz 20 (by simp only [go_sem, seval, am_, ag_, an_, ac_, ai_, ah_, ap_]; rfl) (by simp only [go_sem, seval, am_, ag_, an_, ac_, ai_, ah_, ap_]) (by simp only [go_sem, seval, am_, ag_, an_, ac_, ai_, ah_, ap_]; rfl) (by simp only [go_sem, seval, am_, ag_, an_, ac_, ai_, ah_, ap_]; rfl) ?_
   refine .ret ⟨.inr rfl, ?_⟩
   exact Out.plainL (by simp only [Tryz.results17]; rfl) (by simp only [a1_, a9_, go_sem, seval, am_, ag_, an_, ac_, ai_, ah_, ap_] <;> (split <;> rfl)) (by simp only [a8_, go_sem, seval, am_, ag_, an_, ac_, ai_, ah_, ap_] <;> (rw [T1_ (by rw [ai_]; exact Nat.le_refl _)]; simp [mw_, hI.2, les, leV, be_])) (by simp only [go_sem, seval, am_, ag_, an_, ac_, ai_, ah_, ap_])
theorem tv_ (l : List Pg) (hs : ∀ p ∈ l, pgB p) (hl : l.length ≤ 1000000) : ACall En 23 [.sl false (pgR l)] [] [.sl false (sgR (jb_ l))] [] := by
 have hE : ∀ k, e3_ l = true ∧ k < l.length → ACall En 59 [.i .i64 k, .s (l.getD k Pg0).text, .sl false (inR (l.getD k Pg0).frm)] [] [.sl false (sgR (sgs k ((bt_ (l.getD k Pg0).text).getD []) (l.getD k Pg0).frm))] [] := fun k h => by
  obtain ⟨q1, q2, _⟩ := if_ ((f1_ h.1).2.2 k h.2)
  have hk := vt_ (l.getD k Pg0).line
  rw [q1, q2]
  exact tz_ k _ _ (by have := wt_ hk; omega) (by rw [vd_ hk]; exact Nat.le_refl _) (by have := so_ hk; omega)
 have hN : ∀ k, e3_ l = true → k ≤ l.length → (hs_ l k).length ≤ 2000 := fun k h hk => by
  rw [w7_ h k hk]
  have := fg_ (sc_ h) (k := k) (by rw [kf_]; exact hk)
  have := (f1_ h).2.1
  omega
 refine aj_ (fn := Tryz.f23) [] Tryz.func23 rfl rfl (by simp) fun C => ?_
 rw [a0_]
 simp only [Tryz.ntmps23, T7_, List.length_nil, Nat.reduceAdd, Nat.reduceSub, List.replicate_succ, List.replicate_zero, List.cons_append, List.nil_append, bq_]
 refine .seq (.rgn [] (by simp only [go_sem, seval, am_, ag_, an_, ac_, aq_, a2_]; rfl) ?_ ?_)
 ·(first | trivial | (simp; done) | (simp only [T3_] at h12; have hk : k < l.length := (by omega); have q1 := hN k hI.2 (by omega); have q2 := ez_ k ((bt_ (l.getD k Pg0).text).getD []) (l.getD k Pg0).frm; have q3 := (hs _ (bk_ (d := Pg0) hk)).2.2; first | (and_intros <;> omega) | exact ⟨⟨hI.2, hk⟩, of_eq_true (b4_ _), by simp, by omega⟩))
 refine .seq (.seq (.rgn [a5_ (ji_ l hs hl)] (by simp only [go_sem, seval, am_, ag_, an_, ac_, aq_, a2_]; rfl) ?_ ?_))
 ·(first | trivial | (simp; done) | (simp only [T3_] at h12; have hk : k < l.length := (by omega); have q1 := hN k hI.2 (by omega); have q2 := ez_ k ((bt_ (l.getD k Pg0).text).getD []) (l.getD k Pg0).frm; have q3 := (hs _ (bk_ (d := Pg0) hk)).2.2; first | (and_intros <;> omega) | exact ⟨⟨hI.2, hk⟩, of_eq_true (b4_ _), by simp, by omega⟩))
 refine .condB (by simp only [go_sem, seval, am_, ag_, an_, ac_, aq_, a2_]; rfl) (by simp only [go_sem, seval, am_, ag_, an_, ac_, aq_, a2_]) (fun h8 => ?_) (fun h8 => ?_)
 ·refine .seq (.rgn [] (by simp only [go_sem, seval, am_, ag_, an_, ac_, aq_, a2_]; rfl) ?_ ?_)
  ·(first | trivial | (simp; done) | (simp only [T3_] at h12; have hk : k < l.length := (by omega); have q1 := hN k hI.2 (by omega); have q2 := ez_ k ((bt_ (l.getD k Pg0).text).getD []) (l.getD k Pg0).frm; have q3 := (hs _ (bk_ (d := Pg0) hk)).2.2; first | (and_intros <;> omega) | exact ⟨⟨hI.2, hk⟩, of_eq_true (b4_ _), by simp, by omega⟩))
  refine .ret ⟨.inr rfl, ?_⟩
  exact Out.plainL (by simp only [Tryz.results23]; rfl) (by simp only [a1_, a9_, go_sem, seval, am_, ag_, an_, ac_, aq_, a2_] <;> (split <;> rfl)) (by simp only [a8_, go_sem, seval, am_, ag_, an_, ac_, aq_, a2_] <;> (simp at h8; simp [jb_, h8, sgR, ler])) (by simp only [go_sem, seval, am_, ag_, an_, ac_, aq_, a2_])
 ·refine .skip (.seq (.rgn [] (by simp only [go_sem, seval, am_, ag_, an_, ac_, aq_, a2_]; rfl) ?_ ?_))
  ·(first | trivial | (simp; done) | (simp only [T3_] at h12; have hk : k < l.length := (by omega); have q1 := hN k hI.2 (by omega); have q2 := ez_ k ((bt_ (l.getD k Pg0).text).getD []) (l.getD k Pg0).frm; have q3 := (hs _ (bk_ (d := Pg0) hk)).2.2; first | (and_intros <;> omega) | exact ⟨⟨hI.2, hk⟩, of_eq_true (b4_ _), by simp, by omega⟩))
  refine .seqJ (fun u : Unit => ⟨[.no, .no, .no, .sl false (sgR (hs_ l l.length)), .no, .no, .no, .no, .no, .no, .no, .no, .no, .no, .no, .no, .no, .no, .no, .no, .no, .no, .no, .no, .no, .no, .no, .no, .no], bg_ [], us []⟩) (fun u : Unit => e3_ l = true) ?_ (fun u hJ => ?_)
  ·refine .seq (.rgn [] (by simp only [go_sem, seval, am_, ag_, an_, ac_, aq_, a2_]; rfl) ?_ ?_)
   ·(first | trivial | (simp; done) | (simp only [T3_] at h12; have hk : k < l.length := (by omega); have q1 := hN k hI.2 (by omega); have q2 := ez_ k ((bt_ (l.getD k Pg0).text).getD []) (l.getD k Pg0).frm; have q3 := (hs _ (bk_ (d := Pg0) hk)).2.2; first | (and_intros <;> omega) | exact ⟨⟨hI.2, hk⟩, of_eq_true (b4_ _), by simp, by omega⟩))
   refine .block (.loopK (fun k : Nat => ⟨[.no, .no, .no, .ow 20 4 0 (hs_ l k).length, .no, .no, .no, .no, .no, .sl false (pgR l), .i .i64 l.length, .i .i64 k, .no, .no, .no, .no, .no, .no, .no, .no, .no, .no, .no, .no, .no, .no, .no, .no, .no], bg_ [(20, ⟨54, 4, sgR (hs_ l k)⟩)], us [20]⟩) (fun k : Nat => k ≤ l.length ∧ e3_ l = true) (fun k : Nat => l.length - k) (0) ?_ ?_ (fun k hI => ?_))
   ·exact ⟨by simp, by simpa using h8⟩
   ·refine Can.trans (Can.ownSlot 3 20 54 4 (by simp only [go_sem, seval, am_, ag_, an_, ac_, aq_, a2_] <;> rfl) (by simp only [go_sem, seval, am_, ag_, an_, ac_, aq_, a2_]) (by simp only [go_sem, seval, am_, ag_, an_, ac_, aq_, a2_] <;> rfl)) ?_
    exact Can.weak (Weak.lit (by simp only [go_sem, seval, am_, ag_, an_, ac_, aq_, a2_, av_, leV, at_, au_, V.inn, us, T9_, Ta_] <;> (simp [hs_])) (by simp only [go_sem, seval, am_, ag_, an_, ac_, aq_, a2_, av_, leV, at_, au_, V.inn, us, T9_, Ta_]) (by simp only [go_sem, seval, am_, ag_, an_, ac_, aq_, a2_, av_, leV, at_, au_, V.inn, us, T9_, Ta_] <;> (simp [hs_, sgR])))
   refine .seq (.rgn [] (by simp only [go_sem, seval, am_, ag_, an_, ac_, aq_, a2_]; rfl) ?_ ?_)
   ·(first | trivial | (simp; done) | (simp only [T3_] at h12; have hk : k < l.length := (by omega); have q1 := hN k hI.2 (by omega); have q2 := ez_ k ((bt_ (l.getD k Pg0).text).getD []) (l.getD k Pg0).frm; have q3 := (hs _ (bk_ (d := Pg0) hk)).2.2; first | (and_intros <;> omega) | exact ⟨⟨hI.2, hk⟩, of_eq_true (b4_ _), by simp, by omega⟩))
   refine .seq (.condB (by simp only [go_sem, seval, am_, ag_, an_, ac_, aq_, a2_]; rfl) (by simp only [go_sem, seval, am_, ag_, an_, ac_, aq_, a2_]) (fun h12 => ?_) (fun h12 => ?_))
   ·refine .skip (.seqJ (fun u : Unit => ⟨[.no, .no, .no, .ow 20 4 0 (hs_ l (k + 1)).length, .no, .no, .no, .no, .no, .sl false (pgR l), .i .i64 l.length, .i .i64 k, .no, .no, .no, .no, .no, .no, .no, .no, .no, .no, .no, .no, .no, .no, .no, .no, .no], bg_ [(20, ⟨54, 4, sgR (hs_ l (k + 1))⟩)], us [20]⟩) (fun u : Unit => True) ?_ (fun u hJ => ?_))
    ·refine .block (.seq (.rgn [] (by simp only [go_sem, seval, am_, ag_, an_, ac_, aq_, a2_, f5_ (show k < l.length by simpa using h12)]; rfl) ?_ ?_))
     ·(first | trivial | (simp; done) | (simp only [T3_] at h12; have hk : k < l.length := (by omega); have q1 := hN k hI.2 (by omega); have q2 := ez_ k ((bt_ (l.getD k Pg0).text).getD []) (l.getD k Pg0).frm; have q3 := (hs _ (bk_ (d := Pg0) hk)).2.2; first | (and_intros <;> omega) | exact ⟨⟨hI.2, hk⟩, of_eq_true (b4_ _), by simp, by omega⟩))
     refine .seq (.rgn [] (by simp only [go_sem, seval, am_, ag_, an_, ac_, aq_, a2_]; rfl) ?_ ?_)
     ·(first | trivial | (simp; done) | (simp only [T3_] at h12; have hk : k < l.length := (by omega); have q1 := hN k hI.2 (by omega); have q2 := ez_ k ((bt_ (l.getD k Pg0).text).getD []) (l.getD k Pg0).frm; have q3 := (hs _ (bk_ (d := Pg0) hk)).2.2; first | (and_intros <;> omega) | exact ⟨⟨hI.2, hk⟩, of_eq_true (b4_ _), by simp, by omega⟩))
     refine .condB (by simp only [go_sem, seval, am_, ag_, an_, ac_, aq_, a2_]; rfl) (by simp only [go_sem, seval, am_, ag_, an_, ac_, aq_, a2_]) (fun h17 => ?_) (fun h17 => ?_)
     ·refine .rgn [cf_ (e3_ l = true ∧ k < l.length) (hE k)] (by simp only [go_sem, seval, am_, ag_, an_, ac_, aq_, a2_]; rfl) ?_ ?_
      ·(first | trivial | (simp; done) | (simp only [T3_] at h12; have hk : k < l.length := (by omega); have q1 := hN k hI.2 (by omega); have q2 := ez_ k ((bt_ (l.getD k Pg0).text).getD []) (l.getD k Pg0).frm; have q3 := (hs _ (bk_ (d := Pg0) hk)).2.2; first | (and_intros <;> omega) | exact ⟨⟨hI.2, hk⟩, of_eq_true (b4_ _), by simp, by omega⟩))
      refine Exists.intro (()) ⟨?_, ?_⟩
      ·trivial
      refine Can.trans (Can.swap 35 20 (by decide) (by decide) (by decide) (by decide) (by simp only [go_sem, seval, am_, ag_, an_, ac_, aq_, a2_, V.cl]) (by simp only [go_sem, seval, am_, ag_, an_, ac_, aq_, a2_, V.cl]) (by simp only [go_sem, seval, am_, ag_, an_, ac_, aq_, a2_, bl_, sw, swM, rnB] <;> rfl) (by simp only [go_sem, seval, am_, ag_, an_, ac_, aq_, a2_, bl_, sw, swM, rnB] <;> rfl) (by simp only [go_sem, seval, am_, ag_, an_, ac_, aq_, a2_, bl_, sw, swM, rnB] <;> rfl)) ?_
      exact Can.weak (Weak.lit (by simp only [go_sem, seval, am_, ag_, an_, ac_, aq_, a2_, av_, leV, at_, au_, V.inn, us, T9_, Ta_] <;> (first | (rw [hs_, if_pos (by simpa using h17)]; simp; done) | (rw [hs_, if_neg (by simpa using h17)]; simp; done))) (by simp only [go_sem, seval, am_, ag_, an_, ac_, aq_, a2_, av_, leV, at_, au_, V.inn, us, T9_, Ta_]) (by simp only [go_sem, seval, am_, ag_, an_, ac_, aq_, a2_, av_, leV, at_, au_, V.inn, us, T9_, Ta_] <;> (first | (rw [hs_, if_pos (by simpa using h17)]; simp [ta_]; done) | (rw [hs_, if_neg (by simpa using h17)]; simp; done))))
     ·refine .skip ?_
      refine Exists.intro (()) ⟨?_, ?_⟩
      ·trivial
      exact Can.weak (Weak.lit (by simp only [go_sem, seval, am_, ag_, an_, ac_, aq_, a2_, av_, leV, at_, au_, V.inn, us, T9_, Ta_] <;> (first | (rw [hs_, if_pos (by simpa using h17)]; simp; done) | (rw [hs_, if_neg (by simpa using h17)]; simp; done))) (by simp only [go_sem, seval, am_, ag_, an_, ac_, aq_, a2_, av_, leV, at_, au_, V.inn, us, T9_, Ta_]) (by simp only [go_sem, seval, am_, ag_, an_, ac_, aq_, a2_, av_, leV, at_, au_, V.inn, us, T9_, Ta_] <;> (first | (rw [hs_, if_pos (by simpa using h17)]; simp [ta_]; done) | (rw [hs_, if_neg (by simpa using h17)]; simp; done))))
    refine .rgn [] (by simp only [go_sem, seval, am_, ag_, an_, ac_, aq_, a2_]; rfl) ?_ ?_
    ·(first | trivial | (simp; done) | (simp only [T3_] at h12; have hk : k < l.length := (by omega); have q1 := hN k hI.2 (by omega); have q2 := ez_ k ((bt_ (l.getD k Pg0).text).getD []) (l.getD k Pg0).frm; have q3 := (hs _ (bk_ (d := Pg0) hk)).2.2; first | (and_intros <;> omega) | exact ⟨⟨hI.2, hk⟩, of_eq_true (b4_ _), by simp, by omega⟩))
    refine Exists.intro (k + 1) ⟨?_, ?_, ?_⟩
    ·simp at h12; exact ⟨by omega, hI.2⟩
    ·simp at h12; omega
    exact Can.weak (Weak.lit (by simp only [go_sem, seval, am_, ag_, an_, ac_, aq_, a2_, av_, leV, at_, au_, V.inn, us, T9_, Ta_] <;> (rw [bh_ (by simp at h12; omega) (by simp at h12; omega)]; simp)) (by simp only [go_sem, seval, am_, ag_, an_, ac_, aq_, a2_, av_, leV, at_, au_, V.inn, us, T9_, Ta_]) (by simp only [go_sem, seval, am_, ag_, an_, ac_, aq_, a2_, av_, leV, at_, au_, V.inn, us, T9_, Ta_]))
   ·refine .exit ?_
    refine Exists.intro (()) ⟨?_, ?_⟩
    ·exact hI.2
    refine Can.trans (Can.frz 20 (by simp only [go_sem, seval, am_, ag_, an_, ac_, aq_, a2_] <;> rfl) (by simp only [go_sem, seval, am_, ag_, an_, ac_, aq_, a2_]) (by simp only [go_sem, seval, am_, ag_, an_, ac_, aq_, a2_] <;> rfl) (by simp only [go_sem, seval, am_, ag_, an_, ac_, aq_, a2_] <;> rfl)) ?_
    exact Can.weak (Weak.lit (by simp only [go_sem, seval, am_, ag_, an_, ac_, aq_, a2_, av_, leV, at_, au_, V.inn, us, T9_, Ta_] <;> (simp at h12; (obtain rfl : k = l.length := (by omega)); simp [T1_, a2_, leV, be_])) (by simp only [go_sem, seval, am_, ag_, an_, ac_, aq_, a2_, av_, leV, at_, au_, V.inn, us, T9_, Ta_]) (by simp only [go_sem, seval, am_, ag_, an_, ac_, aq_, a2_, av_, leV, at_, au_, V.inn, us, T9_, Ta_]))
  refine .seq (.rgn [cf_ (e3_ l = true) (fun h => q6_ (hs_ l l.length) (by have := hN _ h (Nat.le_refl _); omega))] (by simp only [go_sem, seval, am_, ag_, an_, ac_, aq_, a2_]; rfl) ?_ ?_)
  ·(first | trivial | (simp; done) | (simp only [T3_] at h12; have hk : k < l.length := (by omega); have q1 := hN k hI.2 (by omega); have q2 := ez_ k ((bt_ (l.getD k Pg0).text).getD []) (l.getD k Pg0).frm; have q3 := (hs _ (bk_ (d := Pg0) hk)).2.2; first | (and_intros <;> omega) | exact ⟨⟨hI.2, hk⟩, of_eq_true (b4_ _), by simp, by omega⟩))
  refine .ret ⟨.inr rfl, ?_⟩
  exact Out.plainL (by simp only [Tryz.results23]; rfl) (by simp only [a1_, a9_, go_sem, seval, am_, ag_, an_, ac_, aq_, a2_] <;> (split <;> rfl)) (by simp only [a8_, go_sem, seval, am_, ag_, an_, ac_, aq_, a2_] <;> (simp [jb_, hJ, be_, leV])) (by simp only [go_sem, seval, am_, ag_, an_, ac_, aq_, a2_])
end
section
set_option maxRecDepth 100000
set_option maxHeartbeats 4000000
theorem bkTk {ls : List Str} {k : Nat} (h : k < ls.length) : pgR ((ls.take (k + 1)).map et_) = pgR ((ls.take k).map et_) ++ [pgC (et_ (ls.getD k []))] := by
 rw [List.take_add_one, T6_ h, T8_, T6_ h, List.map_append]; unfold pgR; rw [List.map_append]; rfl
theorem x2_ (s : Str) (hs : s.length ≤ 281474976710656) : ACall En 14 [.s s] [] [.ow 0 4 0 (do_ s).length] [⟨47, 4, pgR (do_ s)⟩] := by
 have hL := is_ s
 have hM := ii_ s
 have hb : do_ s = if (cb_ s).length ≤ 16 then (cb_ s).map et_ else [] := rfl
 have T := sx_ s hs
 generalize cb_ s = ls at *
 refine aj_ (fn := Tryz.f14) [60] Tryz.func14 rfl rfl (by simp) fun C => ?_
 rw [a0_]
 simp only [Tryz.ntmps14, T7_, List.length_nil, Nat.reduceAdd, Nat.reduceSub, List.replicate_succ, List.replicate_zero, List.cons_append, List.nil_append, bq_]
 refine .seq (.rgn [] (by simp only [go_sem, seval, ab_, aa_, ag_, am_, an_, ac_]; rfl) ?_ ?_)
 ·(first | trivial | (simp; done) | (simp only [T3_, T4_] at h11 h16; and_intros <;> first | omega | (simp; done) | (simp; omega)))
 refine .seq (.rgn [] (by simp only [go_sem, seval, ab_, aa_, ag_, am_, an_, ac_]; rfl) ?_ ?_)
 ·(first | trivial | (simp; done) | (simp only [T3_, T4_] at h11 h16; and_intros <;> first | omega | (simp; done) | (simp; omega)))
 refine .seq (.rgn [a5_ T] (by simp only [go_sem, seval, ab_, aa_, ag_, am_, an_, ac_]; rfl) ?_ ?_)
 ·(first | trivial | (simp; done) | (simp only [T3_, T4_] at h11 h16; and_intros <;> first | omega | (simp; done) | (simp; omega)))
 refine .seq (.seq (.rgn [] (by simp only [go_sem, seval, ab_, aa_, ag_, am_, an_, ac_]; rfl) ?_ ?_))
 ·(first | trivial | (simp; done) | (simp only [T3_, T4_] at h11 h16; and_intros <;> first | omega | (simp; done) | (simp; omega)))
 refine .condB (by simp only [go_sem, seval, ab_, aa_, ag_, am_, an_, ac_]; rfl) (by simp only [go_sem, seval, ab_, aa_, ag_, am_, an_, ac_]) (fun h11 => ?_) (fun h11 => ?_)
 ·refine .seq (.rgn [] (by simp only [go_sem, seval, ab_, aa_, ag_, am_, an_, ac_]; rfl) ?_ ?_)
  ·(first | trivial | (simp; done) | (simp only [T3_, T4_] at h11 h16; and_intros <;> first | omega | (simp; done) | (simp; omega)))
  refine .can (Can.ownSlot 2 60 47 4 (by simp only [go_sem, seval, ab_, aa_, ag_, am_, an_, ac_] <;> rfl) (by simp only [go_sem, seval, ab_, aa_, ag_, am_, an_, ac_]) (by simp only [go_sem, seval, ab_, aa_, ag_, am_, an_, ac_] <;> rfl)) ?_
  refine .ret ⟨.inr rfl, ?_⟩
  exact Out.mem' (by simp only [Tryz.results14]; rfl) (by simp only [a1_, a9_, go_sem, seval, ab_, aa_, ag_, am_, an_, ac_]) (by simp only [a8_, rns, rn, go_sem, seval, ab_, aa_, ag_, am_, an_, ac_] <;> (rw [show do_ s = [] by rw [hb, if_neg (by simp at h11; omega)]]; rfl)) (by simp) rfl (by decide) (by simp only [go_sem, seval, ab_, aa_, ag_, am_, an_, ac_]) (by simp only [ap_, go_sem, seval, ab_, aa_, ag_, am_, an_, ac_]) (by simp only [ah_, go_sem, seval, ab_, aa_, ag_, am_, an_, ac_] <;> (rw [show do_ s = [] by rw [hb, if_neg (by simp at h11; omega)]]; rfl))
 ·refine .skip (.seq (.seq (.rgn [] (by simp only [go_sem, seval, ab_, aa_, ag_, am_, an_, ac_]; rfl) ?_ ?_)))
  ·(first | trivial | (simp; done) | (simp only [T3_, T4_] at h11 h16; and_intros <;> first | omega | (simp; done) | (simp; omega)))
  refine .block (.loopK (fun k : Nat => ⟨[.no, .no, .no, .ow 60 4 0 k, .sl false (bo_ ls), .i .i64 k, .no, .no, .no, .no, .no, .no, .no, .no, .no, .no, .no, .no, .no, .no, .no, .no, .no, .no, .no, .no, .no, .no], bg_ [(60, ⟨47, 4, pgR ((ls.take k).map et_)⟩)], us [60]⟩) (fun k : Nat => k ≤ ls.length) (fun k : Nat => ls.length - k) (0) ?_ ?_ (fun k hI => ?_))
  ·simp
  ·refine Can.trans (Can.ownSlot 3 60 47 4 (by simp only [go_sem, seval, ab_, aa_, ag_, am_, an_, ac_] <;> rfl) (by simp only [go_sem, seval, ab_, aa_, ag_, am_, an_, ac_]) (by simp only [go_sem, seval, ab_, aa_, ag_, am_, an_, ac_] <;> rfl)) ?_
   exact Can.weak (Weak.lit (by simp only [go_sem, seval, ab_, aa_, ag_, am_, an_, ac_, av_, leV, at_, au_, V.inn, us, T9_, Ta_] <;> ((try simp))) (by simp only [go_sem, seval, ab_, aa_, ag_, am_, an_, ac_, av_, leV, at_, au_, V.inn, us, T9_, Ta_]) (by simp only [go_sem, seval, ab_, aa_, ag_, am_, an_, ac_, av_, leV, at_, au_, V.inn, us, T9_, Ta_] <;> ((try simp [pgR]))))
  refine .seq (.seq (.rgn [] (by simp only [go_sem, seval, ab_, aa_, ag_, am_, an_, ac_]; rfl) ?_ ?_))
  ·(first | trivial | (simp; done) | (simp only [T3_, T4_] at h11 h16; and_intros <;> first | omega | (simp; done) | (simp; omega)))
  refine .condB (by simp only [go_sem, seval, ab_, aa_, ag_, am_, an_, ac_]; rfl) (by simp only [go_sem, seval, ab_, aa_, ag_, am_, an_, ac_]) (fun h16 => ?_) (fun h16 => ?_)
  ·refine .skip (.seq (.block (.rgn [cf_ (k < ls.length) (fun h => aam_ (ls.getD k []) (by have := hM _ (bk_ (d := []) h); omega))] (by simp only [go_sem, seval, ab_, aa_, ag_, am_, an_, ac_, b8_ (show k < ls.length by simpa using h16)]; rfl) ?_ ?_)))
   ·(first | trivial | (simp; done) | (simp only [T3_, T4_] at h11 h16; and_intros <;> first | omega | (simp; done) | (simp; omega)))
   refine .rgn [] (by simp only [go_sem, seval, ab_, aa_, ag_, am_, an_, ac_]; rfl) ?_ ?_
   ·(first | trivial | (simp; done) | (simp only [T3_, T4_] at h11 h16; and_intros <;> first | omega | (simp; done) | (simp; omega)))
   refine Exists.intro (k + 1) ⟨?_, ?_, ?_⟩
   ·simp at h16; omega
   ·simp at h16; omega
   refine Can.trans (Can.swap 36 60 (by decide) (by decide) (by decide) (by decide) (by simp only [go_sem, seval, ab_, aa_, ag_, am_, an_, ac_, V.cl]) (by simp only [go_sem, seval, ab_, aa_, ag_, am_, an_, ac_, V.cl]) (by simp only [go_sem, seval, ab_, aa_, ag_, am_, an_, ac_, bl_, sw, swM, rnB] <;> rfl) (by simp only [go_sem, seval, ab_, aa_, ag_, am_, an_, ac_, bl_, sw, swM, rnB] <;> rfl) (by simp only [go_sem, seval, ab_, aa_, ag_, am_, an_, ac_, bl_, sw, swM, rnB] <;> rfl)) ?_
   exact Can.weak (Weak.lit (by simp only [go_sem, seval, ab_, aa_, ag_, am_, an_, ac_, av_, leV, at_, au_, V.inn, us, T9_, Ta_] <;> (rw [bh_ (by simp at h16; omega) (by simp at h16; omega)]; (try simp))) (by simp only [go_sem, seval, ab_, aa_, ag_, am_, an_, ac_, av_, leV, at_, au_, V.inn, us, T9_, Ta_]) (by simp only [go_sem, seval, ab_, aa_, ag_, am_, an_, ac_, av_, leV, at_, au_, V.inn, us, T9_, Ta_] <;> (rw [bkTk (by simpa using h16), an_])))
  ·refine .exit (.seq (.rgn [] (by simp only [go_sem, seval, ab_, aa_, ag_, am_, an_, ac_]; rfl) ?_ ?_))
   ·(first | trivial | (simp; done) | (simp only [T3_, T4_] at h11 h16; and_intros <;> first | omega | (simp; done) | (simp; omega)))
   refine .ret ⟨.inr rfl, ?_⟩
   exact Out.mem' (by simp only [Tryz.results14]; rfl) (by simp only [a1_, a9_, go_sem, seval, ab_, aa_, ag_, am_, an_, ac_]) (by simp only [a8_, rns, rn, go_sem, seval, ab_, aa_, ag_, am_, an_, ac_] <;> (simp only [T4_] at h11 h16; rw [show do_ s = ls.map et_ by rw [hb, if_pos (by omega)], List.length_map, show k = ls.length by omega])) (by simp) rfl (by decide) (by simp only [go_sem, seval, ab_, aa_, ag_, am_, an_, ac_]) (by simp only [ap_, go_sem, seval, ab_, aa_, ag_, am_, an_, ac_]) (by simp only [ah_, go_sem, seval, ab_, aa_, ag_, am_, an_, ac_] <;> (simp only [T4_] at h11 h16; rw [show do_ s = ls.map et_ by rw [hb, if_pos (by omega)], T1_ (show ls.length ≤ k by omega)]))
theorem abo_ (s : Str) (hs : s.length ≤ 281474976710656) : ACall En 14 [.s s] [] [.sl false (pgR (do_ s))] [] :=
 (x2_ s hs).frz1 (by simp [gd_, frz, am_, T1_])
end
section
set_option maxRecDepth 100000
set_option maxHeartbeats 4000000
end
end Go.Proofs.YtpikbndepapbhaaGreatDoor
