/- Books: what the program's tell. Conditions: none. -/
import Derived.Test.YtilppnadkfgnfaaGreatDoorK12
import Derived.Test.YtilppnadkfgnfaaGreatDoorK1
import Derived.Test.YtilppnadkfgnfaaGreatDoorK4
set_option linter.unusedVariables false
set_option linter.unusedSimpArgs false
namespace Go.Proofs.YtilppnadkfgnfaaGreatDoor
section
set_option maxRecDepth 100000
set_option maxHeartbeats 4000000
theorem rg_ {l : List Pg} {f : Pg → Str} (h : cl_ l = true) (hf : ∀ p, okP p = true → (f p).length ≤ 120) : (cb_ (l.map f)).length ≤ 3000 ∧ (l.map f).length ≤ 16 := by
 have h1 := (co_ h).2.1
 have := pj_ (l := l.map f) (k := 120) fun s hs => by
  obtain ⟨p, hp, rfl⟩ := List.mem_map.1 hs
  exact hf p (hc_ h p hp)
 rw [List.length_map] at this
 have := Nat.mul_le_mul_right 121 h1
 exact ⟨by omega, by rw [List.length_map]; exact h1⟩
theorem uf_ (F : Nat) (f : Pg → Str) (hF : ∀ p : Pg, ACall En F [.ag (pgC p)] [] [.s (f p)] []) (hf : ∀ p, okP p = true → (f p).length ≤ 120) (l : List Pg) (hs : ∀ p ∈ l, pgB p) (hl : l.length ≤ 1000000) : ACall En 66 [.sl false (pgR l), .fn (.func F) [] []] [] [.s (if cl_ l then cb_ (l.map f) else [])] [] := by
 have hp : ∀ k, b4_ (eh_ (bn_ (l.map f)) [.s []] k) = true := fun k => gy_ (aa_ _) rfl
 have hll : (bn_ (l.map f)).length = l.length := by simp [bn_]
 have hf1 : ∀ k, k < l.length → (l.map f).getD k [] = f (l.getD k Pg0) := fun k h => by simp [T8_, T6_ h]
 refine al_ (fn := Tryz.f66) [] Tryz.func66 rfl rfl (by simp) fun C => ?_
 rw [ay_]
 simp only [Tryz.ntmps66, T7_, List.length_nil, Nat.reduceAdd, Nat.reduceSub, List.replicate_succ, List.replicate_zero, List.cons_append, List.nil_append, bp_]
 refine .seq (.rgn [] (by simp only [go_sem, seval, af_, ad_, ah_, aa_, ac_, hp, hll, aw_, a2_]; rfl) ?_ ?_)
 ·(first | trivial | (simp; done) | (simp only [T3_] at h17; and_intros <;> omega) | (and_intros <;> omega))
 refine .seq (.seq (.rgn [a4_ (m3_ l hs hl)] (by simp only [go_sem, seval, af_, ad_, ah_, aa_, ac_, hp, hll, aw_, a2_]; rfl) ?_ ?_))
 ·(first | trivial | (simp; done) | (simp only [T3_] at h17; and_intros <;> omega) | (and_intros <;> omega))
 refine .condB (by simp only [go_sem, seval, af_, ad_, ah_, aa_, ac_, hp, hll, aw_, a2_]; rfl) (by simp only [go_sem, seval, af_, ad_, ah_, aa_, ac_, hp, hll, aw_, a2_]) (fun h10 => ?_) (fun h10 => ?_)
 ·refine .seq (.rgn [] (by simp only [go_sem, seval, af_, ad_, ah_, aa_, ac_, hp, hll, aw_, a2_]; rfl) ?_ ?_)
  ·(first | trivial | (simp; done) | (simp only [T3_] at h17; and_intros <;> omega) | (and_intros <;> omega))
  refine .ret ⟨.inr rfl, ?_⟩
  exact Out.plain (by simp only [Tryz.results66]; rfl) (by simp only [az_, a7_, go_sem, seval, af_, ad_, ah_, aa_, ac_, hp, hll, aw_, a2_] <;> (split <;> rfl)) (by simp only [a5_, go_sem, seval, af_, ad_, ah_, aa_, ac_, hp, hll, aw_, a2_] <;> (simp at h10; simp [h10])) (by simp only [go_sem, seval, af_, ad_, ah_, aa_, ac_, hp, hll, aw_, a2_])
 ·refine .skip (.seq (.rgn [] (by simp only [go_sem, seval, af_, ad_, ah_, aa_, ac_, hp, hll, aw_, a2_]; rfl) ?_ ?_))
  ·(first | trivial | (simp; done) | (simp only [T3_] at h17; and_intros <;> omega) | (and_intros <;> omega))
  refine .seq (.seq (.rgn [] (by simp only [go_sem, seval, af_, ad_, ah_, aa_, ac_, hp, hll, aw_, a2_]; rfl) ?_ ?_))
  ·(first | trivial | (simp; done) | (simp only [T3_] at h17; and_intros <;> omega) | (and_intros <;> omega))
  refine .block (.loopK (fun k : Nat => ⟨[.no, .fn (.func F) [] [], .no, .no, .no, .ow 23 1 0 l.length, .no, .no, .no, .no, .no, .no, .no, .no, .sl false (pgR l), .i .i64 l.length, .i .i64 k, .no, .no, .no, .no, .no, .no, .no, .no, .no, .no, .no, .no, .no], bc_ [(23, ⟨9, 1, eh_ (bn_ (l.map f)) [.s []] k⟩)], us [23]⟩) (fun k : Nat => k ≤ l.length ∧ cl_ l = true) (fun k : Nat => l.length - k) (0) ?_ ?_ (fun k hI => ?_))
  ·exact ⟨by simp, by simpa using h10⟩
  ·exact Can.weak (Weak.lit (by simp only [go_sem, seval, af_, ad_, ah_, aa_, ac_, hp, hll, aw_, a2_, as_, leV, aq_, ar_, V.inn, us, T9_, Ta_] <;> (simp)) (by simp only [go_sem, seval, af_, ad_, ah_, aa_, ac_, hp, hll, aw_, a2_, as_, leV, aq_, ar_, V.inn, us, T9_, Ta_]) (by simp only [go_sem, seval, af_, ad_, ah_, aa_, ac_, hp, hll, aw_, a2_, as_, leV, aq_, ar_, V.inn, us, T9_, Ta_] <;> (simp [gx_, hll])))
  refine .seq (.rgn [] (by simp only [go_sem, seval, af_, ad_, ah_, aa_, ac_, hp, hll, aw_, a2_]; rfl) ?_ ?_)
  ·(first | trivial | (simp; done) | (simp only [T3_] at h17; and_intros <;> omega) | (and_intros <;> omega))
  refine .seq (.condB (by simp only [go_sem, seval, af_, ad_, ah_, aa_, ac_, hp, hll, aw_, a2_]; rfl) (by simp only [go_sem, seval, af_, ad_, ah_, aa_, ac_, hp, hll, aw_, a2_]) (fun h17 => ?_) (fun h17 => ?_))
  ·refine .skip (.seq (.block (.seq (.rgn [] (by simp only [go_sem, seval, af_, ad_, ah_, aa_, ac_, hp, hll, aw_, a2_, cw_ (show k < l.length by simpa using h17)]; rfl) ?_ ?_))))
   ·(first | trivial | (simp; done) | (simp only [T3_] at h17; and_intros <;> omega) | (and_intros <;> omega))
   refine .rgn [cg_ (k < l.length) (fun h => hF (l.getD k Pg0))] (by simp only [go_sem, seval, af_, ad_, ah_, aa_, ac_, hp, hll, aw_, a2_]; rfl) ?_ ?_
   ·(first | trivial | (simp; done) | (simp only [T3_] at h17; and_intros <;> omega) | (and_intros <;> omega))
   refine .rgn [] (by simp only [go_sem, seval, af_, ad_, ah_, aa_, ac_, hp, hll, aw_, a2_]; rfl) ?_ ?_
   ·(first | trivial | (simp; done) | (simp only [T3_] at h17; and_intros <;> omega) | (and_intros <;> omega))
   refine Exists.intro (k + 1) ⟨?_, ?_, ?_⟩
   ·simp at h17; exact ⟨by omega, hI.2⟩
   ·simp at h17; omega
   exact Can.weak (Weak.lit (by simp only [go_sem, seval, af_, ad_, ah_, aa_, ac_, hp, hll, aw_, a2_, as_, leV, aq_, ar_, V.inn, us, T9_, Ta_] <;> (rw [bf_ (by simp at h17; omega) (by simp at h17; omega)]; simp)) (by simp only [go_sem, seval, af_, ad_, ah_, aa_, ac_, hp, hll, aw_, a2_, as_, leV, aq_, ar_, V.inn, us, T9_, Ta_]) (by simp only [go_sem, seval, af_, ad_, ah_, aa_, ac_, hp, hll, aw_, a2_, as_, leV, aq_, ar_, V.inn, us, T9_, Ta_] <;> ((simp only [T3_] at h17); rw [← hd_ (by rw [hll]; omega), b6_ (by rw [List.length_map]; omega), hf1 _ (by omega)])))
  ·refine .exit (.seq (.rgn [x2_ (cl_ l = true) (fun h => wj_ (l.map f) (by have := (rg_ h hf).1; omega) (by have := (rg_ h hf).2; omega))] (by simp only [go_sem, seval, af_, ad_, ah_, aa_, ac_, hp, hll, aw_, a2_]; rfl) ?_ ?_))
   ·simp only [T4_] at h17; refine ⟨?_, hI.2⟩; rw [id_ (by rw [hll]; omega), T1_ (by rw [hll]; exact Nat.le_refl _)]; exact bd_ _
   refine .ret ⟨.inr rfl, ?_⟩
   exact Out.plain (by simp only [Tryz.results66]; rfl) (by simp only [az_, a7_, go_sem, seval, af_, ad_, ah_, aa_, ac_, hp, hll, aw_, a2_] <;> (split <;> rfl)) (by simp only [a5_, go_sem, seval, af_, ad_, ah_, aa_, ac_, hp, hll, aw_, a2_] <;> (simp [hI.2])) (by simp only [go_sem, seval, af_, ad_, ah_, aa_, ac_, hp, hll, aw_, a2_])
theorem wg_ (p : Pg) : ACall En 67 [.ag (pgC p)] [] [.s p.line] [] := by
 refine al_ (fn := Tryz.f67) [] Tryz.func67 rfl rfl (by simp) fun C => ?_
 rw [ay_]
 simp only [Tryz.ntmps67, T7_, List.length_nil, Nat.reduceAdd, Nat.reduceSub, List.replicate_succ, List.replicate_zero, List.cons_append, List.nil_append, bp_]
 refine .seq (.rgn [] (by simp only [go_sem, seval, ah_, ac_]; rfl) ?_ ?_)
 ·first | trivial | simp
 refine .seq (.rgn [] (by simp only [go_sem, seval, ah_, ac_]; rfl) ?_ ?_)
 ·first | trivial | simp
 refine .ret ⟨.inr rfl, ?_⟩
 exact Out.plain (by simp only [Tryz.results67]; rfl) (by simp only [az_, a7_, go_sem, seval, ah_, ac_] <;> (split <;> rfl)) (by simp only [a5_, go_sem, seval, ah_, ac_] <;> (simp_all)) (by simp only [go_sem, seval, ah_, ac_])
theorem ut_ (p : Pg) : ACall En 69 [.ag (pgC p)] [] [.s p.text] [] := by
 refine al_ (fn := Tryz.f69) [] Tryz.func69 rfl rfl (by simp) fun C => ?_
 rw [ay_]
 simp only [Tryz.ntmps69, T7_, List.length_nil, Nat.reduceAdd, Nat.reduceSub, List.replicate_succ, List.replicate_zero, List.cons_append, List.nil_append, bp_]
 refine .seq (.rgn [] (by simp only [go_sem, seval, ah_, ac_]; rfl) ?_ ?_)
 ·first | trivial | simp
 refine .seq (.rgn [] (by simp only [go_sem, seval, ah_, ac_]; rfl) ?_ ?_)
 ·first | trivial | simp
 refine .ret ⟨.inr rfl, ?_⟩
 exact Out.plain (by simp only [Tryz.results69]; rfl) (by simp only [az_, a7_, go_sem, seval, ah_, ac_] <;> (split <;> rfl)) (by simp only [a5_, go_sem, seval, ah_, ac_] <;> (simp_all)) (by simp only [go_sem, seval, ah_, ac_])
theorem aaa_ (l : List Pg) (hs : ∀ p ∈ l, pgB p) (hl : l.length ≤ 1000000) : ACall En 22 [.sl false (pgR l)] [] [.s (f2_ l)] [] := by
 refine al_ (fn := Tryz.f22) [] Tryz.func22 rfl rfl (by simp) fun C => ?_
 rw [ay_]
 simp only [Tryz.ntmps22, T7_, List.length_nil, Nat.reduceAdd, Nat.reduceSub, List.replicate_succ, List.replicate_zero, List.cons_append, List.nil_append, bp_]
 refine .seq (.rgn [] (by simp only [go_sem, seval, ad_]; rfl) ?_ ?_)
 ·first | trivial | simp
 refine .seq (.rgn [a4_ (uf_ _ (·.line) wg_ (fun p hp => (j0_ (ih_ hp).1).2) l hs hl)] (by simp only [go_sem, seval, ad_]; rfl) ?_ ?_)
 ·first | trivial | simp
 refine .ret ⟨.inr rfl, ?_⟩
 exact Out.plain (by simp only [Tryz.results22]; rfl) (by simp only [az_, a7_, go_sem, seval, ad_] <;> (split <;> rfl)) (by simp only [a5_, go_sem, seval, ad_] <;> (rfl)) (by simp only [go_sem, seval, ad_])
theorem sn_ (l : List Pg) (hs : ∀ p ∈ l, pgB p) (hl : l.length ≤ 1000000) : ACall En 26 [.sl false (pgR l)] [] [.s (ji_ l)] [] := by
 refine al_ (fn := Tryz.f26) [] Tryz.func26 rfl rfl (by simp) fun C => ?_
 rw [ay_]
 simp only [Tryz.ntmps26, T7_, List.length_nil, Nat.reduceAdd, Nat.reduceSub, List.replicate_succ, List.replicate_zero, List.cons_append, List.nil_append, bp_]
 refine .seq (.rgn [] (by simp only [go_sem, seval, ad_]; rfl) ?_ ?_)
 ·first | trivial | simp
 refine .seq (.rgn [a4_ (uf_ _ (·.text) ut_ (fun p hp => by rw [(gs_ hp).1]; exact (h0_ _).2) l hs hl)] (by simp only [go_sem, seval, ad_]; rfl) ?_ ?_)
 ·first | trivial | simp
 refine .ret ⟨.inr rfl, ?_⟩
 exact Out.plain (by simp only [Tryz.results26]; rfl) (by simp only [az_, a7_, go_sem, seval, ad_] <;> (split <;> rfl)) (by simp only [a5_, go_sem, seval, ad_] <;> (rfl)) (by simp only [go_sem, seval, ad_])
theorem lr_ {l : List Pg} {k : Nat} (h : (l.getD k Pg0).good = false) : d9_ l (k + 1) = d9_ l k ++ [(k : Int)] := by rw [d9_, h]; rfl
theorem aah_ (l : List Pg) (hs : ∀ p ∈ l, pgB p) (hl : l.length ≤ 1000000) : ACall En 24 [.sl false (pgR l)] [] [.sl false (inR (nf_ l))] [] := by
 have hB := fun k => mb_ l k
 refine al_ (fn := Tryz.f24) [] Tryz.func24 rfl rfl (by simp) fun C => ?_
 rw [ay_]
 simp only [Tryz.ntmps24, T7_, List.length_nil, Nat.reduceAdd, Nat.reduceSub, List.replicate_succ, List.replicate_zero, List.cons_append, List.nil_append, bp_]
 refine .seq (.rgn [] (by simp only [go_sem, seval, af_, ad_, ah_, ac_, ai_, aj_, ao_]; rfl) ?_ ?_)
 ·(first | trivial | (simp; done) | (simp only [T3_] at h12; and_intros <;> omega) | (have := hB k; simp [ai_]; omega))
 refine .seq (.seq (.rgn [a4_ (m3_ l hs hl)] (by simp only [go_sem, seval, af_, ad_, ah_, ac_, ai_, aj_, ao_]; rfl) ?_ ?_))
 ·(first | trivial | (simp; done) | (simp only [T3_] at h12; and_intros <;> omega) | (have := hB k; simp [ai_]; omega))
 refine .condB (by simp only [go_sem, seval, af_, ad_, ah_, ac_, ai_, aj_, ao_]; rfl) (by simp only [go_sem, seval, af_, ad_, ah_, ac_, ai_, aj_, ao_]) (fun h8 => ?_) (fun h8 => ?_)
 ·refine .seq (.rgn [] (by simp only [go_sem, seval, af_, ad_, ah_, ac_, ai_, aj_, ao_]; rfl) ?_ ?_)
  ·(first | trivial | (simp; done) | (simp only [T3_] at h12; and_intros <;> omega) | (have := hB k; simp [ai_]; omega))
  refine .ret ⟨.inr rfl, ?_⟩
  exact Out.plainL (by simp only [Tryz.results24]; rfl) (by simp only [az_, a7_, go_sem, seval, af_, ad_, ah_, ac_, ai_, aj_, ao_] <;> (split <;> rfl)) (by simp only [a5_, go_sem, seval, af_, ad_, ah_, ac_, ai_, aj_, ao_] <;> (simp at h8; simp [nf_, h8, inR, les, ler, leV])) (by simp only [go_sem, seval, af_, ad_, ah_, ac_, ai_, aj_, ao_])
 ·refine .skip (.seq (.rgn [] (by simp only [go_sem, seval, af_, ad_, ah_, ac_, ai_, aj_, ao_]; rfl) ?_ ?_))
  ·(first | trivial | (simp; done) | (simp only [T3_] at h12; and_intros <;> omega) | (have := hB k; simp [ai_]; omega))
  refine .seq (.seq (.rgn [] (by simp only [go_sem, seval, af_, ad_, ah_, ac_, ai_, aj_, ao_]; rfl) ?_ ?_))
  ·(first | trivial | (simp; done) | (simp only [T3_] at h12; and_intros <;> omega) | (have := hB k; simp [ai_]; omega))
  refine .block (.loopK (fun k : Nat => ⟨[.no, .no, .no, .ow 20 1 0 (d9_ l k).length, .no, .no, .no, .no, .no, .sl false (pgR l), .i .i64 l.length, .i .i64 k, .no, .no, .no, .no, .no, .no, .no, .no, .no, .no, .no, .no, .no, .no], bc_ [(20, ⟨3, 1, inR (d9_ l k)⟩)], us [20]⟩) (fun k : Nat => k ≤ l.length ∧ cl_ l = true) (fun k : Nat => l.length - k) (0) ?_ ?_ (fun k hI => ?_))
  ·exact ⟨by simp, by simpa using h8⟩
  ·refine Can.trans (Can.ownSlot 3 20 3 1 (by simp only [go_sem, seval, af_, ad_, ah_, ac_, ai_, aj_, ao_] <;> rfl) (by simp only [go_sem, seval, af_, ad_, ah_, ac_, ai_, aj_, ao_]) (by simp only [go_sem, seval, af_, ad_, ah_, ac_, ai_, aj_, ao_] <;> rfl)) ?_
   exact Can.weak (Weak.lit (by simp only [go_sem, seval, af_, ad_, ah_, ac_, ai_, aj_, ao_, as_, leV, aq_, ar_, V.inn, us, T9_, Ta_] <;> (simp [d9_])) (by simp only [go_sem, seval, af_, ad_, ah_, ac_, ai_, aj_, ao_, as_, leV, aq_, ar_, V.inn, us, T9_, Ta_]) (by simp only [go_sem, seval, af_, ad_, ah_, ac_, ai_, aj_, ao_, as_, leV, aq_, ar_, V.inn, us, T9_, Ta_] <;> (simp [d9_, inR])))
  refine .seq (.rgn [] (by simp only [go_sem, seval, af_, ad_, ah_, ac_, ai_, aj_, ao_]; rfl) ?_ ?_)
  ·(first | trivial | (simp; done) | (simp only [T3_] at h12; and_intros <;> omega) | (have := hB k; simp [ai_]; omega))
  refine .seq (.condB (by simp only [go_sem, seval, af_, ad_, ah_, ac_, ai_, aj_, ao_]; rfl) (by simp only [go_sem, seval, af_, ad_, ah_, ac_, ai_, aj_, ao_]) (fun h12 => ?_) (fun h12 => ?_))
  ·refine .skip (.seqJ (fun u : Unit => ⟨[.no, .no, .no, .ow 20 1 0 (d9_ l (k + 1)).length, .no, .no, .no, .no, .no, .sl false (pgR l), .i .i64 l.length, .i .i64 k, .no, .no, .no, .no, .no, .no, .no, .no, .no, .no, .no, .no, .no, .no], bc_ [(20, ⟨3, 1, inR (d9_ l (k + 1))⟩)], us [20]⟩) (fun u : Unit => True) ?_ (fun u hJ => ?_))
   ·refine .block (.seq (.rgn [] (by simp only [go_sem, seval, af_, ad_, ah_, ac_, ai_, aj_, ao_, cw_ (show k < l.length by simpa using h12)]; rfl) ?_ ?_))
    ·(first | trivial | (simp; done) | (simp only [T3_] at h12; and_intros <;> omega) | (have := hB k; simp [ai_]; omega))
    refine .seq (.rgn [] (by simp only [go_sem, seval, af_, ad_, ah_, ac_, ai_, aj_, ao_]; rfl) ?_ ?_)
    ·(first | trivial | (simp; done) | (simp only [T3_] at h12; and_intros <;> omega) | (have := hB k; simp [ai_]; omega))
    refine .condB (by simp only [go_sem, seval, af_, ad_, ah_, ac_, ai_, aj_, ao_]; rfl) (by simp only [go_sem, seval, af_, ad_, ah_, ac_, ai_, aj_, ao_]) (fun h18 => ?_) (fun h18 => ?_)
    ·refine .rgn [] (by simp only [go_sem, seval, af_, ad_, ah_, ac_, ai_, aj_, ao_]; rfl) ?_ ?_
     ·(first | trivial | (simp; done) | (simp only [T3_] at h12; and_intros <;> omega) | (have := hB k; simp [ai_]; omega))
     refine Exists.intro (()) ⟨?_, ?_⟩
     ·trivial
     refine Can.trans (Can.swap 32 20 (by decide) (by decide) (by decide) (by decide) (by simp only [go_sem, seval, af_, ad_, ah_, ac_, ai_, aj_, ao_, V.cl]) (by simp only [go_sem, seval, af_, ad_, ah_, ac_, ai_, aj_, ao_, V.cl]) (by simp only [go_sem, seval, af_, ad_, ah_, ac_, ai_, aj_, ao_, bi_, sw, swM, rnB] <;> rfl) (by simp only [go_sem, seval, af_, ad_, ah_, ac_, ai_, aj_, ao_, bi_, sw, swM, rnB] <;> rfl) (by simp only [go_sem, seval, af_, ad_, ah_, ac_, ai_, aj_, ao_, bi_, sw, swM, rnB] <;> rfl)) ?_
     exact Can.weak (Weak.lit (by simp only [go_sem, seval, af_, ad_, ah_, ac_, ai_, aj_, ao_, as_, leV, aq_, ar_, V.inn, us, T9_, Ta_] <;> (first | (rw [lj_ (i := k) (n := 0) (by simpa using h18)]; done) | (rw [ff_ (i := k) (by simpa using h18)]; done))) (by simp only [go_sem, seval, af_, ad_, ah_, ac_, ai_, aj_, ao_, as_, leV, aq_, ar_, V.inn, us, T9_, Ta_]) (by simp only [go_sem, seval, af_, ad_, ah_, ac_, ai_, aj_, ao_, as_, leV, aq_, ar_, V.inn, us, T9_, Ta_] <;> (first | (rw [lr_ (k := k) (by simpa using h18), jz_]; done) | (rw [ff_ (i := k) (by simpa using h18)]; done))))
    ·refine .skip ?_
     refine Exists.intro (()) ⟨?_, ?_⟩
     ·trivial
     exact Can.weak (Weak.lit (by simp only [go_sem, seval, af_, ad_, ah_, ac_, ai_, aj_, ao_, as_, leV, aq_, ar_, V.inn, us, T9_, Ta_] <;> (first | (rw [lj_ (i := k) (n := 0) (by simpa using h18)]; done) | (rw [ff_ (i := k) (by simpa using h18)]; done))) (by simp only [go_sem, seval, af_, ad_, ah_, ac_, ai_, aj_, ao_, as_, leV, aq_, ar_, V.inn, us, T9_, Ta_]) (by simp only [go_sem, seval, af_, ad_, ah_, ac_, ai_, aj_, ao_, as_, leV, aq_, ar_, V.inn, us, T9_, Ta_] <;> (first | (rw [lr_ (k := k) (by simpa using h18), jz_]; done) | (rw [ff_ (i := k) (by simpa using h18)]; done))))
   refine .rgn [] (by simp only [go_sem, seval, af_, ad_, ah_, ac_, ai_, aj_, ao_]; rfl) ?_ ?_
   ·(first | trivial | (simp; done) | (simp only [T3_] at h12; and_intros <;> omega) | (have := hB k; simp [ai_]; omega))
   refine Exists.intro (k + 1) ⟨?_, ?_, ?_⟩
   ·simp at h12; exact ⟨by omega, hI.2⟩
   ·simp at h12; omega
   exact Can.weak (Weak.lit (by simp only [go_sem, seval, af_, ad_, ah_, ac_, ai_, aj_, ao_, as_, leV, aq_, ar_, V.inn, us, T9_, Ta_] <;> (rw [bf_ (by simp at h12; omega) (by simp at h12; omega)]; simp)) (by simp only [go_sem, seval, af_, ad_, ah_, ac_, ai_, aj_, ao_, as_, leV, aq_, ar_, V.inn, us, T9_, Ta_]) (by simp only [go_sem, seval, af_, ad_, ah_, ac_, ai_, aj_, ao_, as_, leV, aq_, ar_, V.inn, us, T9_, Ta_]))
  ·refine .exit (.seq (.rgn [bu_ [20] [] (yz_ (d9_ l l.length) (by have := hB l.length; omega))] (by simp only [go_sem, seval, af_, ad_, ah_, ac_, ai_, aj_, ao_]; rfl) ?_ ?_))
   ·simp only [T4_] at h12; (obtain rfl : k = l.length := (by omega)); simp
   refine .frz 20 (by simp only [go_sem, seval, af_, ad_, ah_, ac_, ai_, aj_, ao_]; rfl) (by simp only [go_sem, seval, af_, ad_, ah_, ac_, ai_, aj_, ao_]) (by simp only [go_sem, seval, af_, ad_, ah_, ac_, ai_, aj_, ao_]; rfl) (by simp only [go_sem, seval, af_, ad_, ah_, ac_, ai_, aj_, ao_]; rfl) ?_
   refine .ret ⟨.inr rfl, ?_⟩
   exact Out.plainL (by simp only [Tryz.results24]; rfl) (by simp only [az_, a7_, go_sem, seval, af_, ad_, ah_, ac_, ai_, aj_, ao_] <;> (split <;> rfl)) (by simp only [a5_, go_sem, seval, af_, ad_, ah_, ac_, ai_, aj_, ao_] <;> (rw [T1_ (by rw [ai_]; exact Nat.le_refl _)]; simp [nf_, hI.2, les, leV, bd_])) (by simp only [go_sem, seval, af_, ad_, ah_, ac_, ai_, aj_, ao_])
theorem aax_ (l : List Pg) (hs : ∀ p ∈ l, pgB p) (hl : l.length ≤ 1000000) : ACall En 16 [.sl false (pgR l)] [] [.sl false (sgR (el_ l))] [] := by
 have hE : ∀ k, cl_ l = true ∧ k < l.length → ACall En 52 [.i .i64 k, .s (l.getD k Pg0).text, .sl false (inR (l.getD k Pg0).frm)] [] [.sl false (sgR (sgs k ((br_ (l.getD k Pg0).text).getD []) (l.getD k Pg0).frm))] [] := fun k h => by
  obtain ⟨q1, q2, _⟩ := gs_ ((co_ h.1).2.2 k h.2)
  have hk := qq_ (l.getD k Pg0).line
  rw [q1, q2]
  exact ade_ k _ _ (by have := ak2_ hk; omega) (by rw [pg_ hk]; exact Nat.le_refl _) (by have := sr_ hk; omega)
 have hN : ∀ k, cl_ l = true → k ≤ l.length → (d8_ l k).length ≤ 2000 := fun k h hk => by
  rw [s5_ h k hk]
  have := x7_ (yg_ h) (k := k) (by rw [il_]; exact hk)
  have := (co_ h).2.1
  omega
 refine al_ (fn := Tryz.f16) [] Tryz.func16 rfl rfl (by simp) fun C => ?_
 rw [ay_]
 simp only [Tryz.ntmps16, T7_, List.length_nil, Nat.reduceAdd, Nat.reduceSub, List.replicate_succ, List.replicate_zero, List.cons_append, List.nil_append, bp_]
 refine .seq (.rgn [] (by simp only [go_sem, seval, af_, ad_, ah_, ac_, au_, a0_]; rfl) ?_ ?_)
 ·(first | trivial | (simp; done) | (simp only [T3_] at h12; have hk : k < l.length := (by omega); have q1 := hN k hI.2 (by omega); have q2 := e7_ k ((br_ (l.getD k Pg0).text).getD []) (l.getD k Pg0).frm; have q3 := (hs _ (bj_ (d := Pg0) hk)).2.2; first | (and_intros <;> omega) | exact ⟨⟨hI.2, hk⟩, of_eq_true (ed_ _), by simp, by omega⟩))
 refine .seq (.seq (.rgn [a4_ (m3_ l hs hl)] (by simp only [go_sem, seval, af_, ad_, ah_, ac_, au_, a0_]; rfl) ?_ ?_))
 ·(first | trivial | (simp; done) | (simp only [T3_] at h12; have hk : k < l.length := (by omega); have q1 := hN k hI.2 (by omega); have q2 := e7_ k ((br_ (l.getD k Pg0).text).getD []) (l.getD k Pg0).frm; have q3 := (hs _ (bj_ (d := Pg0) hk)).2.2; first | (and_intros <;> omega) | exact ⟨⟨hI.2, hk⟩, of_eq_true (ed_ _), by simp, by omega⟩))
 refine .condB (by simp only [go_sem, seval, af_, ad_, ah_, ac_, au_, a0_]; rfl) (by simp only [go_sem, seval, af_, ad_, ah_, ac_, au_, a0_]) (fun h8 => ?_) (fun h8 => ?_)
 ·refine .seq (.rgn [] (by simp only [go_sem, seval, af_, ad_, ah_, ac_, au_, a0_]; rfl) ?_ ?_)
  ·(first | trivial | (simp; done) | (simp only [T3_] at h12; have hk : k < l.length := (by omega); have q1 := hN k hI.2 (by omega); have q2 := e7_ k ((br_ (l.getD k Pg0).text).getD []) (l.getD k Pg0).frm; have q3 := (hs _ (bj_ (d := Pg0) hk)).2.2; first | (and_intros <;> omega) | exact ⟨⟨hI.2, hk⟩, of_eq_true (ed_ _), by simp, by omega⟩))
  refine .ret ⟨.inr rfl, ?_⟩
  exact Out.plainL (by simp only [Tryz.results16]; rfl) (by simp only [az_, a7_, go_sem, seval, af_, ad_, ah_, ac_, au_, a0_] <;> (split <;> rfl)) (by simp only [a5_, go_sem, seval, af_, ad_, ah_, ac_, au_, a0_] <;> (simp at h8; simp [el_, h8, sgR, ler])) (by simp only [go_sem, seval, af_, ad_, ah_, ac_, au_, a0_])
 ·refine .skip (.seq (.rgn [] (by simp only [go_sem, seval, af_, ad_, ah_, ac_, au_, a0_]; rfl) ?_ ?_))
  ·(first | trivial | (simp; done) | (simp only [T3_] at h12; have hk : k < l.length := (by omega); have q1 := hN k hI.2 (by omega); have q2 := e7_ k ((br_ (l.getD k Pg0).text).getD []) (l.getD k Pg0).frm; have q3 := (hs _ (bj_ (d := Pg0) hk)).2.2; first | (and_intros <;> omega) | exact ⟨⟨hI.2, hk⟩, of_eq_true (ed_ _), by simp, by omega⟩))
  refine .seqJ (fun u : Unit => ⟨[.no, .no, .no, .sl false (sgR (d8_ l l.length)), .no, .no, .no, .no, .no, .no, .no, .no, .no, .no, .no, .no, .no, .no, .no, .no, .no, .no, .no, .no, .no, .no, .no, .no, .no], bc_ [], us []⟩) (fun u : Unit => cl_ l = true) ?_ (fun u hJ => ?_)
  ·refine .seq (.rgn [] (by simp only [go_sem, seval, af_, ad_, ah_, ac_, au_, a0_]; rfl) ?_ ?_)
   ·(first | trivial | (simp; done) | (simp only [T3_] at h12; have hk : k < l.length := (by omega); have q1 := hN k hI.2 (by omega); have q2 := e7_ k ((br_ (l.getD k Pg0).text).getD []) (l.getD k Pg0).frm; have q3 := (hs _ (bj_ (d := Pg0) hk)).2.2; first | (and_intros <;> omega) | exact ⟨⟨hI.2, hk⟩, of_eq_true (ed_ _), by simp, by omega⟩))
   refine .block (.loopK (fun k : Nat => ⟨[.no, .no, .no, .ow 20 4 0 (d8_ l k).length, .no, .no, .no, .no, .no, .sl false (pgR l), .i .i64 l.length, .i .i64 k, .no, .no, .no, .no, .no, .no, .no, .no, .no, .no, .no, .no, .no, .no, .no, .no, .no], bc_ [(20, ⟨32, 4, sgR (d8_ l k)⟩)], us [20]⟩) (fun k : Nat => k ≤ l.length ∧ cl_ l = true) (fun k : Nat => l.length - k) (0) ?_ ?_ (fun k hI => ?_))
   ·exact ⟨by simp, by simpa using h8⟩
   ·refine Can.trans (Can.ownSlot 3 20 32 4 (by simp only [go_sem, seval, af_, ad_, ah_, ac_, au_, a0_] <;> rfl) (by simp only [go_sem, seval, af_, ad_, ah_, ac_, au_, a0_]) (by simp only [go_sem, seval, af_, ad_, ah_, ac_, au_, a0_] <;> rfl)) ?_
    exact Can.weak (Weak.lit (by simp only [go_sem, seval, af_, ad_, ah_, ac_, au_, a0_, as_, leV, aq_, ar_, V.inn, us, T9_, Ta_] <;> (simp [d8_])) (by simp only [go_sem, seval, af_, ad_, ah_, ac_, au_, a0_, as_, leV, aq_, ar_, V.inn, us, T9_, Ta_]) (by simp only [go_sem, seval, af_, ad_, ah_, ac_, au_, a0_, as_, leV, aq_, ar_, V.inn, us, T9_, Ta_] <;> (simp [d8_, sgR])))
   refine .seq (.rgn [] (by simp only [go_sem, seval, af_, ad_, ah_, ac_, au_, a0_]; rfl) ?_ ?_)
   ·(first | trivial | (simp; done) | (simp only [T3_] at h12; have hk : k < l.length := (by omega); have q1 := hN k hI.2 (by omega); have q2 := e7_ k ((br_ (l.getD k Pg0).text).getD []) (l.getD k Pg0).frm; have q3 := (hs _ (bj_ (d := Pg0) hk)).2.2; first | (and_intros <;> omega) | exact ⟨⟨hI.2, hk⟩, of_eq_true (ed_ _), by simp, by omega⟩))
   refine .seq (.condB (by simp only [go_sem, seval, af_, ad_, ah_, ac_, au_, a0_]; rfl) (by simp only [go_sem, seval, af_, ad_, ah_, ac_, au_, a0_]) (fun h12 => ?_) (fun h12 => ?_))
   ·refine .skip (.seqJ (fun u : Unit => ⟨[.no, .no, .no, .ow 20 4 0 (d8_ l (k + 1)).length, .no, .no, .no, .no, .no, .sl false (pgR l), .i .i64 l.length, .i .i64 k, .no, .no, .no, .no, .no, .no, .no, .no, .no, .no, .no, .no, .no, .no, .no, .no, .no], bc_ [(20, ⟨32, 4, sgR (d8_ l (k + 1))⟩)], us [20]⟩) (fun u : Unit => True) ?_ (fun u hJ => ?_))
    ·refine .block (.seq (.rgn [] (by simp only [go_sem, seval, af_, ad_, ah_, ac_, au_, a0_, cw_ (show k < l.length by simpa using h12)]; rfl) ?_ ?_))
     ·(first | trivial | (simp; done) | (simp only [T3_] at h12; have hk : k < l.length := (by omega); have q1 := hN k hI.2 (by omega); have q2 := e7_ k ((br_ (l.getD k Pg0).text).getD []) (l.getD k Pg0).frm; have q3 := (hs _ (bj_ (d := Pg0) hk)).2.2; first | (and_intros <;> omega) | exact ⟨⟨hI.2, hk⟩, of_eq_true (ed_ _), by simp, by omega⟩))
     refine .seq (.rgn [] (by simp only [go_sem, seval, af_, ad_, ah_, ac_, au_, a0_]; rfl) ?_ ?_)
     ·(first | trivial | (simp; done) | (simp only [T3_] at h12; have hk : k < l.length := (by omega); have q1 := hN k hI.2 (by omega); have q2 := e7_ k ((br_ (l.getD k Pg0).text).getD []) (l.getD k Pg0).frm; have q3 := (hs _ (bj_ (d := Pg0) hk)).2.2; first | (and_intros <;> omega) | exact ⟨⟨hI.2, hk⟩, of_eq_true (ed_ _), by simp, by omega⟩))
     refine .condB (by simp only [go_sem, seval, af_, ad_, ah_, ac_, au_, a0_]; rfl) (by simp only [go_sem, seval, af_, ad_, ah_, ac_, au_, a0_]) (fun h17 => ?_) (fun h17 => ?_)
     ·refine .rgn [cg_ (cl_ l = true ∧ k < l.length) (hE k)] (by simp only [go_sem, seval, af_, ad_, ah_, ac_, au_, a0_]; rfl) ?_ ?_
      ·(first | trivial | (simp; done) | (simp only [T3_] at h12; have hk : k < l.length := (by omega); have q1 := hN k hI.2 (by omega); have q2 := e7_ k ((br_ (l.getD k Pg0).text).getD []) (l.getD k Pg0).frm; have q3 := (hs _ (bj_ (d := Pg0) hk)).2.2; first | (and_intros <;> omega) | exact ⟨⟨hI.2, hk⟩, of_eq_true (ed_ _), by simp, by omega⟩))
      refine Exists.intro (()) ⟨?_, ?_⟩
      ·trivial
      refine Can.trans (Can.swap 35 20 (by decide) (by decide) (by decide) (by decide) (by simp only [go_sem, seval, af_, ad_, ah_, ac_, au_, a0_, V.cl]) (by simp only [go_sem, seval, af_, ad_, ah_, ac_, au_, a0_, V.cl]) (by simp only [go_sem, seval, af_, ad_, ah_, ac_, au_, a0_, bi_, sw, swM, rnB] <;> rfl) (by simp only [go_sem, seval, af_, ad_, ah_, ac_, au_, a0_, bi_, sw, swM, rnB] <;> rfl) (by simp only [go_sem, seval, af_, ad_, ah_, ac_, au_, a0_, bi_, sw, swM, rnB] <;> rfl)) ?_
      exact Can.weak (Weak.lit (by simp only [go_sem, seval, af_, ad_, ah_, ac_, au_, a0_, as_, leV, aq_, ar_, V.inn, us, T9_, Ta_] <;> (first | (rw [d8_, if_pos (by simpa using h17)]; simp; done) | (rw [d8_, if_neg (by simpa using h17)]; simp; done))) (by simp only [go_sem, seval, af_, ad_, ah_, ac_, au_, a0_, as_, leV, aq_, ar_, V.inn, us, T9_, Ta_]) (by simp only [go_sem, seval, af_, ad_, ah_, ac_, au_, a0_, as_, leV, aq_, ar_, V.inn, us, T9_, Ta_] <;> (first | (rw [d8_, if_pos (by simpa using h17)]; simp [zn_]; done) | (rw [d8_, if_neg (by simpa using h17)]; simp; done))))
     ·refine .skip ?_
      refine Exists.intro (()) ⟨?_, ?_⟩
      ·trivial
      exact Can.weak (Weak.lit (by simp only [go_sem, seval, af_, ad_, ah_, ac_, au_, a0_, as_, leV, aq_, ar_, V.inn, us, T9_, Ta_] <;> (first | (rw [d8_, if_pos (by simpa using h17)]; simp; done) | (rw [d8_, if_neg (by simpa using h17)]; simp; done))) (by simp only [go_sem, seval, af_, ad_, ah_, ac_, au_, a0_, as_, leV, aq_, ar_, V.inn, us, T9_, Ta_]) (by simp only [go_sem, seval, af_, ad_, ah_, ac_, au_, a0_, as_, leV, aq_, ar_, V.inn, us, T9_, Ta_] <;> (first | (rw [d8_, if_pos (by simpa using h17)]; simp [zn_]; done) | (rw [d8_, if_neg (by simpa using h17)]; simp; done))))
    refine .rgn [] (by simp only [go_sem, seval, af_, ad_, ah_, ac_, au_, a0_]; rfl) ?_ ?_
    ·(first | trivial | (simp; done) | (simp only [T3_] at h12; have hk : k < l.length := (by omega); have q1 := hN k hI.2 (by omega); have q2 := e7_ k ((br_ (l.getD k Pg0).text).getD []) (l.getD k Pg0).frm; have q3 := (hs _ (bj_ (d := Pg0) hk)).2.2; first | (and_intros <;> omega) | exact ⟨⟨hI.2, hk⟩, of_eq_true (ed_ _), by simp, by omega⟩))
    refine Exists.intro (k + 1) ⟨?_, ?_, ?_⟩
    ·simp at h12; exact ⟨by omega, hI.2⟩
    ·simp at h12; omega
    exact Can.weak (Weak.lit (by simp only [go_sem, seval, af_, ad_, ah_, ac_, au_, a0_, as_, leV, aq_, ar_, V.inn, us, T9_, Ta_] <;> (rw [bf_ (by simp at h12; omega) (by simp at h12; omega)]; simp)) (by simp only [go_sem, seval, af_, ad_, ah_, ac_, au_, a0_, as_, leV, aq_, ar_, V.inn, us, T9_, Ta_]) (by simp only [go_sem, seval, af_, ad_, ah_, ac_, au_, a0_, as_, leV, aq_, ar_, V.inn, us, T9_, Ta_]))
   ·refine .exit ?_
    refine Exists.intro (()) ⟨?_, ?_⟩
    ·exact hI.2
    refine Can.trans (Can.frz 20 (by simp only [go_sem, seval, af_, ad_, ah_, ac_, au_, a0_] <;> rfl) (by simp only [go_sem, seval, af_, ad_, ah_, ac_, au_, a0_]) (by simp only [go_sem, seval, af_, ad_, ah_, ac_, au_, a0_] <;> rfl) (by simp only [go_sem, seval, af_, ad_, ah_, ac_, au_, a0_] <;> rfl)) ?_
    exact Can.weak (Weak.lit (by simp only [go_sem, seval, af_, ad_, ah_, ac_, au_, a0_, as_, leV, aq_, ar_, V.inn, us, T9_, Ta_] <;> (simp at h12; (obtain rfl : k = l.length := (by omega)); simp [T1_, a0_, leV, bd_])) (by simp only [go_sem, seval, af_, ad_, ah_, ac_, au_, a0_, as_, leV, aq_, ar_, V.inn, us, T9_, Ta_]) (by simp only [go_sem, seval, af_, ad_, ah_, ac_, au_, a0_, as_, leV, aq_, ar_, V.inn, us, T9_, Ta_]))
  refine .seq (.rgn [cg_ (cl_ l = true) (fun h => aaq_ (d8_ l l.length) (by have := hN _ h (Nat.le_refl _); omega))] (by simp only [go_sem, seval, af_, ad_, ah_, ac_, au_, a0_]; rfl) ?_ ?_)
  ·(first | trivial | (simp; done) | (simp only [T3_] at h12; have hk : k < l.length := (by omega); have q1 := hN k hI.2 (by omega); have q2 := e7_ k ((br_ (l.getD k Pg0).text).getD []) (l.getD k Pg0).frm; have q3 := (hs _ (bj_ (d := Pg0) hk)).2.2; first | (and_intros <;> omega) | exact ⟨⟨hI.2, hk⟩, of_eq_true (ed_ _), by simp, by omega⟩))
  refine .ret ⟨.inr rfl, ?_⟩
  exact Out.plainL (by simp only [Tryz.results16]; rfl) (by simp only [az_, a7_, go_sem, seval, af_, ad_, ah_, ac_, au_, a0_] <;> (split <;> rfl)) (by simp only [a5_, go_sem, seval, af_, ad_, ah_, ac_, au_, a0_] <;> (simp [el_, hJ, bd_, leV])) (by simp only [go_sem, seval, af_, ad_, ah_, ac_, au_, a0_])
end
section
set_option maxRecDepth 100000
set_option maxHeartbeats 4000000
theorem abt_ (p q : Pg) (hp : pgB p) (hq : pgB q) : ACall En 58 [.ag (pgC p), .ag (pgC q)] [] [.b (decide (p = q))] [] := by
 have h1 := hp.2.2
 have h2 := hq.2.2
 refine al_ (fn := Tryz.f58) [] Tryz.func58 rfl rfl (by simp) fun C => ?_
 rw [ay_]
 simp only [Tryz.ntmps58, T7_, List.length_nil, Nat.reduceAdd, Nat.reduceSub, List.replicate_succ, List.replicate_zero, List.cons_append, List.nil_append, bp_]
 refine .seq (.rgn [] (by simp only [go_sem, seval, ah_, ac_, ai_]; rfl) ?_ ?_)
 ·first | trivial | simp
 refine .seq (.seq (.rgn [] (by simp only [go_sem, seval, ah_, ac_, ai_]; rfl) ?_ ?_))
 ·first | trivial | simp
 refine .condB (by simp only [go_sem, seval, ah_, ac_, ai_]; rfl) (by simp only [go_sem, seval, ah_, ac_, ai_]) (fun h33 => ?_) (fun h33 => ?_)
 ·refine .seq (.rgn [] (by simp only [go_sem, seval, ah_, ac_, ai_]; rfl) ?_ ?_)
  ·first | trivial | simp
  refine .ret ⟨.inr rfl, ?_⟩
  exact Out.plain (by simp only [Tryz.results58]; rfl) (by simp only [az_, a7_, go_sem, seval, ah_, ac_, ai_] <;> (split <;> rfl)) (by simp only [a5_, go_sem, seval, ah_, ac_, ai_] <;> (rw [decide_eq_false]; rintro rfl; simp at h33)) (by simp only [go_sem, seval, ah_, ac_, ai_])
 ·refine .skip (.seq (.seq (.rgn [] (by simp only [go_sem, seval, ah_, ac_, ai_]; rfl) ?_ ?_)))
  ·first | trivial | simp
  refine .block (.loopK (fun k : Nat => ⟨[.no, .no, .pt 12 4 0 0, .pt 13 4 0 0, .no, .i .i64 k, .no, .no, .no, .no, .no, .no, .no, .no, .no, .no, .no, .no, .no, .no, .no, .no, .no, .no, .no, .no, .no, .no, .no, .no, .no, .no, .no, .no, .no, .no, .no, .no, .no, .no, .no, .no, .no, .no, .no, .no, .no, .no, .no, .no, .no, .no], bc_ [(12, ⟨37, 4, [pgC p]⟩), (13, ⟨37, 4, [pgC q]⟩)], us [12, 13]⟩) (fun k : Nat => k ≤ p.frm.length ∧ p.frm.take k = q.frm.take k) (fun k : Nat => p.frm.length - k) (0) ?_ ?_ (fun k hI => ?_))
  ·exact ⟨Nat.zero_le _, rfl⟩
  ·exact Can.weak (Weak.lit (by simp only [go_sem, seval, ah_, ac_, ai_, as_, leV, aq_, ar_, V.inn, us, T9_, Ta_] <;> ((try simp))) (by simp only [go_sem, seval, ah_, ac_, ai_, as_, leV, aq_, ar_, V.inn, us, T9_, Ta_]) (by simp only [go_sem, seval, ah_, ac_, ai_, as_, leV, aq_, ar_, V.inn, us, T9_, Ta_]))
  refine .seq (.seq (.rgn [] (by simp only [go_sem, seval, ah_, ac_, ai_]; rfl) ?_ ?_))
  ·first | trivial | simp
  refine .condB (by simp only [go_sem, seval, ah_, ac_, ai_]; rfl) (by simp only [go_sem, seval, ah_, ac_, ai_]) (fun h38 => ?_) (fun h38 => ?_)
  ·refine .skip (.seq (.block (.seq (.rgnD [] enM (by simp only [go_sem, seval, ah_, ac_, ai_, d0_ (show k < p.frm.length by simpa using h38), d0_ (show k < q.frm.length by have e := (cx_ h33).2.2.2; simp only [T3_] at h38; omega)]; rfl) (by rfl) ?_ ?_))))
   ·have e := (cx_ h33).2.2.2; simp only [T3_] at h38; and_intros <;> omega
   refine .condB (by simp only [go_sem, seval, ah_, ac_, ai_]; rfl) (by simp only [go_sem, seval, ah_, ac_, ai_]) (fun h51 => ?_) (fun h51 => ?_)
   ·refine .seq (.rgn [] (by simp only [go_sem, seval, ah_, ac_, ai_]; rfl) ?_ ?_)
    ·first | trivial | simp
    refine .ret ⟨.inr rfl, ?_⟩
    exact Out.plain (by simp only [Tryz.results58]; rfl) (by simp only [az_, a7_, go_sem, seval, ah_, ac_, ai_] <;> (split <;> rfl)) (by simp only [a5_, go_sem, seval, ah_, ac_, ai_] <;> (rw [decide_eq_false]; rintro rfl; simp at h51)) (by simp only [go_sem, seval, ah_, ac_, ai_])
   ·refine .skip (.rgn [] (by simp only [go_sem, seval, ah_, ac_, ai_]; rfl) ?_ ?_)
    ·first | trivial | simp
    refine Exists.intro (k + 1) ⟨?_, ?_, ?_⟩
    ·have e := (cx_ h33).2.2.2; simp only [T3_] at h38; exact ⟨by omega, l6_ (d := 0) (by omega) (by omega) hI.2 (bne_eq_false_iff_eq.1 h51)⟩
    ·simp only [T3_] at h38; omega
    exact Can.weak (Weak.lit (by simp only [go_sem, seval, ah_, ac_, ai_, as_, leV, aq_, ar_, V.inn, us, T9_, Ta_] <;> (simp only [T3_] at h38; exact bf_ (n := ((k + 1 : Nat) : Int)) (by omega) (by omega))) (by simp only [go_sem, seval, ah_, ac_, ai_, as_, leV, aq_, ar_, V.inn, us, T9_, Ta_]) (by simp only [go_sem, seval, ah_, ac_, ai_, as_, leV, aq_, ar_, V.inn, us, T9_, Ta_]))
  ·refine .exit (.seq (.rgn [] (by simp only [go_sem, seval, ah_, ac_, ai_]; rfl) ?_ ?_))
   ·first | trivial | simp
   refine .ret ⟨.inr rfl, ?_⟩
   exact Out.plain (by simp only [Tryz.results58]; rfl) (by simp only [az_, a7_, go_sem, seval, ah_, ac_, ai_] <;> (split <;> rfl)) (by simp only [a5_, go_sem, seval, ah_, ac_, ai_] <;> (simp only [T4_] at h38; have e := cx_ h33; have e2 := hI.2; rw [T1_ (by omega), T1_ (by omega)] at e2; rw [decide_eq_true (uc_.2 ⟨⟨⟨e.1, e.2.1⟩, e.2.2.1⟩, e2⟩)])) (by simp only [go_sem, seval, ah_, ac_, ai_])
theorem aim_ {l : List Pg} {k : Nat} (h : k < l.length) : (l.take (k + 1)).all okP = ((l.take k).all okP && okP (l.getD k Pg0)) := by
 rw [List.take_add_one, T6_ h, List.all_append, T8_, T6_ h]; simp
theorem adr_ {l : List Pg} {k : Nat} (hk : k < l.length) (h : okP (l.getD k Pg0) = false) : cl_ l = false := by
 rw [Bool.eq_false_iff]; intro q
 rw [(co_ q).2.2 k hk] at h; cases h
theorem aib_ {p : Pg} (h : (!tOk p.line || decide (((spl p.line).length : Int) > 1) || !decide (p = e8_ p.line)) = false) : okP p = true := by
 rw [wt_, ← Bool.not_and, Bool.not_eq_false'] at h; exact h
theorem ahf_ {p : Pg} (h : (!tOk p.line || decide (((spl p.line).length : Int) > 1) || !decide (p = e8_ p.line)) = true) : okP p = false := by
 rw [wt_, ← Bool.not_and, Bool.not_eq_true'] at h; exact h
theorem bkTk {ls : List Str} {k : Nat} (h : k < ls.length) : pgR ((ls.take (k + 1)).map e8_) = pgR ((ls.take k).map e8_) ++ [pgC (e8_ (ls.getD k []))] := by
 rw [List.take_add_one, T6_ h, T8_, T6_ h, List.map_append]; unfold pgR; rw [List.map_append]; rfl
theorem txTk {f : Pg → Str} {l : List Pg} {k : Nat} (h : k < l.length) : bn_ ((l.take (k + 1)).map f) = bn_ ((l.take k).map f) ++ [[.s (f (l.getD k Pg0))]] := by
 rw [List.take_add_one, T6_ h, T8_, T6_ h, List.map_append]; unfold bn_; rw [List.map_append]; rfl
theorem h6_ (l : List Pg) (hs : ∀ p ∈ l, pgB p) (hl : l.length ≤ 1000000) : ACall En 19 [.sl false (pgR l)] [] [.b (cl_ l)] [] := by
 have hB : ∀ k, k < l.length → pgB (l.getD k Pg0) := fun k h => hs _ (bj_ h)
 refine al_ (fn := Tryz.f19) [] Tryz.func19 rfl rfl (by simp) fun C => ?_
 rw [ay_]
 simp only [Tryz.ntmps19, T7_, List.length_nil, Nat.reduceAdd, Nat.reduceSub, List.replicate_succ, List.replicate_zero, List.cons_append, List.nil_append, bp_]
 refine .seq (.rgn [] (by simp only [go_sem, seval, af_, ad_, ah_, ac_, ab_, aa_]; rfl) ?_ ?_)
 ·first | trivial | simp
 refine .seq (.seq (.rgn [] (by simp only [go_sem, seval, af_, ad_, ah_, ac_, ab_, aa_]; rfl) ?_ ?_))
 ·first | trivial | simp
 refine .block (.loopK (fun k : Nat => ⟨[.sl false (pgR l), .no, .no, .i .i64 k, .no, .no, .no, .no, .no, .no, .no, .no, .no, .no, .no, .no, .no, .no, .no, .no, .no, .no, .no, .no, .no, .no, .no, .no, .no, .no, .no, .no, .no, .no, .no, .no, .no, .no, .no, .no, .no, .no, .no, .no, .no, .no, .no, .no, .no], bc_ [], us []⟩) (fun k : Nat => k ≤ l.length ∧ (l.take k).all okP = true) (fun k : Nat => l.length - k) (0) ?_ ?_ (fun k hI => ?_))
 ·exact ⟨Nat.zero_le _, rfl⟩
 ·exact Can.weak (Weak.lit (by simp only [go_sem, seval, af_, ad_, ah_, ac_, ab_, aa_, as_, leV, aq_, ar_, V.inn, us, T9_, Ta_] <;> ((try simp))) (by simp only [go_sem, seval, af_, ad_, ah_, ac_, ab_, aa_, as_, leV, aq_, ar_, V.inn, us, T9_, Ta_]) (by simp only [go_sem, seval, af_, ad_, ah_, ac_, ab_, aa_, as_, leV, aq_, ar_, V.inn, us, T9_, Ta_]))
 refine .seq (.seq (.rgn [] (by simp only [go_sem, seval, af_, ad_, ah_, ac_, ab_, aa_]; rfl) ?_ ?_))
 ·first | trivial | simp
 refine .condB (by simp only [go_sem, seval, af_, ad_, ah_, ac_, ab_, aa_]; rfl) (by simp only [go_sem, seval, af_, ad_, ah_, ac_, ab_, aa_]) (fun h7 => ?_) (fun h7 => ?_)
 ·refine .skip (.seq (.block (.seq (.rgnD [cg_ (k < l.length) (fun h => mw_ (l.getD k Pg0).line (by have := (hB k h).1; omega)), cg_ (k < l.length ∧ tOk (l.getD k Pg0).line = true) (fun h => pu_ (l.getD k Pg0).line (lp_ h.2)), cg_ (k < l.length) (fun h => r8_ (l.getD k Pg0).line (by have := (hB k h).1; omega)), cg_ (k < l.length) (fun h => abt_ (l.getD k Pg0) (e8_ (l.getD k Pg0).line) (hB k h) (yc_ (hB k h).1))] enM (by simp only [go_sem, seval, af_, ad_, ah_, ac_, ab_, aa_, cw_ (show k < l.length by simpa using h7)]; rfl) (by rfl) ?_ ?_))))
  ·simp only [T3_] at h7; and_intros <;> first | omega | trivial | exact fun h => ⟨h, by omega, by omega⟩ | exact fun h => ⟨h, by omega⟩ | exact fun h => ⟨h, by omega, by simpa using h⟩ | exact fun h => by rw [h]; rfl
  refine .condB (by simp only [go_sem, seval, af_, ad_, ah_, ac_, ab_, aa_]; rfl) (by simp only [go_sem, seval, af_, ad_, ah_, ac_, ab_, aa_]) (fun h40 => ?_) (fun h40 => ?_)
  ·refine .seq (.rgn [] (by simp only [go_sem, seval, af_, ad_, ah_, ac_, ab_, aa_]; rfl) ?_ ?_)
   ·first | trivial | simp
   refine .ret ⟨.inr rfl, ?_⟩
   exact Out.plain (by simp only [Tryz.results19]; rfl) (by simp only [az_, a7_, go_sem, seval, af_, ad_, ah_, ac_, ab_, aa_] <;> (split <;> rfl)) (by simp only [a5_, go_sem, seval, af_, ad_, ah_, ac_, ab_, aa_] <;> (rw [adr_ (k := k) (by simpa using h7) (ahf_ h40)])) (by simp only [go_sem, seval, af_, ad_, ah_, ac_, ab_, aa_])
  ·refine .skip (.rgn [] (by simp only [go_sem, seval, af_, ad_, ah_, ac_, ab_, aa_]; rfl) ?_ ?_)
   ·first | trivial | simp
   refine Exists.intro (k + 1) ⟨?_, ?_, ?_⟩
   ·simp at h7; refine ⟨by omega, ?_⟩; rw [aim_ h7, hI.2, aib_ h40]; rfl
   ·simp at h7; omega
   exact Can.weak (Weak.lit (by simp only [go_sem, seval, af_, ad_, ah_, ac_, ab_, aa_, as_, leV, aq_, ar_, V.inn, us, T9_, Ta_] <;> (rw [bf_ (by simp at h7; omega) (by simp at h7; omega)]; (try simp))) (by simp only [go_sem, seval, af_, ad_, ah_, ac_, ab_, aa_, as_, leV, aq_, ar_, V.inn, us, T9_, Ta_]) (by simp only [go_sem, seval, af_, ad_, ah_, ac_, ab_, aa_, as_, leV, aq_, ar_, V.inn, us, T9_, Ta_]))
 ·refine .exit (.seq (.rgn [] (by simp only [go_sem, seval, af_, ad_, ah_, ac_, ab_, aa_]; rfl) ?_ ?_))
  ·first | trivial | simp
  refine .ret ⟨.inr rfl, ?_⟩
  exact Out.plain (by simp only [Tryz.results19]; rfl) (by simp only [az_, a7_, go_sem, seval, af_, ad_, ah_, ac_, ab_, aa_] <;> (split <;> rfl)) (by simp only [a5_, go_sem, seval, af_, ad_, ah_, ac_, ab_, aa_] <;> (simp only [T4_] at h7; have e := hI.2; rw [T1_ (by omega)] at e; unfold cl_; rw [e]; simp only [hu_, Bool.and_true]; rfl)) (by simp only [go_sem, seval, af_, ad_, ah_, ac_, ab_, aa_])
theorem yf_ (s : Str) (hs : s.length ≤ 281474976710656) : ACall En 36 [.s s] [] [.ow 0 4 0 (fv_ s).length] [⟨37, 4, pgR (fv_ s)⟩] := by
 have hL := p9_ s
 have hM := io_ s
 have hb : fv_ s = if (dj_ s).length ≤ 16 then (dj_ s).map e8_ else [] := rfl
 have T := sz_ s hs
 generalize dj_ s = ls at *
 refine al_ (fn := Tryz.f36) [60] Tryz.func36 rfl rfl (by simp) fun C => ?_
 rw [ay_]
 simp only [Tryz.ntmps36, T7_, List.length_nil, Nat.reduceAdd, Nat.reduceSub, List.replicate_succ, List.replicate_zero, List.cons_append, List.nil_append, bp_]
 refine .seq (.rgn [] (by simp only [go_sem, seval, ab_, aa_, ad_, af_, ah_, ac_]; rfl) ?_ ?_)
 ·(first | trivial | (simp; done) | (simp only [T3_, T4_] at h11 h16; and_intros <;> first | omega | (simp; done) | (simp; omega)))
 refine .seq (.rgn [] (by simp only [go_sem, seval, ab_, aa_, ad_, af_, ah_, ac_]; rfl) ?_ ?_)
 ·(first | trivial | (simp; done) | (simp only [T3_, T4_] at h11 h16; and_intros <;> first | omega | (simp; done) | (simp; omega)))
 refine .seq (.rgn [a4_ T] (by simp only [go_sem, seval, ab_, aa_, ad_, af_, ah_, ac_]; rfl) ?_ ?_)
 ·(first | trivial | (simp; done) | (simp only [T3_, T4_] at h11 h16; and_intros <;> first | omega | (simp; done) | (simp; omega)))
 refine .seq (.seq (.rgn [] (by simp only [go_sem, seval, ab_, aa_, ad_, af_, ah_, ac_]; rfl) ?_ ?_))
 ·(first | trivial | (simp; done) | (simp only [T3_, T4_] at h11 h16; and_intros <;> first | omega | (simp; done) | (simp; omega)))
 refine .condB (by simp only [go_sem, seval, ab_, aa_, ad_, af_, ah_, ac_]; rfl) (by simp only [go_sem, seval, ab_, aa_, ad_, af_, ah_, ac_]) (fun h11 => ?_) (fun h11 => ?_)
 ·refine .seq (.rgn [] (by simp only [go_sem, seval, ab_, aa_, ad_, af_, ah_, ac_]; rfl) ?_ ?_)
  ·(first | trivial | (simp; done) | (simp only [T3_, T4_] at h11 h16; and_intros <;> first | omega | (simp; done) | (simp; omega)))
  refine .can (Can.ownSlot 2 60 37 4 (by simp only [go_sem, seval, ab_, aa_, ad_, af_, ah_, ac_] <;> rfl) (by simp only [go_sem, seval, ab_, aa_, ad_, af_, ah_, ac_]) (by simp only [go_sem, seval, ab_, aa_, ad_, af_, ah_, ac_] <;> rfl)) ?_
  refine .ret ⟨.inr rfl, ?_⟩
  exact Out.mem' (by simp only [Tryz.results36]; rfl) (by simp only [az_, a7_, go_sem, seval, ab_, aa_, ad_, af_, ah_, ac_]) (by simp only [a5_, rns, rn, go_sem, seval, ab_, aa_, ad_, af_, ah_, ac_] <;> (rw [show fv_ s = [] by rw [hb, if_neg (by simp at h11; omega)]]; rfl)) (by simp) rfl (by decide) (by simp only [go_sem, seval, ab_, aa_, ad_, af_, ah_, ac_]) (by simp only [ao_, go_sem, seval, ab_, aa_, ad_, af_, ah_, ac_]) (by simp only [aj_, go_sem, seval, ab_, aa_, ad_, af_, ah_, ac_] <;> (rw [show fv_ s = [] by rw [hb, if_neg (by simp at h11; omega)]]; rfl))
 ·refine .skip (.seq (.seq (.rgn [] (by simp only [go_sem, seval, ab_, aa_, ad_, af_, ah_, ac_]; rfl) ?_ ?_)))
  ·(first | trivial | (simp; done) | (simp only [T3_, T4_] at h11 h16; and_intros <;> first | omega | (simp; done) | (simp; omega)))
  refine .block (.loopK (fun k : Nat => ⟨[.no, .no, .no, .ow 60 4 0 k, .sl false (bn_ ls), .i .i64 k, .no, .no, .no, .no, .no, .no, .no, .no, .no, .no, .no, .no, .no, .no, .no, .no, .no, .no, .no, .no, .no, .no], bc_ [(60, ⟨37, 4, pgR ((ls.take k).map e8_)⟩)], us [60]⟩) (fun k : Nat => k ≤ ls.length) (fun k : Nat => ls.length - k) (0) ?_ ?_ (fun k hI => ?_))
  ·simp
  ·refine Can.trans (Can.ownSlot 3 60 37 4 (by simp only [go_sem, seval, ab_, aa_, ad_, af_, ah_, ac_] <;> rfl) (by simp only [go_sem, seval, ab_, aa_, ad_, af_, ah_, ac_]) (by simp only [go_sem, seval, ab_, aa_, ad_, af_, ah_, ac_] <;> rfl)) ?_
   exact Can.weak (Weak.lit (by simp only [go_sem, seval, ab_, aa_, ad_, af_, ah_, ac_, as_, leV, aq_, ar_, V.inn, us, T9_, Ta_] <;> ((try simp))) (by simp only [go_sem, seval, ab_, aa_, ad_, af_, ah_, ac_, as_, leV, aq_, ar_, V.inn, us, T9_, Ta_]) (by simp only [go_sem, seval, ab_, aa_, ad_, af_, ah_, ac_, as_, leV, aq_, ar_, V.inn, us, T9_, Ta_] <;> ((try simp [pgR]))))
  refine .seq (.seq (.rgn [] (by simp only [go_sem, seval, ab_, aa_, ad_, af_, ah_, ac_]; rfl) ?_ ?_))
  ·(first | trivial | (simp; done) | (simp only [T3_, T4_] at h11 h16; and_intros <;> first | omega | (simp; done) | (simp; omega)))
  refine .condB (by simp only [go_sem, seval, ab_, aa_, ad_, af_, ah_, ac_]; rfl) (by simp only [go_sem, seval, ab_, aa_, ad_, af_, ah_, ac_]) (fun h16 => ?_) (fun h16 => ?_)
  ·refine .skip (.seq (.block (.rgn [cg_ (k < ls.length) (fun h => r8_ (ls.getD k []) (by have := hM _ (bj_ (d := []) h); omega))] (by simp only [go_sem, seval, ab_, aa_, ad_, af_, ah_, ac_, b6_ (show k < ls.length by simpa using h16)]; rfl) ?_ ?_)))
   ·(first | trivial | (simp; done) | (simp only [T3_, T4_] at h11 h16; and_intros <;> first | omega | (simp; done) | (simp; omega)))
   refine .rgn [] (by simp only [go_sem, seval, ab_, aa_, ad_, af_, ah_, ac_]; rfl) ?_ ?_
   ·(first | trivial | (simp; done) | (simp only [T3_, T4_] at h11 h16; and_intros <;> first | omega | (simp; done) | (simp; omega)))
   refine Exists.intro (k + 1) ⟨?_, ?_, ?_⟩
   ·simp at h16; omega
   ·simp at h16; omega
   refine Can.trans (Can.swap 36 60 (by decide) (by decide) (by decide) (by decide) (by simp only [go_sem, seval, ab_, aa_, ad_, af_, ah_, ac_, V.cl]) (by simp only [go_sem, seval, ab_, aa_, ad_, af_, ah_, ac_, V.cl]) (by simp only [go_sem, seval, ab_, aa_, ad_, af_, ah_, ac_, bi_, sw, swM, rnB] <;> rfl) (by simp only [go_sem, seval, ab_, aa_, ad_, af_, ah_, ac_, bi_, sw, swM, rnB] <;> rfl) (by simp only [go_sem, seval, ab_, aa_, ad_, af_, ah_, ac_, bi_, sw, swM, rnB] <;> rfl)) ?_
   exact Can.weak (Weak.lit (by simp only [go_sem, seval, ab_, aa_, ad_, af_, ah_, ac_, as_, leV, aq_, ar_, V.inn, us, T9_, Ta_] <;> (rw [bf_ (by simp at h16; omega) (by simp at h16; omega)]; (try simp))) (by simp only [go_sem, seval, ab_, aa_, ad_, af_, ah_, ac_, as_, leV, aq_, ar_, V.inn, us, T9_, Ta_]) (by simp only [go_sem, seval, ab_, aa_, ad_, af_, ah_, ac_, as_, leV, aq_, ar_, V.inn, us, T9_, Ta_] <;> (rw [bkTk (by simpa using h16), ah_])))
  ·refine .exit (.seq (.rgn [] (by simp only [go_sem, seval, ab_, aa_, ad_, af_, ah_, ac_]; rfl) ?_ ?_))
   ·(first | trivial | (simp; done) | (simp only [T3_, T4_] at h11 h16; and_intros <;> first | omega | (simp; done) | (simp; omega)))
   refine .ret ⟨.inr rfl, ?_⟩
   exact Out.mem' (by simp only [Tryz.results36]; rfl) (by simp only [az_, a7_, go_sem, seval, ab_, aa_, ad_, af_, ah_, ac_]) (by simp only [a5_, rns, rn, go_sem, seval, ab_, aa_, ad_, af_, ah_, ac_] <;> (simp only [T4_] at h11 h16; rw [show fv_ s = ls.map e8_ by rw [hb, if_pos (by omega)], List.length_map, show k = ls.length by omega])) (by simp) rfl (by decide) (by simp only [go_sem, seval, ab_, aa_, ad_, af_, ah_, ac_]) (by simp only [ao_, go_sem, seval, ab_, aa_, ad_, af_, ah_, ac_]) (by simp only [aj_, go_sem, seval, ab_, aa_, ad_, af_, ah_, ac_] <;> (simp only [T4_] at h11 h16; rw [show fv_ s = ls.map e8_ by rw [hb, if_pos (by omega)], T1_ (show ls.length ≤ k by omega)]))
def fTx (f : Pg → Str) (l : List Pg) : List Str := if cl_ l then l.map f else []
theorem ab3_ {f : Pg → Str} {l : List Pg} (hf : ∀ p, okP p = true → (f p).length ≤ 120) : (cb_ (fTx f l)).length ≤ 3000 ∧ (fTx f l).length ≤ 16 := by
 unfold fTx
 split
 ·rename_i h
  have h1 := (co_ h).2.1
  have := pj_ (l := l.map f) (k := 120) fun s hs => by
   obtain ⟨p, hp, rfl⟩ := List.mem_map.1 hs
   exact hf p (hc_ h p hp)
  rw [List.length_map] at this
  have := Nat.mul_le_mul_right 121 h1
  exact ⟨by omega, by rw [List.length_map]; exact h1⟩
 ·simp [kf_]
theorem acw_ (f : Pg → Str) (l : List Pg) : cb_ (fTx f l) = if cl_ l then cb_ (l.map f) else [] := by
 unfold fTx; split <;> rfl
theorem txE {f : Pg → Str} {l : List Pg} {k : Nat} (hk : k ≤ l.length) (h : cl_ l = true ∨ k = 0) (h2 : (decide ((k : Int) < l.length) && cl_ l) = false) : (l.take k).map f = fTx f l := by
 unfold fTx
 cases hb : cl_ l with
 | true =>
  rw [hb] at h2
  simp at h2
  rw [if_pos rfl, T1_ h2]
 | false =>
  rw [hb] at h
  obtain rfl : k = 0 := by simpa using h
  simp
theorem txJ {f : Pg → Str} {l : List Pg} {k : Nat} (hk : k ≤ l.length) (h : cl_ l = true ∨ k = 0) (h2 : (decide ((k : Int) < l.length) && cl_ l) = false) : leV (if k ≤ ((l.take k).map f).length then V.sl false ((bn_ ((l.take k).map f)).take k) else V.no) (V.sl false (bn_ (fTx f l))) := by
 rw [if_pos (by simp; omega), T1_ (by rw [ab_, List.length_map, List.length_take]; exact Nat.min_le_left _ _), txE hk h h2]
 exact ⟨fun h => h, bd_ _⟩
theorem bnE {l : List Pg} {k : Nat} (hk : k ≤ l.length) (h : cl_ l = true ∨ k = 0) (h2 : (decide ((k : Int) < l.length) && cl_ l) = false) : d9_ l k = nf_ l := by
 unfold nf_
 cases hb : cl_ l with
 | true =>
  rw [hb] at h2
  simp at h2
  rw [if_pos rfl, show k = l.length by omega]
 | false =>
  rw [hb] at h
  obtain rfl : k = 0 := by simpa using h
  rfl
theorem v3_ (l : List Pg) (hs : ∀ p ∈ l, pgB p) (hl : l.length ≤ 1000000) : ACall En 28 [.sl false (pgR l)] [] [.s (f2_ l)] [] := by
 have hT := ab3_ (f := (·.line)) (l := l) (fun p hp => (j0_ (ih_ hp).1).2)
 have hX : f2_ l = cb_ (fTx (·.line) l) := by rw [acw_]; rfl
 refine al_ (fn := Tryz.f28) [] Tryz.func28 rfl rfl (by simp) fun C => ?_
 rw [ay_]
 simp only [Tryz.ntmps28, T7_, List.length_nil, Nat.reduceAdd, Nat.reduceSub, List.replicate_succ, List.replicate_zero, List.cons_append, List.nil_append, bp_]
 refine .seq (.rgn [] (by simp only [go_sem, seval, af_, ad_, ah_, ac_, aa_, ab_]; rfl) ?_ ?_)
 ·(first | trivial | (simp; done) | (simp only [T5_, T3_] at h13; and_intros <;> first | omega | (simp; done) | (simp; omega)))
 refine .seq (.rgn [] (by simp only [go_sem, seval, af_, ad_, ah_, ac_, aa_, ab_]; rfl) ?_ ?_)
 ·(first | trivial | (simp; done) | (simp only [T5_, T3_] at h13; and_intros <;> first | omega | (simp; done) | (simp; omega)))
 refine .seqJ (fun u : Unit => ⟨[.no, .no, .no, .sl false (bn_ (fTx (·.line) l)), .no, .no, .no, .no, .no, .no, .no, .no, .no, .no, .no, .no, .no, .no, .no, .no, .no, .no, .no, .no, .no, .no], bc_ [], us []⟩) (fun u : Unit => True) ?_ (fun u hJ => ?_)
 ·refine .seq (.rgn [] (by simp only [go_sem, seval, af_, ad_, ah_, ac_, aa_, ab_]; rfl) ?_ ?_)
  ·(first | trivial | (simp; done) | (simp only [T5_, T3_] at h13; and_intros <;> first | omega | (simp; done) | (simp; omega)))
  refine .block (.loopK (fun k : Nat => ⟨[.sl false (pgR l), .no, .no, .ow 60 1 0 k, .i .i64 k, .no, .no, .no, .no, .no, .no, .no, .no, .no, .no, .no, .no, .no, .no, .no, .no, .no, .no, .no, .no, .no], bc_ [(60, ⟨9, 1, bn_ ((l.take k).map (·.line))⟩)], us [60]⟩) (fun k : Nat => k ≤ l.length ∧ (cl_ l = true ∨ k = 0)) (fun k : Nat => l.length - k) (0) ?_ ?_ (fun k hI => ?_))
  ·exact ⟨Nat.zero_le _, .inr rfl⟩
  ·refine Can.trans (Can.ownSlot 3 60 9 1 (by simp only [go_sem, seval, af_, ad_, ah_, ac_, aa_, ab_] <;> rfl) (by simp only [go_sem, seval, af_, ad_, ah_, ac_, aa_, ab_]) (by simp only [go_sem, seval, af_, ad_, ah_, ac_, aa_, ab_] <;> rfl)) ?_
   exact Can.weak (Weak.lit (by simp only [go_sem, seval, af_, ad_, ah_, ac_, aa_, ab_, as_, leV, aq_, ar_, V.inn, us, T9_, Ta_] <;> ((try simp))) (by simp only [go_sem, seval, af_, ad_, ah_, ac_, aa_, ab_, as_, leV, aq_, ar_, V.inn, us, T9_, Ta_]) (by simp only [go_sem, seval, af_, ad_, ah_, ac_, aa_, ab_, as_, leV, aq_, ar_, V.inn, us, T9_, Ta_] <;> ((try simp [bn_]))))
  refine .seq (.seq (.rgn [a4_ (h6_ l hs hl)] (by simp only [go_sem, seval, af_, ad_, ah_, ac_, aa_, ab_]; rfl) ?_ ?_))
  ·(first | trivial | (simp; done) | (simp only [T5_, T3_] at h13; and_intros <;> first | omega | (simp; done) | (simp; omega)))
  refine .condB (by simp only [go_sem, seval, af_, ad_, ah_, ac_, aa_, ab_]; rfl) (by simp only [go_sem, seval, af_, ad_, ah_, ac_, aa_, ab_]) (fun h13 => ?_) (fun h13 => ?_)
  ·refine .skip (.seq (.block (.rgn [] (by simp only [go_sem, seval, af_, ad_, ah_, ac_, aa_, ab_, cw_ (show k < l.length by simp at h13; omega)]; rfl) ?_ ?_)))
   ·(first | trivial | (simp; done) | (simp only [T5_, T3_] at h13; and_intros <;> first | omega | (simp; done) | (simp; omega)))
   refine .rgn [] (by simp only [go_sem, seval, af_, ad_, ah_, ac_, aa_, ab_]; rfl) ?_ ?_
   ·(first | trivial | (simp; done) | (simp only [T5_, T3_] at h13; and_intros <;> first | omega | (simp; done) | (simp; omega)))
   refine Exists.intro (k + 1) ⟨?_, ?_, ?_⟩
   ·simp at h13; exact ⟨by omega, .inl h13.2⟩
   ·simp at h13; omega
   refine Can.trans (Can.swap 33 60 (by decide) (by decide) (by decide) (by decide) (by simp only [go_sem, seval, af_, ad_, ah_, ac_, aa_, ab_, V.cl]) (by simp only [go_sem, seval, af_, ad_, ah_, ac_, aa_, ab_, V.cl]) (by simp only [go_sem, seval, af_, ad_, ah_, ac_, aa_, ab_, bi_, sw, swM, rnB] <;> rfl) (by simp only [go_sem, seval, af_, ad_, ah_, ac_, aa_, ab_, bi_, sw, swM, rnB] <;> rfl) (by simp only [go_sem, seval, af_, ad_, ah_, ac_, aa_, ab_, bi_, sw, swM, rnB] <;> rfl)) ?_
   exact Can.weak (Weak.lit (by simp only [go_sem, seval, af_, ad_, ah_, ac_, aa_, ab_, as_, leV, aq_, ar_, V.inn, us, T9_, Ta_] <;> (rw [bf_ (by simp at h13; omega) (by simp at h13; omega)]; (try simp))) (by simp only [go_sem, seval, af_, ad_, ah_, ac_, aa_, ab_, as_, leV, aq_, ar_, V.inn, us, T9_, Ta_]) (by simp only [go_sem, seval, af_, ad_, ah_, ac_, aa_, ab_, as_, leV, aq_, ar_, V.inn, us, T9_, Ta_] <;> (simp at h13; rw [txTk h13.1])))
  ·refine .exit ?_
   refine Exists.intro (()) ⟨?_, ?_⟩
   ·trivial
   refine Can.trans (Can.frz 60 (by simp only [go_sem, seval, af_, ad_, ah_, ac_, aa_, ab_] <;> rfl) (by simp only [go_sem, seval, af_, ad_, ah_, ac_, aa_, ab_]) (by simp only [go_sem, seval, af_, ad_, ah_, ac_, aa_, ab_] <;> rfl) (by simp only [go_sem, seval, af_, ad_, ah_, ac_, aa_, ab_] <;> rfl)) ?_
   exact Can.weak (Weak.lit (by simp only [go_sem, seval, af_, ad_, ah_, ac_, aa_, ab_, as_, leV, aq_, ar_, V.inn, us, T9_, Ta_] <;> (exact txJ hI.1 hI.2 h13)) (by simp only [go_sem, seval, af_, ad_, ah_, ac_, aa_, ab_, as_, leV, aq_, ar_, V.inn, us, T9_, Ta_]) (by simp only [go_sem, seval, af_, ad_, ah_, ac_, aa_, ab_, as_, leV, aq_, ar_, V.inn, us, T9_, Ta_]))
 refine .seq (.rgn [a4_ (jn_ (fTx (·.line) l) (by omega) (by omega))] (by simp only [go_sem, seval, af_, ad_, ah_, ac_, aa_, ab_]; rfl) ?_ ?_)
 ·(first | trivial | (simp; done) | (simp only [T5_, T3_] at h13; and_intros <;> first | omega | (simp; done) | (simp; omega)))
 refine .ret ⟨.inr rfl, ?_⟩
 exact Out.plain (by simp only [Tryz.results28]; rfl) (by simp only [az_, a7_, go_sem, seval, af_, ad_, ah_, ac_, aa_, ab_] <;> (split <;> rfl)) (by simp only [a5_, go_sem, seval, af_, ad_, ah_, ac_, aa_, ab_] <;> (rw [hX])) (by simp only [go_sem, seval, af_, ad_, ah_, ac_, aa_, ab_])
theorem uh_ (l : List Pg) (hs : ∀ p ∈ l, pgB p) (hl : l.length ≤ 1000000) : ACall En 27 [.sl false (pgR l)] [] [.s (ji_ l)] [] := by
 have hT := ab3_ (f := (·.text)) (l := l) (fun p hp => by rw [(gs_ hp).1]; exact (h0_ _).2)
 have hX : ji_ l = cb_ (fTx (·.text) l) := by rw [acw_]; rfl
 refine al_ (fn := Tryz.f27) [] Tryz.func27 rfl rfl (by simp) fun C => ?_
 rw [ay_]
 simp only [Tryz.ntmps27, T7_, List.length_nil, Nat.reduceAdd, Nat.reduceSub, List.replicate_succ, List.replicate_zero, List.cons_append, List.nil_append, bp_]
 refine .seq (.rgn [] (by simp only [go_sem, seval, af_, ad_, ah_, ac_, aa_, ab_]; rfl) ?_ ?_)
 ·(first | trivial | (simp; done) | (simp only [T5_, T3_] at h13; and_intros <;> first | omega | (simp; done) | (simp; omega)))
 refine .seq (.rgn [] (by simp only [go_sem, seval, af_, ad_, ah_, ac_, aa_, ab_]; rfl) ?_ ?_)
 ·(first | trivial | (simp; done) | (simp only [T5_, T3_] at h13; and_intros <;> first | omega | (simp; done) | (simp; omega)))
 refine .seqJ (fun u : Unit => ⟨[.no, .no, .no, .sl false (bn_ (fTx (·.text) l)), .no, .no, .no, .no, .no, .no, .no, .no, .no, .no, .no, .no, .no, .no, .no, .no, .no, .no, .no, .no, .no, .no], bc_ [], us []⟩) (fun u : Unit => True) ?_ (fun u hJ => ?_)
 ·refine .seq (.rgn [] (by simp only [go_sem, seval, af_, ad_, ah_, ac_, aa_, ab_]; rfl) ?_ ?_)
  ·(first | trivial | (simp; done) | (simp only [T5_, T3_] at h13; and_intros <;> first | omega | (simp; done) | (simp; omega)))
  refine .block (.loopK (fun k : Nat => ⟨[.sl false (pgR l), .no, .no, .ow 60 1 0 k, .i .i64 k, .no, .no, .no, .no, .no, .no, .no, .no, .no, .no, .no, .no, .no, .no, .no, .no, .no, .no, .no, .no, .no], bc_ [(60, ⟨9, 1, bn_ ((l.take k).map (·.text))⟩)], us [60]⟩) (fun k : Nat => k ≤ l.length ∧ (cl_ l = true ∨ k = 0)) (fun k : Nat => l.length - k) (0) ?_ ?_ (fun k hI => ?_))
  ·exact ⟨Nat.zero_le _, .inr rfl⟩
  ·refine Can.trans (Can.ownSlot 3 60 9 1 (by simp only [go_sem, seval, af_, ad_, ah_, ac_, aa_, ab_] <;> rfl) (by simp only [go_sem, seval, af_, ad_, ah_, ac_, aa_, ab_]) (by simp only [go_sem, seval, af_, ad_, ah_, ac_, aa_, ab_] <;> rfl)) ?_
   exact Can.weak (Weak.lit (by simp only [go_sem, seval, af_, ad_, ah_, ac_, aa_, ab_, as_, leV, aq_, ar_, V.inn, us, T9_, Ta_] <;> ((try simp))) (by simp only [go_sem, seval, af_, ad_, ah_, ac_, aa_, ab_, as_, leV, aq_, ar_, V.inn, us, T9_, Ta_]) (by simp only [go_sem, seval, af_, ad_, ah_, ac_, aa_, ab_, as_, leV, aq_, ar_, V.inn, us, T9_, Ta_] <;> ((try simp [bn_]))))
  refine .seq (.seq (.rgn [a4_ (h6_ l hs hl)] (by simp only [go_sem, seval, af_, ad_, ah_, ac_, aa_, ab_]; rfl) ?_ ?_))
  ·(first | trivial | (simp; done) | (simp only [T5_, T3_] at h13; and_intros <;> first | omega | (simp; done) | (simp; omega)))
  refine .condB (by simp only [go_sem, seval, af_, ad_, ah_, ac_, aa_, ab_]; rfl) (by simp only [go_sem, seval, af_, ad_, ah_, ac_, aa_, ab_]) (fun h13 => ?_) (fun h13 => ?_)
  ·refine .skip (.seq (.block (.rgn [] (by simp only [go_sem, seval, af_, ad_, ah_, ac_, aa_, ab_, cw_ (show k < l.length by simp at h13; omega)]; rfl) ?_ ?_)))
   ·(first | trivial | (simp; done) | (simp only [T5_, T3_] at h13; and_intros <;> first | omega | (simp; done) | (simp; omega)))
   refine .rgn [] (by simp only [go_sem, seval, af_, ad_, ah_, ac_, aa_, ab_]; rfl) ?_ ?_
   ·(first | trivial | (simp; done) | (simp only [T5_, T3_] at h13; and_intros <;> first | omega | (simp; done) | (simp; omega)))
   refine Exists.intro (k + 1) ⟨?_, ?_, ?_⟩
   ·simp at h13; exact ⟨by omega, .inl h13.2⟩
   ·simp at h13; omega
   refine Can.trans (Can.swap 33 60 (by decide) (by decide) (by decide) (by decide) (by simp only [go_sem, seval, af_, ad_, ah_, ac_, aa_, ab_, V.cl]) (by simp only [go_sem, seval, af_, ad_, ah_, ac_, aa_, ab_, V.cl]) (by simp only [go_sem, seval, af_, ad_, ah_, ac_, aa_, ab_, bi_, sw, swM, rnB] <;> rfl) (by simp only [go_sem, seval, af_, ad_, ah_, ac_, aa_, ab_, bi_, sw, swM, rnB] <;> rfl) (by simp only [go_sem, seval, af_, ad_, ah_, ac_, aa_, ab_, bi_, sw, swM, rnB] <;> rfl)) ?_
   exact Can.weak (Weak.lit (by simp only [go_sem, seval, af_, ad_, ah_, ac_, aa_, ab_, as_, leV, aq_, ar_, V.inn, us, T9_, Ta_] <;> (rw [bf_ (by simp at h13; omega) (by simp at h13; omega)]; (try simp))) (by simp only [go_sem, seval, af_, ad_, ah_, ac_, aa_, ab_, as_, leV, aq_, ar_, V.inn, us, T9_, Ta_]) (by simp only [go_sem, seval, af_, ad_, ah_, ac_, aa_, ab_, as_, leV, aq_, ar_, V.inn, us, T9_, Ta_] <;> (simp at h13; rw [txTk h13.1])))
  ·refine .exit ?_
   refine Exists.intro (()) ⟨?_, ?_⟩
   ·trivial
   refine Can.trans (Can.frz 60 (by simp only [go_sem, seval, af_, ad_, ah_, ac_, aa_, ab_] <;> rfl) (by simp only [go_sem, seval, af_, ad_, ah_, ac_, aa_, ab_]) (by simp only [go_sem, seval, af_, ad_, ah_, ac_, aa_, ab_] <;> rfl) (by simp only [go_sem, seval, af_, ad_, ah_, ac_, aa_, ab_] <;> rfl)) ?_
   exact Can.weak (Weak.lit (by simp only [go_sem, seval, af_, ad_, ah_, ac_, aa_, ab_, as_, leV, aq_, ar_, V.inn, us, T9_, Ta_] <;> (exact txJ hI.1 hI.2 h13)) (by simp only [go_sem, seval, af_, ad_, ah_, ac_, aa_, ab_, as_, leV, aq_, ar_, V.inn, us, T9_, Ta_]) (by simp only [go_sem, seval, af_, ad_, ah_, ac_, aa_, ab_, as_, leV, aq_, ar_, V.inn, us, T9_, Ta_]))
 refine .seq (.rgn [a4_ (jn_ (fTx (·.text) l) (by omega) (by omega))] (by simp only [go_sem, seval, af_, ad_, ah_, ac_, aa_, ab_]; rfl) ?_ ?_)
 ·(first | trivial | (simp; done) | (simp only [T5_, T3_] at h13; and_intros <;> first | omega | (simp; done) | (simp; omega)))
 refine .ret ⟨.inr rfl, ?_⟩
 exact Out.plain (by simp only [Tryz.results27]; rfl) (by simp only [az_, a7_, go_sem, seval, af_, ad_, ah_, ac_, aa_, ab_] <;> (split <;> rfl)) (by simp only [a5_, go_sem, seval, af_, ad_, ah_, ac_, aa_, ab_] <;> (rw [hX])) (by simp only [go_sem, seval, af_, ad_, ah_, ac_, aa_, ab_])
theorem aa8_ (l : List Pg) (hs : ∀ p ∈ l, pgB p) (hl : l.length ≤ 1000000) : ACall En 25 [.sl false (pgR l)] [] [.sl false (inR (nf_ l))] [] := by
 have hB := fun k => mb_ l k
 refine al_ (fn := Tryz.f25) [] Tryz.func25 rfl rfl (by simp) fun C => ?_
 rw [ay_]
 simp only [Tryz.ntmps25, T7_, List.length_nil, Nat.reduceAdd, Nat.reduceSub, List.replicate_succ, List.replicate_zero, List.cons_append, List.nil_append, bp_]
 refine .seq (.rgn [] (by simp only [go_sem, seval, af_, ad_, ah_, ac_, ai_]; rfl) ?_ ?_)
 ·(first | trivial | (simp; done) | (simp only [T5_, T3_] at h13; and_intros <;> omega) | (have := hB k; simp [ai_]; omega))
 refine .seq (.rgn [] (by simp only [go_sem, seval, af_, ad_, ah_, ac_, ai_]; rfl) ?_ ?_)
 ·(first | trivial | (simp; done) | (simp only [T5_, T3_] at h13; and_intros <;> omega) | (have := hB k; simp [ai_]; omega))
 refine .seq (.seq (.rgn [] (by simp only [go_sem, seval, af_, ad_, ah_, ac_, ai_]; rfl) ?_ ?_))
 ·(first | trivial | (simp; done) | (simp only [T5_, T3_] at h13; and_intros <;> omega) | (have := hB k; simp [ai_]; omega))
 refine .block (.loopK (fun k : Nat => ⟨[.sl false (pgR l), .no, .no, .ow 60 1 0 (d9_ l k).length, .i .i64 k, .no, .no, .no, .no, .no, .no, .no, .no, .no, .no, .no, .no, .no, .no, .no, .no, .no, .no, .no, .no, .no, .no], bc_ [(60, ⟨3, 1, inR (d9_ l k)⟩)], us [60]⟩) (fun k : Nat => k ≤ l.length ∧ (cl_ l = true ∨ k = 0)) (fun k : Nat => l.length - k) (0) ?_ ?_ (fun k hI => ?_))
 ·exact ⟨Nat.zero_le _, .inr rfl⟩
 ·refine Can.trans (Can.ownSlot 3 60 3 1 (by simp only [go_sem, seval, af_, ad_, ah_, ac_, ai_] <;> rfl) (by simp only [go_sem, seval, af_, ad_, ah_, ac_, ai_]) (by simp only [go_sem, seval, af_, ad_, ah_, ac_, ai_] <;> rfl)) ?_
  exact Can.weak (Weak.lit (by simp only [go_sem, seval, af_, ad_, ah_, ac_, ai_, as_, leV, aq_, ar_, V.inn, us, T9_, Ta_] <;> ((try simp [d9_]))) (by simp only [go_sem, seval, af_, ad_, ah_, ac_, ai_, as_, leV, aq_, ar_, V.inn, us, T9_, Ta_]) (by simp only [go_sem, seval, af_, ad_, ah_, ac_, ai_, as_, leV, aq_, ar_, V.inn, us, T9_, Ta_] <;> ((try simp [d9_, inR]))))
 refine .seq (.seq (.rgn [a4_ (h6_ l hs hl)] (by simp only [go_sem, seval, af_, ad_, ah_, ac_, ai_]; rfl) ?_ ?_))
 ·(first | trivial | (simp; done) | (simp only [T5_, T3_] at h13; and_intros <;> omega) | (have := hB k; simp [ai_]; omega))
 refine .condB (by simp only [go_sem, seval, af_, ad_, ah_, ac_, ai_]; rfl) (by simp only [go_sem, seval, af_, ad_, ah_, ac_, ai_]) (fun h13 => ?_) (fun h13 => ?_)
 ·refine .skip (.seqJ (fun u : Unit => ⟨[.sl false (pgR l), .no, .no, .ow 60 1 0 (d9_ l (k + 1)).length, .i .i64 k, .no, .no, .no, .no, .no, .no, .no, .no, .no, .no, .no, .no, .no, .no, .no, .no, .no, .no, .no, .no, .no, .no], bc_ [(60, ⟨3, 1, inR (d9_ l (k + 1))⟩)], us [60]⟩) (fun u : Unit => True) ?_ (fun u hJ => ?_))
  ·refine .block (.seq (.rgn [] (by simp only [go_sem, seval, af_, ad_, ah_, ac_, ai_, cw_ (show k < l.length by simp at h13; omega)]; rfl) ?_ ?_))
   ·(first | trivial | (simp; done) | (simp only [T5_, T3_] at h13; and_intros <;> omega) | (have := hB k; simp [ai_]; omega))
   refine .condB (by simp only [go_sem, seval, af_, ad_, ah_, ac_, ai_]; rfl) (by simp only [go_sem, seval, af_, ad_, ah_, ac_, ai_]) (fun h21 => ?_) (fun h21 => ?_)
   ·refine .rgn [] (by simp only [go_sem, seval, af_, ad_, ah_, ac_, ai_]; rfl) ?_ ?_
    ·(first | trivial | (simp; done) | (simp only [T5_, T3_] at h13; and_intros <;> omega) | (have := hB k; simp [ai_]; omega))
    refine Exists.intro (()) ⟨?_, ?_⟩
    ·trivial
    refine Can.trans (Can.swap 35 60 (by decide) (by decide) (by decide) (by decide) (by simp only [go_sem, seval, af_, ad_, ah_, ac_, ai_, V.cl]) (by simp only [go_sem, seval, af_, ad_, ah_, ac_, ai_, V.cl]) (by simp only [go_sem, seval, af_, ad_, ah_, ac_, ai_, bi_, sw, swM, rnB] <;> rfl) (by simp only [go_sem, seval, af_, ad_, ah_, ac_, ai_, bi_, sw, swM, rnB] <;> rfl) (by simp only [go_sem, seval, af_, ad_, ah_, ac_, ai_, bi_, sw, swM, rnB] <;> rfl)) ?_
    exact Can.weak (Weak.lit (by simp only [go_sem, seval, af_, ad_, ah_, ac_, ai_, as_, leV, aq_, ar_, V.inn, us, T9_, Ta_] <;> (first | (rw [lj_ (i := k) (n := 0) (by simpa using h21)]; done) | (rw [ff_ (i := k) (by simpa using h21)]; done))) (by simp only [go_sem, seval, af_, ad_, ah_, ac_, ai_, as_, leV, aq_, ar_, V.inn, us, T9_, Ta_]) (by simp only [go_sem, seval, af_, ad_, ah_, ac_, ai_, as_, leV, aq_, ar_, V.inn, us, T9_, Ta_] <;> (first | (rw [lr_ (k := k) (by simpa using h21), jz_]; done) | (rw [ff_ (i := k) (by simpa using h21)]; done))))
   ·refine .skip ?_
    refine Exists.intro (()) ⟨?_, ?_⟩
    ·trivial
    exact Can.weak (Weak.lit (by simp only [go_sem, seval, af_, ad_, ah_, ac_, ai_, as_, leV, aq_, ar_, V.inn, us, T9_, Ta_] <;> (first | (rw [lj_ (i := k) (n := 0) (by simpa using h21)]; done) | (rw [ff_ (i := k) (by simpa using h21)]; done))) (by simp only [go_sem, seval, af_, ad_, ah_, ac_, ai_, as_, leV, aq_, ar_, V.inn, us, T9_, Ta_]) (by simp only [go_sem, seval, af_, ad_, ah_, ac_, ai_, as_, leV, aq_, ar_, V.inn, us, T9_, Ta_] <;> (first | (rw [lr_ (k := k) (by simpa using h21), jz_]; done) | (rw [ff_ (i := k) (by simpa using h21)]; done))))
  refine .rgn [] (by simp only [go_sem, seval, af_, ad_, ah_, ac_, ai_]; rfl) ?_ ?_
  ·(first | trivial | (simp; done) | (simp only [T5_, T3_] at h13; and_intros <;> omega) | (have := hB k; simp [ai_]; omega))
  refine Exists.intro (k + 1) ⟨?_, ?_, ?_⟩
  ·simp at h13; exact ⟨by omega, .inl h13.2⟩
  ·simp at h13; omega
  exact Can.weak (Weak.lit (by simp only [go_sem, seval, af_, ad_, ah_, ac_, ai_, as_, leV, aq_, ar_, V.inn, us, T9_, Ta_] <;> (rw [bf_ (by simp at h13; omega) (by simp at h13; omega)]; (try simp))) (by simp only [go_sem, seval, af_, ad_, ah_, ac_, ai_, as_, leV, aq_, ar_, V.inn, us, T9_, Ta_]) (by simp only [go_sem, seval, af_, ad_, ah_, ac_, ai_, as_, leV, aq_, ar_, V.inn, us, T9_, Ta_]))
 ·refine .exit (.seq (.rgn [] (by simp only [go_sem, seval, af_, ad_, ah_, ac_, ai_]; rfl) ?_ ?_))
  ·(first | trivial | (simp; done) | (simp only [T5_, T3_] at h13; and_intros <;> omega) | (have := hB k; simp [ai_]; omega))
  refine .frz 60 (by simp only [go_sem, seval, af_, ad_, ah_, ac_, ai_]; rfl) (by simp only [go_sem, seval, af_, ad_, ah_, ac_, ai_]) (by simp only [go_sem, seval, af_, ad_, ah_, ac_, ai_]; rfl) (by simp only [go_sem, seval, af_, ad_, ah_, ac_, ai_]; rfl) ?_
  refine .ret ⟨.inr rfl, ?_⟩
  exact Out.plain (by simp only [Tryz.results25]; rfl) (by simp only [az_, a7_, go_sem, seval, af_, ad_, ah_, ac_, ai_] <;> (split <;> rfl)) (by simp only [a5_, go_sem, seval, af_, ad_, ah_, ac_, ai_] <;> (rw [bnE hI.1 hI.2 h13, T1_ (by rw [ai_]; exact Nat.le_refl _)])) (by simp only [go_sem, seval, af_, ad_, ah_, ac_, ai_])
end
section
set_option maxRecDepth 100000
set_option maxHeartbeats 4000000
def mx_ (l : List Pg) (k j : Nat) : List Sg := d8_ l k ++ sgK k ((br_ (l.getD k Pg0).text).getD []) (l.getD k Pg0).frm j
theorem i6_ {l : List Pg} (h : cl_ l = true) {k : Nat} (hk : k < l.length) : ((br_ (l.getD k Pg0).text).getD []).length = (l.getD k Pg0).frm.length ∧ (l.getD k Pg0).frm.length ≤ 76 := by
 obtain ⟨q1, q2, _⟩ := gs_ ((co_ h).2.2 k hk)
 have hs := qq_ (l.getD k Pg0).line
 rw [q1, q2]
 exact ⟨by rw [pg_ hs], sr_ hs⟩
theorem rk_ (l : List Pg) (k : Nat) : mx_ l k 0 = d8_ l k := by unfold mx_; rw [l3_, List.append_nil]
theorem wm_ {l : List Pg} (h : cl_ l = true) {k j : Nat} (hk : k < l.length) (hj : (l.getD k Pg0).frm.length ≤ j) : mx_ l k j = d8_ l (k + 1) := by
 have h1 := i6_ h hk
 unfold mx_
 rw [t3_ (.inr hj), d8_]
 congr 1
 cases hg : (l.getD k Pg0).good with
 | true => rfl
 | false =>
  have ho := (co_ h).2.2 k hk
  have := (gs_ ho).2.1
  rw [afa_ ho hg, emF_S0] at this
  rw [this]; unfold sgs; simp
theorem gd_ {l : List Pg} (h : cl_ l = true) {k j : Nat} (hk : k < l.length) (hj : j < (l.getD k Pg0).frm.length) : mx_ l k (j + 1) = mx_ l k j ++ (if 0 ≤ (l.getD k Pg0).frm.getD j 0 then [((k : Int), (((br_ (l.getD k Pg0).text).getD []).getD j T0k).col, (k : Int), (l.getD k Pg0).frm.getD j 0)] else []) := by
 have h1 := i6_ h hk
 unfold mx_
 rw [e3_ (by omega) hj, List.append_assoc]
theorem e6_ {l : List Pg} (h : cl_ l = true) {k j : Nat} (hk : k < l.length) (hj : j ≤ (l.getD k Pg0).frm.length) : (mx_ l k j).length ≤ 3000 := by
 have h1 := i6_ h hk
 have h2 := x7_ (yg_ h) (k := k) (by rw [il_]; omega)
 have h3 := fp_ k ((br_ (l.getD k Pg0).text).getD []) (l.getD k Pg0).frm j
 unfold mx_
 rw [T2_, s5_ h k (by omega)]
 omega
theorem snE {l : List Pg} {k : Nat} (hk : k ≤ l.length) (h : 0 < k → cl_ l = true) (h2 : (decide ((k : Int) < l.length) && cl_ l) = false) : d8_ l k = el_ l := by
 unfold el_
 cases hb : cl_ l with
 | true =>
  rw [hb] at h2
  simp at h2
  rw [if_pos rfl, show k = l.length by omega]
 | false =>
  rw [hb] at h
  obtain rfl : k = 0 := by rcases Nat.eq_zero_or_pos k with q | q; exact q; exact absurd (h q) (by decide)
  rfl
theorem aay_ (l : List Pg) (hs : ∀ p ∈ l, pgB p) (hl : l.length ≤ 1000000) : ACall En 18 [.sl false (pgR l)] [] [.sl false (sgR (el_ l))] [] := by
 have hB : ∀ k, k < l.length → pgB (l.getD k Pg0) := fun k h => hs _ (bj_ h)
 refine al_ (fn := Tryz.f18) [] Tryz.func18 rfl rfl (by simp) fun C => ?_
 rw [ay_]
 simp only [Tryz.ntmps18, T7_, List.length_nil, Nat.reduceAdd, Nat.reduceSub, List.replicate_succ, List.replicate_zero, List.cons_append, List.nil_append, bp_]
 refine .seq (.rgn [] (by simp only [go_sem, seval, af_, ad_, ah_, ac_, ai_, at_, an_, au_, a0_]; rfl) ?_ ?_)
 ·(first | trivial | (simp; done) | (simp only [T5_, T3_] at h16; and_intros <;> omega) | (simp only [T5_, T3_] at h16 h35; have q := i6_ h16.2 (k := k) (by omega); have q2 := e6_ h16.2 (k := k) (j := j) (by omega) (by omega); and_intros <;> first | omega | (simp [bx_]; done) | (simp; omega)))
 refine .seq (.rgn [] (by simp only [go_sem, seval, af_, ad_, ah_, ac_, ai_, at_, an_, au_, a0_]; rfl) ?_ ?_)
 ·(first | trivial | (simp; done) | (simp only [T5_, T3_] at h16; and_intros <;> omega) | (simp only [T5_, T3_] at h16 h35; have q := i6_ h16.2 (k := k) (by omega); have q2 := e6_ h16.2 (k := k) (j := j) (by omega) (by omega); and_intros <;> first | omega | (simp [bx_]; done) | (simp; omega)))
 refine .seq (.seq (.rgn [] (by simp only [go_sem, seval, af_, ad_, ah_, ac_, ai_, at_, an_, au_, a0_]; rfl) ?_ ?_))
 ·(first | trivial | (simp; done) | (simp only [T5_, T3_] at h16; and_intros <;> omega) | (simp only [T5_, T3_] at h16 h35; have q := i6_ h16.2 (k := k) (by omega); have q2 := e6_ h16.2 (k := k) (j := j) (by omega) (by omega); and_intros <;> first | omega | (simp [bx_]; done) | (simp; omega)))
 refine .block (.loopK (fun k : Nat => ⟨[.sl false (pgR l), .no, .no, .ow 80 4 0 (d8_ l k).length, .i .i64 k, .no, .no, .no, .no, .no, .no, .no, .no, .no, .no, .no, .no, .no, .no, .no, .no, .no, .no, .no, .no, .no, .no, .no, .no, .no, .no, .no, .no, .no, .no, .no, .no, .no, .no, .no, .no, .no, .no, .no, .no, .no, .no, .no, .no, .no, .no, .no, .no, .no, .no, .no, .no, .no, .no, .no, .no, .no, .no, .no, .no, .no, .no, .no, .no], bc_ [(80, ⟨32, 4, sgR (d8_ l k)⟩)], us [80]⟩) (fun k : Nat => k ≤ l.length ∧ (0 < k → cl_ l = true)) (fun k : Nat => l.length - k) (0) ?_ ?_ (fun k hI => ?_))
 ·exact ⟨by simp, fun h => by omega⟩
 ·refine Can.trans (Can.ownSlot 3 80 32 4 (by simp only [go_sem, seval, af_, ad_, ah_, ac_, ai_, at_, an_, au_, a0_] <;> rfl) (by simp only [go_sem, seval, af_, ad_, ah_, ac_, ai_, at_, an_, au_, a0_]) (by simp only [go_sem, seval, af_, ad_, ah_, ac_, ai_, at_, an_, au_, a0_] <;> rfl)) ?_
  exact Can.weak (Weak.lit (by simp only [go_sem, seval, af_, ad_, ah_, ac_, ai_, at_, an_, au_, a0_, as_, leV, aq_, ar_, V.inn, us, T9_, Ta_] <;> (simp [d8_])) (by simp only [go_sem, seval, af_, ad_, ah_, ac_, ai_, at_, an_, au_, a0_, as_, leV, aq_, ar_, V.inn, us, T9_, Ta_]) (by simp only [go_sem, seval, af_, ad_, ah_, ac_, ai_, at_, an_, au_, a0_, as_, leV, aq_, ar_, V.inn, us, T9_, Ta_] <;> (simp [d8_, sgR])))
 refine .seq (.seq (.rgn [a4_ (h6_ l hs hl)] (by simp only [go_sem, seval, af_, ad_, ah_, ac_, ai_, at_, an_, au_, a0_]; rfl) ?_ ?_))
 ·(first | trivial | (simp; done) | (simp only [T5_, T3_] at h16; and_intros <;> omega) | (simp only [T5_, T3_] at h16 h35; have q := i6_ h16.2 (k := k) (by omega); have q2 := e6_ h16.2 (k := k) (j := j) (by omega) (by omega); and_intros <;> first | omega | (simp [bx_]; done) | (simp; omega)))
 refine .condB (by simp only [go_sem, seval, af_, ad_, ah_, ac_, ai_, at_, an_, au_, a0_]; rfl) (by simp only [go_sem, seval, af_, ad_, ah_, ac_, ai_, at_, an_, au_, a0_]) (fun h16 => ?_) (fun h16 => ?_)
 ·refine .skip (.seq (.block (.seq (.rgn [cg_ (k < l.length) (fun h => o2_ (l.getD k Pg0).text (by have := (hB k h).2.1; omega))] (by simp only [go_sem, seval, af_, ad_, ah_, ac_, ai_, at_, an_, au_, a0_, cw_ (show k < l.length by simp at h16; exact h16.1)]; rfl) ?_ ?_))))
  ·(first | trivial | (simp; done) | (simp only [T5_, T3_] at h16; and_intros <;> omega) | (simp only [T5_, T3_] at h16 h35; have q := i6_ h16.2 (k := k) (by omega); have q2 := e6_ h16.2 (k := k) (j := j) (by omega) (by omega); and_intros <;> first | omega | (simp [bx_]; done) | (simp; omega)))
  refine .seq (.rgn [] (by simp only [go_sem, seval, af_, ad_, ah_, ac_, ai_, at_, an_, au_, a0_]; rfl) ?_ ?_)
  ·(first | trivial | (simp; done) | (simp only [T5_, T3_] at h16; and_intros <;> omega) | (simp only [T5_, T3_] at h16 h35; have q := i6_ h16.2 (k := k) (by omega); have q2 := e6_ h16.2 (k := k) (j := j) (by omega) (by omega); and_intros <;> first | omega | (simp [bx_]; done) | (simp; omega)))
  refine .block (.loopK (fun j : Nat => ⟨[.sl false (pgR l), .no, .no, .ow 80 4 0 (mx_ l k j).length, .i .i64 k, .sl false (tkR ((br_ (l.getD k Pg0).text).getD [])), .no, .i .i64 j, .no, .no, .no, .no, .no, .no, .no, .no, .no, .no, .no, .no, .no, .no, .no, .no, .no, .no, .no, .no, .no, .no, .no, .no, .no, .no, .no, .no, .no, .no, .no, .no, .no, .no, .no, .no, .no, .no, .no, .no, .no, .no, .no, .no, .no, .no, .no, .no, .no, .no, .no, .no, .no, .no, .no, .no, .no, .no, .no, .no, .no], bc_ [(80, ⟨32, 4, sgR (mx_ l k j)⟩)], us [80]⟩) (fun j : Nat => k ≤ l.length ∧ (0 < k → cl_ l = true) ∧ j ≤ (l.getD k Pg0).frm.length) (fun j : Nat => (l.getD k Pg0).frm.length - j) (0) ?_ ?_ (fun j hI => ?_))
  ·exact ⟨hI.1, hI.2, Nat.zero_le _⟩
  ·exact Can.weak (Weak.lit (by simp only [go_sem, seval, af_, ad_, ah_, ac_, ai_, at_, an_, au_, a0_, as_, leV, aq_, ar_, V.inn, us, T9_, Ta_] <;> (simp [rk_])) (by simp only [go_sem, seval, af_, ad_, ah_, ac_, ai_, at_, an_, au_, a0_, as_, leV, aq_, ar_, V.inn, us, T9_, Ta_]) (by simp only [go_sem, seval, af_, ad_, ah_, ac_, ai_, at_, an_, au_, a0_, as_, leV, aq_, ar_, V.inn, us, T9_, Ta_] <;> (simp [rk_])))
  refine .seq (.seq (.rgn [] (by simp only [go_sem, seval, af_, ad_, ah_, ac_, ai_, at_, an_, au_, a0_, cw_ (show k < l.length by simp at h16; exact h16.1)]; rfl) ?_ ?_))
  ·(first | trivial | (simp; done) | (simp only [T5_, T3_] at h16; and_intros <;> omega) | (simp only [T5_, T3_] at h16 h35; have q := i6_ h16.2 (k := k) (by omega); have q2 := e6_ h16.2 (k := k) (j := j) (by omega) (by omega); and_intros <;> first | omega | (simp [bx_]; done) | (simp; omega)))
  refine .condB (by simp only [go_sem, seval, af_, ad_, ah_, ac_, ai_, at_, an_, au_, a0_]; rfl) (by simp only [go_sem, seval, af_, ad_, ah_, ac_, ai_, at_, an_, au_, a0_]) (fun h35 => ?_) (fun h35 => ?_)
  ·refine .skip (.seqJ (fun u : Unit => ⟨[.sl false (pgR l), .no, .no, .ow 80 4 0 (mx_ l k (j + 1)).length, .i .i64 k, .sl false (tkR ((br_ (l.getD k Pg0).text).getD [])), .no, .i .i64 j, .no, .no, .no, .no, .no, .no, .no, .no, .no, .no, .no, .no, .no, .no, .no, .no, .no, .no, .no, .no, .no, .no, .no, .no, .no, .no, .no, .no, .no, .no, .no, .no, .no, .no, .no, .no, .no, .no, .no, .no, .no, .no, .no, .no, .no, .no, .no, .no, .no, .no, .no, .no, .no, .no, .no, .no, .no, .no, .no, .no, .no], bc_ [(80, ⟨32, 4, sgR (mx_ l k (j + 1))⟩)], us [80]⟩) (fun u : Unit => True) ?_ (fun u hJ => ?_))
   ·refine .block (.seq (.rgn [] (by simp only [go_sem, seval, af_, ad_, ah_, ac_, ai_, at_, an_, au_, a0_, cw_ (show k < l.length by simp at h16; exact h16.1), d0_ (show j < (l.getD k Pg0).frm.length by simpa using h35)]; rfl) ?_ ?_))
    ·(first | trivial | (simp; done) | (simp only [T5_, T3_] at h16; and_intros <;> omega) | (simp only [T5_, T3_] at h16 h35; have q := i6_ h16.2 (k := k) (by omega); have q2 := e6_ h16.2 (k := k) (j := j) (by omega) (by omega); and_intros <;> first | omega | (simp [bx_]; done) | (simp; omega)))
    refine .condB (by simp only [go_sem, seval, af_, ad_, ah_, ac_, ai_, at_, an_, au_, a0_]; rfl) (by simp only [go_sem, seval, af_, ad_, ah_, ac_, ai_, at_, an_, au_, a0_]) (fun h46 => ?_) (fun h46 => ?_)
    ·refine .rgnD [] enM (by simp only [go_sem, seval, af_, ad_, ah_, ac_, ai_, at_, an_, au_, a0_, cw_ (show k < l.length by simp at h16; exact h16.1), d0_ (show j < (l.getD k Pg0).frm.length by simpa using h35), n6_ (show j < ((br_ (l.getD k Pg0).text).getD []).length by (simp only [T5_, T3_] at h16 h35; have := (i6_ h16.2 (k := k) (by omega)).1; omega))]; rfl) (by rfl) ?_ ?_
     ·(first | trivial | (simp; done) | (simp only [T5_, T3_] at h16; and_intros <;> omega) | (simp only [T5_, T3_] at h16 h35; have q := i6_ h16.2 (k := k) (by omega); have q2 := e6_ h16.2 (k := k) (j := j) (by omega) (by omega); and_intros <;> first | omega | (simp [bx_]; done) | (simp; omega)))
     refine Exists.intro (()) ⟨?_, ?_⟩
     ·trivial
     refine Can.trans (Can.swap 77 80 (by decide) (by decide) (by decide) (by decide) (by simp only [go_sem, seval, af_, ad_, ah_, ac_, ai_, at_, an_, au_, a0_, V.cl]) (by simp only [go_sem, seval, af_, ad_, ah_, ac_, ai_, at_, an_, au_, a0_, V.cl]) (by simp only [go_sem, seval, af_, ad_, ah_, ac_, ai_, at_, an_, au_, a0_, bi_, sw, swM, rnB] <;> rfl) (by simp only [go_sem, seval, af_, ad_, ah_, ac_, ai_, at_, an_, au_, a0_, bi_, sw, swM, rnB] <;> rfl) (by simp only [go_sem, seval, af_, ad_, ah_, ac_, ai_, at_, an_, au_, a0_, bi_, sw, swM, rnB] <;> rfl)) ?_
     exact Can.weak (Weak.lit (by simp only [go_sem, seval, af_, ad_, ah_, ac_, ai_, at_, an_, au_, a0_, as_, leV, aq_, ar_, V.inn, us, T9_, Ta_] <;> (simp only [T5_, T3_] at h16 h35; first | (rw [gd_ h16.2 (by omega) (by omega), if_pos (by simpa using h46)]; simp; done) | (rw [gd_ h16.2 (by omega) (by omega), if_neg (by simpa using h46)]; simp; done))) (by simp only [go_sem, seval, af_, ad_, ah_, ac_, ai_, at_, an_, au_, a0_, as_, leV, aq_, ar_, V.inn, us, T9_, Ta_]) (by simp only [go_sem, seval, af_, ad_, ah_, ac_, ai_, at_, an_, au_, a0_, as_, leV, aq_, ar_, V.inn, us, T9_, Ta_] <;> (simp only [T5_, T3_] at h16 h35; first | (rw [gd_ h16.2 (by omega) (by omega), if_pos (by simpa using h46)]; simp [sgR, sgC, T0k]; done) | (rw [gd_ h16.2 (by omega) (by omega), if_neg (by simpa using h46)]; simp; done))))
    ·refine .skip ?_
     refine Exists.intro (()) ⟨?_, ?_⟩
     ·trivial
     exact Can.weak (Weak.lit (by simp only [go_sem, seval, af_, ad_, ah_, ac_, ai_, at_, an_, au_, a0_, as_, leV, aq_, ar_, V.inn, us, T9_, Ta_] <;> (simp only [T5_, T3_] at h16 h35; first | (rw [gd_ h16.2 (by omega) (by omega), if_pos (by simpa using h46)]; simp; done) | (rw [gd_ h16.2 (by omega) (by omega), if_neg (by simpa using h46)]; simp; done))) (by simp only [go_sem, seval, af_, ad_, ah_, ac_, ai_, at_, an_, au_, a0_, as_, leV, aq_, ar_, V.inn, us, T9_, Ta_]) (by simp only [go_sem, seval, af_, ad_, ah_, ac_, ai_, at_, an_, au_, a0_, as_, leV, aq_, ar_, V.inn, us, T9_, Ta_] <;> (simp only [T5_, T3_] at h16 h35; first | (rw [gd_ h16.2 (by omega) (by omega), if_pos (by simpa using h46)]; simp [sgR, sgC, T0k]; done) | (rw [gd_ h16.2 (by omega) (by omega), if_neg (by simpa using h46)]; simp; done))))
   refine .rgn [] (by simp only [go_sem, seval, af_, ad_, ah_, ac_, ai_, at_, an_, au_, a0_]; rfl) ?_ ?_
   ·(first | trivial | (simp; done) | (simp only [T5_, T3_] at h16; and_intros <;> omega) | (simp only [T5_, T3_] at h16 h35; have q := i6_ h16.2 (k := k) (by omega); have q2 := e6_ h16.2 (k := k) (j := j) (by omega) (by omega); and_intros <;> first | omega | (simp [bx_]; done) | (simp; omega)))
   refine Exists.intro (j + 1) ⟨?_, ?_, ?_⟩
   ·simp only [T3_] at h35; exact ⟨hI.1, hI.2.1, by omega⟩
   ·simp only [T3_] at h35; omega
   exact Can.weak (Weak.lit (by simp only [go_sem, seval, af_, ad_, ah_, ac_, ai_, at_, an_, au_, a0_, as_, leV, aq_, ar_, V.inn, us, T9_, Ta_] <;> (simp only [T5_, T3_] at h16 h35; have := i6_ h16.2 (k := k) (by omega); rw [bf_ (by omega) (by omega)]; (try simp))) (by simp only [go_sem, seval, af_, ad_, ah_, ac_, ai_, at_, an_, au_, a0_, as_, leV, aq_, ar_, V.inn, us, T9_, Ta_]) (by simp only [go_sem, seval, af_, ad_, ah_, ac_, ai_, at_, an_, au_, a0_, as_, leV, aq_, ar_, V.inn, us, T9_, Ta_]))
  ·refine .exit (.rgn [] (by simp only [go_sem, seval, af_, ad_, ah_, ac_, ai_, at_, an_, au_, a0_]; rfl) ?_ ?_)
   ·(first | trivial | (simp; done) | (simp only [T5_, T3_] at h16; and_intros <;> omega) | (simp only [T5_, T3_] at h16 h35; have q := i6_ h16.2 (k := k) (by omega); have q2 := e6_ h16.2 (k := k) (j := j) (by omega) (by omega); and_intros <;> first | omega | (simp [bx_]; done) | (simp; omega)))
   refine Exists.intro (k + 1) ⟨?_, ?_, ?_⟩
   ·simp at h16; exact ⟨by omega, fun _ => h16.2⟩
   ·simp at h16; omega
   exact Can.weak (Weak.lit (by simp only [go_sem, seval, af_, ad_, ah_, ac_, ai_, at_, an_, au_, a0_, as_, leV, aq_, ar_, V.inn, us, T9_, Ta_] <;> (simp only [T5_, T3_, T4_] at h16 h35; rw [bf_ (by omega) (by omega), wm_ h16.2 (by omega) (j := j) (by omega)]; (try simp))) (by simp only [go_sem, seval, af_, ad_, ah_, ac_, ai_, at_, an_, au_, a0_, as_, leV, aq_, ar_, V.inn, us, T9_, Ta_]) (by simp only [go_sem, seval, af_, ad_, ah_, ac_, ai_, at_, an_, au_, a0_, as_, leV, aq_, ar_, V.inn, us, T9_, Ta_] <;> (simp only [T5_, T3_, T4_] at h16 h35; rw [wm_ h16.2 (by omega) (j := j) (by omega)])))
 ·refine .exit (.seq (.rgn [] (by simp only [go_sem, seval, af_, ad_, ah_, ac_, ai_, at_, an_, au_, a0_]; rfl) ?_ ?_))
  ·(first | trivial | (simp; done) | (simp only [T5_, T3_] at h16; and_intros <;> omega) | (simp only [T5_, T3_] at h16 h35; have q := i6_ h16.2 (k := k) (by omega); have q2 := e6_ h16.2 (k := k) (j := j) (by omega) (by omega); and_intros <;> first | omega | (simp [bx_]; done) | (simp; omega)))
  refine .frz 80 (by simp only [go_sem, seval, af_, ad_, ah_, ac_, ai_, at_, an_, au_, a0_]; rfl) (by simp only [go_sem, seval, af_, ad_, ah_, ac_, ai_, at_, an_, au_, a0_]) (by simp only [go_sem, seval, af_, ad_, ah_, ac_, ai_, at_, an_, au_, a0_]; rfl) (by simp only [go_sem, seval, af_, ad_, ah_, ac_, ai_, at_, an_, au_, a0_]; rfl) ?_
  refine .ret ⟨.inr rfl, ?_⟩
  exact Out.plain (by simp only [Tryz.results18]; rfl) (by simp only [az_, a7_, go_sem, seval, af_, ad_, ah_, ac_, ai_, at_, an_, au_, a0_] <;> (split <;> rfl)) (by simp only [a5_, go_sem, seval, af_, ad_, ah_, ac_, ai_, at_, an_, au_, a0_] <;> (rw [snE hI.1 hI.2 h16, T1_ (by rw [a0_]; exact Nat.le_refl _)])) (by simp only [go_sem, seval, af_, ad_, ah_, ac_, ai_, at_, an_, au_, a0_])
end
end Go.Proofs.YtilppnadkfgnfaaGreatDoor
