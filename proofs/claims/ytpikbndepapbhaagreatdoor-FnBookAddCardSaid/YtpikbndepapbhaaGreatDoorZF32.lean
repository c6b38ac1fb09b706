/- The law FnBookAdd: what it answers. Conditions: none. -/
import Derived.Test.YtpikbndepapbhaaGreatDoorK16
import Derived.Test.YtpikbndepapbhaaGreatDoorK15
set_option linter.unusedVariables false
set_option linter.unusedSimpArgs false
namespace Go.Proofs.YtpikbndepapbhaaGreatDoor
set_option maxRecDepth 100000
set_option maxHeartbeats 4000000
theorem amm_ {ls : List Str} (h : ∀ w ∈ ls, w.length ≤ 4000) (k : Nat) : ∀ p ∈ f0_ ls k, pgB p := fun p hp => by
 obtain ⟨w, hw, rfl⟩ := List.mem_map.1 hp
 exact p6_ (by have := h w (List.mem_of_mem_take hw); omega)
theorem wj_ {ls : List Str} {k : Nat} (h : ls.length ≤ k) : f0_ ls k = ls.map db_ := by unfold f0_; rw [T1_ h]
theorem uq_ (c : Str) : ACall En 9 [.sl false (byR c)] [] [.b true] [] := by
 have DA := tn_ c
 have hx := aa8_ (c.take 2000) (p := 0) (by decide) (by decide)
 generalize (dTx (c.take 2000) 0).1 = s at *
 have hB := amw_ s
 have hn := qa_ s
 have hM := ht_ s
 have hL : ∀ w ∈ c0_ s, d4_ w = true := fun w h => adm_ h
 have hne := @ai2_ s
 have hT := mp_ s (by omega)
 have hI0 := s0_ s (by omega)
 have hS0 := adu_ s (by omega)
 have T := k9_ s
 generalize fc_ s = b at *
 generalize c0_ s = ls at *
 have h1 : b ≠ [] → b = ls.map db_ ∧ ls.length ≤ 16 ∧ 0 < ls.length := fun h => by
  obtain ⟨_, q2, _, q4⟩ := hne h
  exact ⟨q4, q2, List.length_pos_iff.2 fun e => h (by rw [q4, e]; rfl)⟩
 have hb : ((b.length : Int) == 0) = false → b ≠ [] := fun h e => by rw [e] at h; simp at h
 have hbl : b ≠ [] → b.length = ls.length := fun h => by have q := congrArg List.length (h1 h).1; rw [List.length_map] at q; exact q
 have hbm : ∀ m, b ≠ [] → b.take m = f0_ ls m := fun m h => by rw [← ab8_, ← (h1 h).1]
 have hM2 : ∀ k, (ls.getD k []).length ≤ 4000 := fun k => by
  rcases Nat.lt_or_ge k ls.length with q | q
  ·exact hM _ (bh_ q)
  ·rw [T8_, List.getElem?_eq_none q]; simp
 have aB := amm_ hM
 have aL : ∀ k, (f0_ ls k).length ≤ ls.length := fun k => by unfold f0_; simp; omega
 have cB : ∀ k (a : Int) (d : Nat) (w : List Str), (∀ s ∈ w, s.length ≤ 2000000) → ∀ p ∈ chg (f0_ ls k) a d w, pgB p := fun k a d w h => jo_ (aB k) h
 have h0 : b ≠ [] → fc_ (ls.getD 0 []) = f0_ ls 1 := fun h => by
  have q := h1 h
  rw [adf_ (hL _ (bh_ q.2.2)), show (1 : Nat) = 0 + 1 from rfl, q3_ q.2.2]; rfl
 refine ak_ (fn := Tryz.f9) [] Tryz.func9 rfl rfl (by simp) fun C => ?_
 rw [aw_]
 simp only [Tryz.ntmps9, T7_, List.length_nil, Nat.reduceAdd, Nat.reduceSub, List.replicate_succ, List.replicate_zero, List.cons_append, List.nil_append, bo_]
 refine .seq (.rgn [] (by simp only [go_sem, seval, ad_, ae_, aa_, ab_]; rfl) ?_ ?_)
 ·first | trivial | simp
 refine .seq (.seq (.rgn [] (by simp only [go_sem, seval, ad_, ae_, aa_, ab_]; rfl) ?_ ?_))
 ·first | trivial | simp
 refine .condB (by simp only [go_sem, seval, ad_, ae_, aa_, ab_]; rfl) (by simp only [go_sem, seval, ad_, ae_, aa_, ab_]) (fun h15 => ?_) (fun h15 => ?_)
 ·refine .seq (.rgn [] (by simp only [go_sem, seval, ad_, ae_, aa_, ab_]; rfl) ?_ ?_)
  ·first | trivial | simp
  refine .ret ⟨.inr rfl, ?_⟩
  exact Out.plain (by simp only [Tryz.results9]; rfl) (by simp only [ay_, a6_, go_sem, seval, ad_, ae_, aa_, ab_] <;> (split <;> rfl)) (by simp only [a5_, go_sem, seval, ad_, ae_, aa_, ab_] <;> (rfl)) (by simp only [go_sem, seval, ad_, ae_, aa_, ab_])
 ·refine .skip (.seq (.rgn [a3_ DA] (by simp only [go_sem, seval, ad_, ae_, aa_, ab_]; rfl) ?_ ?_))
  ·first | trivial | simp
  refine .seq (.rgn [a3_ hI0] (by simp only [go_sem, seval, ad_, ae_, aa_, ab_]; rfl) ?_ ?_)
  ·first | trivial | simp
  refine .seq (.seq (.rgn [a3_ hS0, a3_ (d5_ b b hB (by omega) (by omega))] (by simp only [go_sem, seval, ad_, ae_, aa_, ab_]; rfl) ?_ ?_))
  ·first | trivial | simp
  refine .condB (by simp only [go_sem, seval, ad_, ae_, aa_, ab_]; rfl) (by simp only [go_sem, seval, ad_, ae_, aa_, ab_]) (fun h29 => ?_) (fun h29 => ?_)
  ·refine .seq (.rgn [a3_ hS0, a3_ (d5_ b b hB (by omega) (by omega))] (by simp only [go_sem, seval, ad_, ae_, aa_, ab_]; rfl) ?_ ?_)
   ·first | trivial | simp
   refine .ret ⟨.inr rfl, ?_⟩
   exact Out.plain (by simp only [Tryz.results9]; rfl) (by simp only [ay_, a6_, go_sem, seval, ad_, ae_, aa_, ab_] <;> (split <;> rfl)) (by simp only [a5_, go_sem, seval, ad_, ae_, aa_, ab_] <;> (simp)) (by simp only [go_sem, seval, ad_, ae_, aa_, ab_])
  ·refine .skip (.seq (.rgn [a3_ hT] (by simp only [go_sem, seval, ad_, ae_, aa_, ab_]; rfl) ?_ ?_))
   ·first | trivial | simp
   refine .seq (.rgn [a3_ (s0_ (ls.getD 0 []) (by have := hM2 0; omega))] (by simp only [go_sem, seval, ad_, ae_, aa_, ab_, ca_ (show 0 < ls.length by exact (h1 (hb h29)).2.2)]; rfl) ?_ ?_)
   ·have q := (h1 (hb h29)).2.2; omega
   refine .seqJ (fun u : Unit => ⟨[.no, .no, .no, .no, .sl false (pgR b), .sl false (bp_ ls), .sl false (pgR b), .no, .no, .no, .no, .no, .no, .no, .no, .no, .no, .no, .no, .no, .no, .no, .no, .no, .no, .no, .no, .no, .no, .no, .no, .no, .no, .no, .no, .no, .no, .no, .no, .no, .no, .no, .no, .no, .no, .no, .no, .no, .no, .no, .no, .no, .no, .no, .no, .no, .no, .no, .no, .no, .no, .no, .no, .no, .no, .no, .no, .no, .no, .no, .no, .no, .no, .no, .no, .no, .no, .no, .no, .no, .no, .no, .no, .no, .no, .no, .no, .no, .no, .no], be_ [], us []⟩) (fun u : Unit => b ≠ []) ?_ (fun u hJ => ?_)
   ·refine .seq (.rgn [] (by simp only [go_sem, seval, ad_, ae_, aa_, ab_]; rfl) ?_ ?_)
    ·first | trivial | simp
    refine .block (.loopK (fun i : Nat => ⟨[.no, .no, .no, .no, .sl false (pgR b), .sl false (bp_ ls), .sl false (pgR (f0_ ls i)), .i .i64 i, .no, .no, .no, .no, .no, .no, .no, .no, .no, .no, .no, .no, .no, .no, .no, .no, .no, .no, .no, .no, .no, .no, .no, .no, .no, .no, .no, .no, .no, .no, .no, .no, .no, .no, .no, .no, .no, .no, .no, .no, .no, .no, .no, .no, .no, .no, .no, .no, .no, .no, .no, .no, .no, .no, .no, .no, .no, .no, .no, .no, .no, .no, .no, .no, .no, .no, .no, .no, .no, .no, .no, .no, .no, .no, .no, .no, .no, .no, .no, .no, .no, .no], be_ [], us []⟩) (fun i : Nat => 1 ≤ i ∧ i ≤ ls.length ∧ b ≠ []) (fun i : Nat => ls.length - i) (1) ?_ ?_ (fun i hI => ?_))
    ·exact ⟨Nat.le_refl _, (h1 (hb h29)).2.2, hb h29⟩
    ·exact Can.weak (Weak.lit (by simp only [go_sem, seval, ad_, ae_, aa_, ab_, ar_, leV, ap_, aq_, V.inn, us, T9_, Ta_] <;> (rw [h0 (hb h29)]; simp [a9_])) (by simp only [go_sem, seval, ad_, ae_, aa_, ab_, ar_, leV, ap_, aq_, V.inn, us, T9_, Ta_]) (by simp only [go_sem, seval, ad_, ae_, aa_, ab_, ar_, leV, ap_, aq_, V.inn, us, T9_, Ta_]))
    refine .seq (.seq (.rgn [] (by simp only [go_sem, seval, ad_, ae_, aa_, ab_]; rfl) ?_ ?_))
    ·first | trivial | simp
    refine .condB (by simp only [go_sem, seval, ad_, ae_, aa_, ab_]; rfl) (by simp only [go_sem, seval, ad_, ae_, aa_, ab_]) (fun h43 => ?_) (fun h43 => ?_)
    ·refine .skip (.seq (.block (.seq (.rgn [b9_ (b ≠ [] ∧ i < ls.length) (fun h => kx_ (f0_ ls i) i (ls.getD i []) (aB i) (by have := aL i; have := h1 h.1; omega) (by omega) (by have := h1 h.1; omega) (by have := hM2 i; omega))] (by simp only [go_sem, seval, ad_, ae_, aa_, ab_, ca_ (show i < ls.length by simpa using h43)]; rfl) ?_ ?_))))
     ·simp only [T3_] at h43; exact ⟨⟨by omega, by omega⟩, hI.2.2, by omega⟩
     refine .seq (.seq (.rgn [] (by simp only [go_sem, seval, ad_, ae_, aa_, ab_]; rfl) ?_ ?_))
     ·first | trivial | simp
     refine .condB (by simp only [go_sem, seval, ad_, ae_, aa_, ab_]; rfl) (by simp only [go_sem, seval, ad_, ae_, aa_, ab_]) (fun h57 => ?_) (fun h57 => ?_)
     ·have q := h1 hI.2.2; have z := (aej_ hL q.2.1 hI.1 (show i < ls.length by simpa using h43)).1; rw [z] at h57; cases h57
     ·refine .skip (.rgn [] (by simp only [go_sem, seval, ad_, ae_, aa_, ab_]; rfl) ?_ ?_)
      ·first | trivial | simp
      refine .rgn [] (by simp only [go_sem, seval, ad_, ae_, aa_, ab_]; rfl) ?_ ?_
      ·first | trivial | simp
      refine Exists.intro (i + 1) ⟨?_, ?_, ?_⟩
      ·simp at h43; exact ⟨by omega, by omega, hI.2.2⟩
      ·simp at h43; omega
      exact Can.weak (Weak.lit (by simp only [go_sem, seval, ad_, ae_, aa_, ab_, ar_, leV, ap_, aq_, V.inn, us, T9_, Ta_] <;> (have q := h1 hI.2.2; have hi : i < ls.length := (by simpa using h43); have z := (aej_ hL q.2.1 hI.1 hi).2; exact ⟨by rw [z]; exact a9_ _, bd_ (n := ((i + 1 : Nat) : Int)) (by omega) (by omega)⟩)) (by simp only [go_sem, seval, ad_, ae_, aa_, ab_, ar_, leV, ap_, aq_, V.inn, us, T9_, Ta_]) (by simp only [go_sem, seval, ad_, ae_, aa_, ab_, ar_, leV, ap_, aq_, V.inn, us, T9_, Ta_]))
    ·refine .exit ?_
     refine Exists.intro (()) ⟨?_, ?_⟩
     ·exact hI.2.2
     exact Can.weak (Weak.lit (by simp only [go_sem, seval, ad_, ae_, aa_, ab_, ar_, leV, ap_, aq_, V.inn, us, T9_, Ta_] <;> (simp only [T4_] at h43; rw [wj_ (by omega), ← (h1 hI.2.2).1]; exact a9_ _)) (by simp only [go_sem, seval, ad_, ae_, aa_, ab_, ar_, leV, ap_, aq_, V.inn, us, T9_, Ta_]) (by simp only [go_sem, seval, ad_, ae_, aa_, ab_, ar_, leV, ap_, aq_, V.inn, us, T9_, Ta_]))
   refine .seq (.seq (.rgn [a3_ (d5_ b b hB (by omega) (by omega))] (by simp only [go_sem, seval, ad_, ae_, aa_, ab_]; rfl) ?_ ?_))
   ·first | trivial | simp
   refine .condB (by simp only [go_sem, seval, ad_, ae_, aa_, ab_]; rfl) (by simp only [go_sem, seval, ad_, ae_, aa_, ab_]) (fun h62 => ?_) (fun h62 => ?_)
   ·simp at h62
   ·refine .skip (.seq (.seq (.rgn [] (by simp only [go_sem, seval, ad_, ae_, aa_, ab_]; rfl) ?_ ?_)))
    ·first | trivial | simp
    refine .block (.loopK (fun m : Nat => ⟨[.no, .no, .no, .no, .sl false (pgR b), .no, .sl false (pgR (f0_ ls (m + 1))), .no, .no, .no, .i .i64 m, .no, .no, .no, .no, .no, .no, .no, .no, .no, .no, .no, .no, .no, .no, .no, .no, .no, .no, .no, .no, .no, .no, .no, .no, .no, .no, .no, .no, .no, .no, .no, .no, .no, .no, .no, .no, .no, .no, .no, .no, .no, .no, .no, .no, .no, .no, .no, .no, .no, .no, .no, .no, .no, .no, .no, .no, .no, .no, .no, .no, .no, .no, .no, .no, .no, .no, .no, .no, .no, .no, .no, .no, .no, .no, .no, .no, .no, .no, .no], be_ [], us []⟩) (fun m : Nat => m < ls.length ∧ b ≠ []) (fun m : Nat => m) (ls.length - 1) ?_ ?_ (fun m hI => ?_))
    ·have q := h1 hJ; exact ⟨by omega, hJ⟩
    ·exact Can.weak (Weak.lit (by simp only [go_sem, seval, ad_, ae_, aa_, ab_, ar_, leV, ap_, aq_, V.inn, us, T9_, Ta_] <;> (have q := h1 hJ; exact ⟨by rw [wj_ (k := ls.length - 1 + 1) (by omega), ← q.1]; exact a9_ _, by rw [bd_ (by omega) (by omega)]; omega⟩)) (by simp only [go_sem, seval, ad_, ae_, aa_, ab_, ar_, leV, ap_, aq_, V.inn, us, T9_, Ta_]) (by simp only [go_sem, seval, ad_, ae_, aa_, ab_, ar_, leV, ap_, aq_, V.inn, us, T9_, Ta_]))
    refine .seq (.seq (.rgn [] (by simp only [go_sem, seval, ad_, ae_, aa_, ab_]; rfl) ?_ ?_))
    ·first | trivial | simp
    refine .condB (by simp only [go_sem, seval, ad_, ae_, aa_, ab_]; rfl) (by simp only [go_sem, seval, ad_, ae_, aa_, ab_]) (fun h67 => ?_) (fun h67 => ?_)
    ·refine .skip (.seq (.block (.seq (.rgn [b9_ (b ≠ [] ∧ m < ls.length) (fun h => rg_ (f0_ ls (m + 1)) m (aB _) (by have := aL (m + 1); have := h1 h.1; omega) (by omega) (by have := h1 h.1; omega))] (by simp only [go_sem, seval, ad_, ae_, aa_, ab_]; rfl) ?_ ?_))))
     ·exact ⟨hI.2, hI.1⟩
     refine .seq (.seq (.rgn [b9_ (b ≠ [] ∧ m < ls.length) (fun h => d5_ (chg (f0_ ls (m + 1)) m 1 []) (b.take m) (cB _ _ _ _ (fun s h => by cases h)) (by have := g0_ (f0_ ls (m + 1)) m 1 []; have := aL (m + 1); have := h1 h.1; simp at *; omega) (by simp; omega))] (by simp only [go_sem, seval, ad_, ae_, aa_, ab_]; rfl) ?_ ?_))
     ·have q := hbl hI.2; exact ⟨⟨fun h => ⟨h, by omega, by omega, by omega, fun h => absurd rfl h⟩, fun h => ⟨h, by rw [x1_]; exact a9_ _, hI.2, hI.1⟩⟩, fun h => by rw [h]; rfl⟩
     refine .condB (by simp only [go_sem, seval, ad_, ae_, aa_, ab_]; rfl) (by simp only [go_sem, seval, ad_, ae_, aa_, ab_]) (fun h85 => ?_) (fun h85 => ?_)
     ·have q := h1 hI.2; have hm : 0 < m := (by simpa using h67); obtain ⟨z1, z2⟩ := z7_ hL q.2.1 (i := m) hm hI.1; rw [z1, z2, hbm m hI.2] at h85; simp at h85
     ·refine .skip (.rgn [] (by simp only [go_sem, seval, ad_, ae_, aa_, ab_]; rfl) ?_ ?_)
      ·first | trivial | simp
      refine .rgn [] (by simp only [go_sem, seval, ad_, ae_, aa_, ab_]; rfl) ?_ ?_
      ·first | trivial | simp
      refine Exists.intro (m - 1) ⟨?_, ?_, ?_⟩
      ·simp at h67; exact ⟨by omega, hI.2⟩
      ·simp at h67; omega
      exact Can.weak (Weak.lit (by simp only [go_sem, seval, ad_, ae_, aa_, ab_, ar_, leV, ap_, aq_, V.inn, us, T9_, Ta_] <;> (have q := h1 hI.2; have hm : 0 < m := (by simpa using h67); have z := (z7_ hL q.2.1 (i := m) hm hI.1).2; exact ⟨by rw [z, show m - 1 + 1 = m by omega]; exact a9_ _, by rw [bd_ (by omega) (by omega)]; omega⟩)) (by simp only [go_sem, seval, ad_, ae_, aa_, ab_, ar_, leV, ap_, aq_, V.inn, us, T9_, Ta_]) (by simp only [go_sem, seval, ad_, ae_, aa_, ab_, ar_, leV, ap_, aq_, V.inn, us, T9_, Ta_]))
    ·refine .exit (.seq (.rgn [] (by simp only [go_sem, seval, ad_, ae_, aa_, ab_]; rfl) ?_ ?_))
     ·first | trivial | simp
     refine .ret ⟨.inr rfl, ?_⟩
     exact Out.plain (by simp only [Tryz.results9]; rfl) (by simp only [ay_, a6_, go_sem, seval, ad_, ae_, aa_, ab_] <;> (split <;> rfl)) (by simp only [a5_, go_sem, seval, ad_, ae_, aa_, ab_] <;> (rw [show m = 0 by simpa using h67, na_ (by omega)]; rfl)) (by simp only [go_sem, seval, ad_, ae_, aa_, ab_])
end Go.Proofs.YtpikbndepapbhaaGreatDoor
