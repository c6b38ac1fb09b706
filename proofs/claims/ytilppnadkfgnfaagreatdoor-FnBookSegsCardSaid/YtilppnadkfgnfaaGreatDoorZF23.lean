/- The law FnBookSegs: what it answers. Conditions: none. -/
import Derived.Test.YtilppnadkfgnfaaGreatDoorK13
import Derived.Test.YtilppnadkfgnfaaGreatDoorK14
import Derived.Test.YtilppnadkfgnfaaGreatDoorK4
set_option linter.unusedVariables false
set_option linter.unusedSimpArgs false
namespace Go.Proofs.YtilppnadkfgnfaaGreatDoor
set_option maxRecDepth 100000
set_option maxHeartbeats 4000000
/-- line by line, each by itself -/
def oneJ (l : List Pg) (k j : Nat) : List Sg := d8_ l k ++ ((el_ [l.getD k Pg0]).take j).map (ajg_ k)
theorem abr_ (l : List Pg) (k : Nat) : oneJ l k 0 = d8_ l k := by simp [oneJ]
theorem ac1_ {l : List Pg} (h : cl_ l = true) {k j : Nat} (hk : k < l.length) (hj : (el_ [l.getD k Pg0]).length ≤ j) : oneJ l k j = d8_ l (k + 1) := by
 unfold oneJ; rw [T1_ hj, ada_ h hk]
theorem ac7_ {l : List Pg} {k j : Nat} (hj : j < (el_ [l.getD k Pg0]).length) : oneJ l k (j + 1) = oneJ l k j ++ [ajg_ k ((el_ [l.getD k Pg0]).getD j G0)] := by
 unfold oneJ
 generalize el_ [l.getD k Pg0] = S at *
 rw [List.take_add_one, T6_ hj, T8_, T6_ hj, List.map_append, List.append_assoc]; rfl
theorem uk_ {l : List Pg} (h : cl_ l = true) {k j : Nat} (hk : k < l.length) : (oneJ l k j).length ≤ 5000 := by
 have h2 := x7_ (yg_ h) (k := k) (by rw [il_]; omega)
 have h3 := aat_ [l.getD k Pg0]
 unfold oneJ
 rw [T2_, List.length_map, List.length_take, s5_ h k (by omega)]
 omega
theorem abq_ (c : Str) : ACall En 3 [.sl false (byR c)] [] [.b true] [] := by
 have DA := abf_ c
 have hB := amb_ (c.take 2000) 0
 have hn := aiu_ (c.take 2000) 0
 generalize (dBk (c.take 2000) 0).1 = l at *
 have s1 := aat_ l
 have hO : ∀ k, k < l.length → ∀ p ∈ [l.getD k Pg0], pgB p := fun k h p hp => by
  simp at hp; subst hp; exact hB _ (bj_ h)
 have hk1 : ∀ k : Nat, k < l.length → IntKind.i64.wrap ((k : Int) + 1) = ((k + 1 : Nat) : Int) := fun k h => bf_ (n := ((k + 1 : Nat) : Int)) (by omega) (by omega)
 have hS : cl_ l = true → el_ l = d8_ l l.length := fun h => by unfold el_; rw [if_pos h]
 refine al_ (fn := Tryz.f3) [] Tryz.func3 rfl rfl (by simp) fun C => ?_
 rw [ay_]
 simp only [Tryz.ntmps3, T7_, List.length_nil, Nat.reduceAdd, Nat.reduceSub, List.replicate_succ, List.replicate_zero, List.cons_append, List.nil_append, bp_]
 refine .seq (.rgn [] (by simp only [go_sem, seval, ad_, af_, au_, a0_, sgC]; rfl) ?_ ?_)
 ·(first | trivial | (simp; done) | (simp only [T3_] at h34 h46; have q := uk_ hI.1.2 (k := k) (j := j) (by omega); and_intros <;> first | omega | (simp [bx_]; done) | (simp; omega)) | (simp only [T3_] at h34; and_intros <;> first | omega | (simp; done) | (simp; omega)))
 refine .seq (.seq (.rgn [] (by simp only [go_sem, seval, ad_, af_, au_, a0_, sgC]; rfl) ?_ ?_))
 ·(first | trivial | (simp; done) | (simp only [T3_] at h34 h46; have q := uk_ hI.1.2 (k := k) (j := j) (by omega); and_intros <;> first | omega | (simp [bx_]; done) | (simp; omega)) | (simp only [T3_] at h34; and_intros <;> first | omega | (simp; done) | (simp; omega)))
 refine .condB (by simp only [go_sem, seval, ad_, af_, au_, a0_, sgC]; rfl) (by simp only [go_sem, seval, ad_, af_, au_, a0_, sgC]) (fun h11 => ?_) (fun h11 => ?_)
 ·refine .seq (.rgn [] (by simp only [go_sem, seval, ad_, af_, au_, a0_, sgC]; rfl) ?_ ?_)
  ·(first | trivial | (simp; done) | (simp only [T3_] at h34 h46; have q := uk_ hI.1.2 (k := k) (j := j) (by omega); and_intros <;> first | omega | (simp [bx_]; done) | (simp; omega)) | (simp only [T3_] at h34; and_intros <;> first | omega | (simp; done) | (simp; omega)))
  refine .ret ⟨.inr rfl, ?_⟩
  exact Out.plain (by simp only [Tryz.results3]; rfl) (by simp only [az_, a7_, go_sem, seval, ad_, af_, au_, a0_, sgC] <;> (split <;> rfl)) (by simp only [a5_, go_sem, seval, ad_, af_, au_, a0_, sgC] <;> (rfl)) (by simp only [go_sem, seval, ad_, af_, au_, a0_, sgC])
 ·refine .skip (.seq (.rgn [a4_ DA] (by simp only [go_sem, seval, ad_, af_, au_, a0_, sgC]; rfl) ?_ ?_))
  ·(first | trivial | (simp; done) | (simp only [T3_] at h34 h46; have q := uk_ hI.1.2 (k := k) (j := j) (by omega); and_intros <;> first | omega | (simp [bx_]; done) | (simp; omega)) | (simp only [T3_] at h34; and_intros <;> first | omega | (simp; done) | (simp; omega)))
  refine .seq (.rgn [a4_ (aax_ l hB (by omega))] (by simp only [go_sem, seval, ad_, af_, au_, a0_, sgC]; rfl) ?_ ?_)
  ·(first | trivial | (simp; done) | (simp only [T3_] at h34 h46; have q := uk_ hI.1.2 (k := k) (j := j) (by omega); and_intros <;> first | omega | (simp [bx_]; done) | (simp; omega)) | (simp only [T3_] at h34; and_intros <;> first | omega | (simp; done) | (simp; omega)))
  refine .seq (.seq (.rgn [a4_ (aay_ l hB (by omega)), a4_ (aaf_ (el_ l) (el_ l) (by omega) (by omega)), a4_ (h6_ l hB (by omega))] (by simp only [go_sem, seval, ad_, af_, au_, a0_, sgC]; rfl) ?_ ?_))
  ·(first | trivial | (simp; done) | (simp only [T3_] at h34 h46; have q := uk_ hI.1.2 (k := k) (j := j) (by omega); and_intros <;> first | omega | (simp [bx_]; done) | (simp; omega)) | (simp only [T3_] at h34; and_intros <;> first | omega | (simp; done) | (simp; omega)))
  refine .condB (by simp only [go_sem, seval, ad_, af_, au_, a0_, sgC]; rfl) (by simp only [go_sem, seval, ad_, af_, au_, a0_, sgC]) (fun h25 => ?_) (fun h25 => ?_)
  ·refine .seq (.rgn [a4_ (aay_ l hB (by omega)), a4_ (aaf_ (el_ l) (el_ l) (by omega) (by omega))] (by simp only [go_sem, seval, ad_, af_, au_, a0_, sgC]; rfl) ?_ ?_)
   ·(first | trivial | (simp; done) | (simp only [T3_] at h34 h46; have q := uk_ hI.1.2 (k := k) (j := j) (by omega); and_intros <;> first | omega | (simp [bx_]; done) | (simp; omega)) | (simp only [T3_] at h34; and_intros <;> first | omega | (simp; done) | (simp; omega)))
   refine .ret ⟨.inr rfl, ?_⟩
   exact Out.plain (by simp only [Tryz.results3]; rfl) (by simp only [az_, a7_, go_sem, seval, ad_, af_, au_, a0_, sgC] <;> (split <;> rfl)) (by simp only [a5_, go_sem, seval, ad_, af_, au_, a0_, sgC] <;> (simp)) (by simp only [go_sem, seval, ad_, af_, au_, a0_, sgC])
  ·refine .skip (.seq (.rgn [] (by simp only [go_sem, seval, ad_, af_, au_, a0_, sgC]; rfl) ?_ ?_))
   ·(first | trivial | (simp; done) | (simp only [T3_] at h34 h46; have q := uk_ hI.1.2 (k := k) (j := j) (by omega); and_intros <;> first | omega | (simp [bx_]; done) | (simp; omega)) | (simp only [T3_] at h34; and_intros <;> first | omega | (simp; done) | (simp; omega)))
   refine .seqJ (fun u : Unit => ⟨[.no, .no, .no, .no, .sl false (sgR (el_ l)), .sl false (sgR (d8_ l l.length)), .no, .no, .no, .no, .no, .no, .no, .no, .no, .no, .no, .no, .no, .no, .no, .no, .no, .no, .no, .no, .no, .no, .no, .no, .no, .no, .no, .no, .no, .no, .no, .no, .no, .no, .no, .no, .no, .no, .no, .no, .no, .no, .no, .no, .no, .no, .no, .no, .no, .no, .no, .no, .no, .no, .no, .no, .no, .no, .no, .no, .no, .no, .no, .no, .no, .no], bc_ [], us []⟩) (fun u : Unit => cl_ l = true) ?_ (fun u hJ => ?_)
   ·refine .seq (.rgn [] (by simp only [go_sem, seval, ad_, af_, au_, a0_, sgC]; rfl) ?_ ?_)
    ·(first | trivial | (simp; done) | (simp only [T3_] at h34 h46; have q := uk_ hI.1.2 (k := k) (j := j) (by omega); and_intros <;> first | omega | (simp [bx_]; done) | (simp; omega)) | (simp only [T3_] at h34; and_intros <;> first | omega | (simp; done) | (simp; omega)))
    refine .block (.loopK (fun k : Nat => ⟨[.no, .no, .no, .sl false (pgR l), .sl false (sgR (el_ l)), .ow 90 4 0 (d8_ l k).length, .i .i64 k, .no, .no, .no, .no, .no, .no, .no, .no, .no, .no, .no, .no, .no, .no, .no, .no, .no, .no, .no, .no, .no, .no, .no, .no, .no, .no, .no, .no, .no, .no, .no, .no, .no, .no, .no, .no, .no, .no, .no, .no, .no, .no, .no, .no, .no, .no, .no, .no, .no, .no, .no, .no, .no, .no, .no, .no, .no, .no, .no, .no, .no, .no, .no, .no, .no], bc_ [(90, ⟨32, 4, sgR (d8_ l k)⟩)], us [90]⟩) (fun k : Nat => k ≤ l.length ∧ cl_ l = true) (fun k : Nat => l.length - k) (0) ?_ ?_ (fun k hI => ?_))
    ·exact ⟨by simp, by simpa using h25⟩
    ·refine Can.trans (Can.ownSlot 5 90 32 4 (by simp only [go_sem, seval, ad_, af_, au_, a0_, sgC] <;> rfl) (by simp only [go_sem, seval, ad_, af_, au_, a0_, sgC]) (by simp only [go_sem, seval, ad_, af_, au_, a0_, sgC] <;> rfl)) ?_
     exact Can.weak (Weak.lit (by simp only [go_sem, seval, ad_, af_, au_, a0_, sgC, as_, leV, aq_, ar_, V.inn, us, T9_, Ta_] <;> (simp [d8_])) (by simp only [go_sem, seval, ad_, af_, au_, a0_, sgC, as_, leV, aq_, ar_, V.inn, us, T9_, Ta_]) (by simp only [go_sem, seval, ad_, af_, au_, a0_, sgC, as_, leV, aq_, ar_, V.inn, us, T9_, Ta_] <;> (simp [d8_, sgR])))
    refine .seq (.seq (.rgn [] (by simp only [go_sem, seval, ad_, af_, au_, a0_, sgC]; rfl) ?_ ?_))
    ·(first | trivial | (simp; done) | (simp only [T3_] at h34 h46; have q := uk_ hI.1.2 (k := k) (j := j) (by omega); and_intros <;> first | omega | (simp [bx_]; done) | (simp; omega)) | (simp only [T3_] at h34; and_intros <;> first | omega | (simp; done) | (simp; omega)))
    refine .condB (by simp only [go_sem, seval, ad_, af_, au_, a0_, sgC]; rfl) (by simp only [go_sem, seval, ad_, af_, au_, a0_, sgC]) (fun h34 => ?_) (fun h34 => ?_)
    ·refine .skip (.seq (.block (.seq (.rgn [cg_ (k < l.length) (fun h => aax_ [l.getD k Pg0] (hO k h) (by simp))] (by simp only [go_sem, seval, ad_, af_, au_, a0_, sgC, hk1 k (by simpa using h34), Int.toNat_natCast, an3_, alv_ (show k < l.length by simpa using h34)]; rfl) ?_ ?_))))
     ·simp only [T3_] at h34; refine ⟨⟨⟨by omega, by omega, by omega, by omega, fun h => absurd rfl h⟩, .inr fun r hr => ?_⟩, by omega⟩; obtain ⟨p, _, rfl⟩ := List.mem_map.1 hr; rfl
     refine .seq (.rgn [] (by simp only [go_sem, seval, ad_, af_, au_, a0_, sgC]; rfl) ?_ ?_)
     ·(first | trivial | (simp; done) | (simp only [T3_] at h34 h46; have q := uk_ hI.1.2 (k := k) (j := j) (by omega); and_intros <;> first | omega | (simp [bx_]; done) | (simp; omega)) | (simp only [T3_] at h34; and_intros <;> first | omega | (simp; done) | (simp; omega)))
     refine .block (.loopK (fun j : Nat => ⟨[.no, .no, .no, .sl false (pgR l), .sl false (sgR (el_ l)), .ow 90 4 0 (oneJ l k j).length, .i .i64 k, .sl false (sgR (el_ [l.getD k Pg0])), .i .i64 j, .no, .no, .no, .no, .no, .no, .no, .no, .no, .no, .no, .no, .no, .no, .no, .no, .no, .no, .no, .no, .no, .no, .no, .no, .no, .no, .no, .no, .no, .no, .no, .no, .no, .no, .no, .no, .no, .no, .no, .no, .no, .no, .no, .no, .no, .no, .no, .no, .no, .no, .no, .no, .no, .no, .no, .no, .no, .no, .no, .no, .no, .no, .no], bc_ [(90, ⟨32, 4, sgR (oneJ l k j)⟩)], us [90]⟩) (fun j : Nat => (k ≤ l.length ∧ cl_ l = true) ∧ j ≤ (el_ [l.getD k Pg0]).length) (fun j : Nat => (el_ [l.getD k Pg0]).length - j) (0) ?_ ?_ (fun j hI => ?_))
     ·exact ⟨hI, Nat.zero_le _⟩
     ·exact Can.weak (Weak.lit (by simp only [go_sem, seval, ad_, af_, au_, a0_, sgC, as_, leV, aq_, ar_, V.inn, us, T9_, Ta_] <;> (simp [abr_])) (by simp only [go_sem, seval, ad_, af_, au_, a0_, sgC, as_, leV, aq_, ar_, V.inn, us, T9_, Ta_]) (by simp only [go_sem, seval, ad_, af_, au_, a0_, sgC, as_, leV, aq_, ar_, V.inn, us, T9_, Ta_] <;> (simp [abr_])))
     refine .seq (.seq (.rgn [] (by simp only [go_sem, seval, ad_, af_, au_, a0_, sgC]; rfl) ?_ ?_))
     ·(first | trivial | (simp; done) | (simp only [T3_] at h34 h46; have q := uk_ hI.1.2 (k := k) (j := j) (by omega); and_intros <;> first | omega | (simp [bx_]; done) | (simp; omega)) | (simp only [T3_] at h34; and_intros <;> first | omega | (simp; done) | (simp; omega)))
     refine .condB (by simp only [go_sem, seval, ad_, af_, au_, a0_, sgC]; rfl) (by simp only [go_sem, seval, ad_, af_, au_, a0_, sgC]) (fun h46 => ?_) (fun h46 => ?_)
     ·refine .skip (.seq (.block (.rgnD [] enM (by simp only [go_sem, seval, ad_, af_, au_, a0_, sgC, aht_ (show j < (el_ [l.getD k Pg0]).length by simpa using h46)]; rfl) (by rfl) ?_ ?_)))
      ·(first | trivial | (simp; done) | (simp only [T3_] at h34 h46; have q := uk_ hI.1.2 (k := k) (j := j) (by omega); and_intros <;> first | omega | (simp [bx_]; done) | (simp; omega)) | (simp only [T3_] at h34; and_intros <;> first | omega | (simp; done) | (simp; omega)))
      refine .rgn [] (by simp only [go_sem, seval, ad_, af_, au_, a0_, sgC]; rfl) ?_ ?_
      ·(first | trivial | (simp; done) | (simp only [T3_] at h34 h46; have q := uk_ hI.1.2 (k := k) (j := j) (by omega); and_intros <;> first | omega | (simp [bx_]; done) | (simp; omega)) | (simp only [T3_] at h34; and_intros <;> first | omega | (simp; done) | (simp; omega)))
      refine Exists.intro (j + 1) ⟨?_, ?_, ?_⟩
      ·simp only [T3_] at h46; exact ⟨hI.1, by omega⟩
      ·simp only [T3_] at h46; omega
      refine Can.trans (Can.swap 78 90 (by decide) (by decide) (by decide) (by decide) (by simp only [go_sem, seval, ad_, af_, au_, a0_, sgC, V.cl]) (by simp only [go_sem, seval, ad_, af_, au_, a0_, sgC, V.cl]) (by simp only [go_sem, seval, ad_, af_, au_, a0_, sgC, bi_, sw, swM, rnB] <;> rfl) (by simp only [go_sem, seval, ad_, af_, au_, a0_, sgC, bi_, sw, swM, rnB] <;> rfl) (by simp only [go_sem, seval, ad_, af_, au_, a0_, sgC, bi_, sw, swM, rnB] <;> rfl)) ?_
      exact Can.weak (Weak.lit (by simp only [go_sem, seval, ad_, af_, au_, a0_, sgC, as_, leV, aq_, ar_, V.inn, us, T9_, Ta_] <;> (simp only [T3_, T4_] at h34 h46; have := aat_ [l.getD k Pg0]; rw [ac7_ (by omega), bf_ (by omega) (by omega)]; (try simp))) (by simp only [go_sem, seval, ad_, af_, au_, a0_, sgC, as_, leV, aq_, ar_, V.inn, us, T9_, Ta_]) (by simp only [go_sem, seval, ad_, af_, au_, a0_, sgC, as_, leV, aq_, ar_, V.inn, us, T9_, Ta_] <;> (simp only [T3_] at h46; rw [ac7_ (by omega)]; simp [sgR, sgC, ajg_])))
     ·refine .exit (.rgn [] (by simp only [go_sem, seval, ad_, af_, au_, a0_, sgC]; rfl) ?_ ?_)
      ·(first | trivial | (simp; done) | (simp only [T3_] at h34 h46; have q := uk_ hI.1.2 (k := k) (j := j) (by omega); and_intros <;> first | omega | (simp [bx_]; done) | (simp; omega)) | (simp only [T3_] at h34; and_intros <;> first | omega | (simp; done) | (simp; omega)))
      refine Exists.intro (k + 1) ⟨?_, ?_, ?_⟩
      ·simp only [T3_] at h34; exact ⟨by omega, hI.1.2⟩
      ·simp only [T3_] at h34; omega
      exact Can.weak (Weak.lit (by simp only [go_sem, seval, ad_, af_, au_, a0_, sgC, as_, leV, aq_, ar_, V.inn, us, T9_, Ta_] <;> (simp only [T3_, T4_] at h34 h46; rw [bf_ (by omega) (by omega), ac1_ hI.1.2 (by omega) (j := j) (by omega)]; (try simp))) (by simp only [go_sem, seval, ad_, af_, au_, a0_, sgC, as_, leV, aq_, ar_, V.inn, us, T9_, Ta_]) (by simp only [go_sem, seval, ad_, af_, au_, a0_, sgC, as_, leV, aq_, ar_, V.inn, us, T9_, Ta_] <;> (simp only [T3_, T4_] at h34 h46; rw [ac1_ hI.1.2 (by omega) (j := j) (by omega)])))
    ·refine .exit ?_
     refine Exists.intro (()) ⟨?_, ?_⟩
     ·exact hI.2
     refine Can.trans (Can.frz 90 (by simp only [go_sem, seval, ad_, af_, au_, a0_, sgC] <;> rfl) (by simp only [go_sem, seval, ad_, af_, au_, a0_, sgC]) (by simp only [go_sem, seval, ad_, af_, au_, a0_, sgC] <;> rfl) (by simp only [go_sem, seval, ad_, af_, au_, a0_, sgC] <;> rfl)) ?_
     exact Can.weak (Weak.lit (by simp only [go_sem, seval, ad_, af_, au_, a0_, sgC, as_, leV, aq_, ar_, V.inn, us, T9_, Ta_] <;> (simp at h34; (obtain rfl : k = l.length := (by omega)); simp [T1_, a0_, leV, bd_])) (by simp only [go_sem, seval, ad_, af_, au_, a0_, sgC, as_, leV, aq_, ar_, V.inn, us, T9_, Ta_]) (by simp only [go_sem, seval, ad_, af_, au_, a0_, sgC, as_, leV, aq_, ar_, V.inn, us, T9_, Ta_]))
   refine .seq (.rgn [cg_ (cl_ l = true) (fun h => aaf_ (d8_ l l.length) (el_ l) (by rw [← hS h]; omega) (by omega))] (by simp only [go_sem, seval, ad_, af_, au_, a0_, sgC]; rfl) ?_ ?_)
   ·(first | trivial | (simp; done) | (simp only [T3_] at h34 h46; have q := uk_ hI.1.2 (k := k) (j := j) (by omega); and_intros <;> first | omega | (simp [bx_]; done) | (simp; omega)) | (simp only [T3_] at h34; and_intros <;> first | omega | (simp; done) | (simp; omega)))
   refine .ret ⟨.inr rfl, ?_⟩
   exact Out.plain (by simp only [Tryz.results3]; rfl) (by simp only [az_, a7_, go_sem, seval, ad_, af_, au_, a0_, sgC] <;> (split <;> rfl)) (by simp only [a5_, go_sem, seval, ad_, af_, au_, a0_, sgC] <;> (rw [hS hJ]; simp)) (by simp only [go_sem, seval, ad_, af_, au_, a0_, sgC])
end Go.Proofs.YtilppnadkfgnfaaGreatDoor
