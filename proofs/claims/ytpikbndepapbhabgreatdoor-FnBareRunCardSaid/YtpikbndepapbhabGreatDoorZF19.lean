/- The law FnBareRun: what it answers. Conditions: none. -/
import Derived.Test.YtpikbndepapbhabGreatDoorK9
import Derived.Test.YtpikbndepapbhabGreatDoorK7
set_option linter.unusedVariables false
set_option linter.unusedSimpArgs false
namespace Go.Proofs.YtpikbndepapbhabGreatDoor
set_option maxRecDepth 100000
set_option maxHeartbeats 8000000
theorem kc_ (l : List Bl) : (ca_ l).1.length ≤ 16 := by
 unfold ca_
 split
 ·rename_i h
  have := (dl_ (l := l) (Nat.le_refl _) (cr_ h).2.1).2.2
  rwa [List.take_length] at this
 ·simp
theorem e0_ (s : Str) : (fl_ s).1.length ≤ 16 := by
 unfold fl_; split
 ·exact kc_ _
 ·simp
theorem ade_ {l : List Bl} {k : Nat} (h : (ca_ l).2 = true) (h1 : 1 ≤ k) (hk : k ≤ l.length) : (ca_ (l.take k)).2 = true ∧ (ca_ (l.take k)).1.length ≤ (ca_ l).1.length := by
 unfold ca_ at h ⊢
 split at h
 next hl =>
  have hl' : lok (l.take k) = true := by
   simp only [lok, T5_, T3_] at hl ⊢
   refine ⟨⟨by rw [List.length_take]; omega, by rw [List.length_take]; omega⟩, ?_⟩
   rw [List.all_eq_true] at *
   exact fun x hx => hl.2 x (List.mem_of_mem_take hx)
  rw [if_pos hl', if_pos hl]
  refine ⟨?_, ?_⟩
  ·cases hq : (bv_ (l.take k)).ok with
   | true => rfl
   | false => rw [p5_ hk hq, hq] at h; cases h
  ·have e : bv_ l = (l.drop k).foldl dp_ (bv_ (l.take k)) := by
    conv => lhs; rw [← List.take_append_drop k l]
    rw [j3_]
   rw [e]
   exact (ld_ (l.drop k) (bv_ (l.take k))).length_le
 next hl => cases h
theorem ad3_ {l : List Bl} (h : h0_ l = true) (k : Nat) : h0_ (l.take k) = true := List.all_eq_true.2 fun x hx => List.all_eq_true.1 h x (List.mem_of_mem_take hx)
theorem bt_ (l : List Bl) (k : Nat) : (bLR l).take k = bLR (l.take k) := by simp [bLR, List.map_take]
/-- how many lines are run again -/
def nAg (n m : Nat) : Nat := 1 + n % m
theorem aas_ {n m : Nat} (hm : 0 < m) : 1 ≤ nAg n m ∧ nAg n m ≤ m := by have := Nat.mod_lt n hm; unfold nAg; omega
theorem ajk_ {n m : Nat} (hm : 0 < m) (hb : m ≤ 1000) : IntKind.i64.wrap (1 + (n : Int).tmod m) = (nAg n m : Int) := by
 have e : (n : Int).tmod m = ((n % m : Nat) : Int) := by rw [Int.tmod_eq_emod_of_nonneg (by omega)]; rfl
 have := Nat.mod_lt n hm
 rw [e, bd_ (by omega) (by omega)]; unfold nAg; omega
theorem r0_ (b c : Str) : ACall En 3 [.sl false (byR b), .sl false (byR c)] [] [.b true] [] := by
 have DA := g1_ b
 have DB := pp_ c
 obtain ⟨a1, a2⟩ := add_ (b.take 2000)
 have l1 := adl_ (c.take 2000)
 generalize dBR (b.take 2000) = l at *
 generalize tc_ (c.take 2000) = t at *
 have r1 := gj_ l a2 (by omega)
 have r2 := n5_ l a2 (by omega)
 have r3 := o6_ t (by omega)
 have r4 := o7_ t (by omega)
 have n1 := kc_ l
 have n2 := e0_ t
 have n3 : (ca_ l).2 = true → 0 < l.length → _ := fun h h2 => ade_ h (aas_ (n := c.length) h2).1 (aas_ h2).2
 have r5 := gj_ (l.take (nAg c.length l.length)) (ad3_ a2 _) (by rw [List.length_take]; omega)
 generalize ca_ (l.take (nAg c.length l.length)) = w at *
 generalize ca_ l = u at *
 generalize fl_ t = v at *
 refine al_ (fn := Tryz.f3) [] Tryz.func3 rfl rfl (by simp) fun C => ?_
 rw [aw_]
 simp only [Tryz.ntmps3, T7_, List.length_nil, Nat.reduceAdd, Nat.reduceSub, List.replicate_succ, List.replicate_zero, List.cons_append, List.nil_append, bo_]
 refine .seq (.rgn [] (by simp only [go_sem, seval, af_, ac_, ai_, ad_, bt_]; rfl) ?_ ?_)
 ·first | trivial | simp
 refine .seq (.seq (.rgn [] (by simp only [go_sem, seval, af_, ac_, ai_, ad_, bt_]; rfl) ?_ ?_))
 ·first | trivial | simp
 refine .condB (by simp only [go_sem, seval, af_, ac_, ai_, ad_, bt_]; rfl) (by simp only [go_sem, seval, af_, ac_, ai_, ad_, bt_]) (fun h27 => ?_) (fun h27 => ?_)
 ·refine .seq (.rgn [] (by simp only [go_sem, seval, af_, ac_, ai_, ad_, bt_]; rfl) ?_ ?_)
  ·first | trivial | simp
  refine .ret ⟨.inr rfl, ?_⟩
  exact Out.plain (by simp only [Tryz.results3]; rfl) (by simp only [av_, a3_, go_sem, seval, af_, ac_, ai_, ad_, bt_] <;> (split <;> rfl)) (by simp only [a2_, go_sem, seval, af_, ac_, ai_, ad_, bt_] <;> (rfl)) (by simp only [go_sem, seval, af_, ac_, ai_, ad_, bt_])
 ·refine .skip (.seq (.rgn [a1_ DA] (by simp only [go_sem, seval, af_, ac_, ai_, ad_, bt_]; rfl) ?_ ?_))
  ·first | trivial | simp
  refine .seq (.rgn [a1_ r1] (by simp only [go_sem, seval, af_, ac_, ai_, ad_, bt_]; rfl) ?_ ?_)
  ·first | trivial | simp
  refine .seq (.rgn [a1_ r2] (by simp only [go_sem, seval, af_, ac_, ai_, ad_, bt_]; rfl) ?_ ?_)
  ·first | trivial | simp
  refine .seq (.seq (.rgn [] (by simp only [go_sem, seval, af_, ac_, ai_, ad_, bt_]; rfl) ?_ ?_))
  ·first | trivial | simp
  refine .condB (by simp only [go_sem, seval, af_, ac_, ai_, ad_, bt_]; rfl) (by simp only [go_sem, seval, af_, ac_, ai_, ad_, bt_]) (fun h49 => ?_) (fun h49 => ?_)
  ·simp at h49
  ·refine .skip (.seq (.seq (.rgn [] (by simp only [go_sem, seval, af_, ac_, ai_, ad_, bt_]; rfl) ?_ ?_)))
   ·first | trivial | simp
   refine .block (.loopK (fun k : Nat => ⟨[.no, .sl false (byR c), .no, .no, .no, .sl false (bLR l), .sl false (inR u.1), .b u.2, .sl false (inR u.1), .no, .i .i64 k, .no, .no, .no, .no, .no, .no, .no, .no, .no, .no, .no, .no, .no, .no, .no, .no, .no, .no, .no, .no, .no, .no, .no, .no, .no, .no, .no, .no, .no, .no, .no, .no, .no, .no, .no, .no, .no, .no, .no, .no, .no, .no, .no, .no, .no, .no, .no, .no, .no, .no, .no, .no, .no, .no, .no, .no, .no, .no, .no, .no, .no, .no, .no, .no, .no, .no, .no, .no, .no, .no, .no, .no, .no, .no, .no, .no, .no, .no, .no, .no, .no, .no, .no, .no, .no, .no, .no, .no, .no, .no, .no, .no, .no, .no, .no, .no, .no, .no, .no, .no, .no, .no, .no, .no, .no, .no, .no, .no, .no, .no, .no, .no, .no, .no, .no, .no, .no, .no, .no], bc_ [], us []⟩) (fun k : Nat => k ≤ u.1.length) (fun k : Nat => u.1.length - k) (0) ?_ ?_ (fun k hI => ?_))
   ·simp
   ·exact Can.weak (Weak.lit (by simp only [go_sem, seval, af_, ac_, ai_, ad_, bt_, aq_, leV, ao_, ap_, V.inn, us, T9_, Ta_] <;> ((try simp))) (by simp only [go_sem, seval, af_, ac_, ai_, ad_, bt_, aq_, leV, ao_, ap_, V.inn, us, T9_, Ta_]) (by simp only [go_sem, seval, af_, ac_, ai_, ad_, bt_, aq_, leV, ao_, ap_, V.inn, us, T9_, Ta_]))
   refine .seq (.seq (.rgn [] (by simp only [go_sem, seval, af_, ac_, ai_, ad_, bt_]; rfl) ?_ ?_))
   ·first | trivial | simp
   refine .condB (by simp only [go_sem, seval, af_, ac_, ai_, ad_, bt_]; rfl) (by simp only [go_sem, seval, af_, ac_, ai_, ad_, bt_]) (fun h53 => ?_) (fun h53 => ?_)
   ·refine .skip (.seq (.block (.seq (.rgnD [] enM (by simp only [go_sem, seval, af_, ac_, ai_, ad_, bt_, fk_ (show k < u.1.length by simpa using h53)]; rfl) (by rfl) ?_ ?_))))
    ·simp at h53; simp; omega
    refine .condB (by simp only [go_sem, seval, af_, ac_, ai_, ad_, bt_]; rfl) (by simp only [go_sem, seval, af_, ac_, ai_, ad_, bt_]) (fun h64 => ?_) (fun h64 => ?_)
    ·simp at h64
    ·refine .skip (.rgn [] (by simp only [go_sem, seval, af_, ac_, ai_, ad_, bt_]; rfl) ?_ ?_)
     ·first | trivial | simp
     refine Exists.intro (k + 1) ⟨?_, ?_, ?_⟩
     ·simp at h53; omega
     ·simp at h53; omega
     exact Can.weak (Weak.lit (by simp only [go_sem, seval, af_, ac_, ai_, ad_, bt_, aq_, leV, ao_, ap_, V.inn, us, T9_, Ta_] <;> (rw [bd_ (by simp at h53; omega) (by simp at h53; omega)]; (try simp))) (by simp only [go_sem, seval, af_, ac_, ai_, ad_, bt_, aq_, leV, ao_, ap_, V.inn, us, T9_, Ta_]) (by simp only [go_sem, seval, af_, ac_, ai_, ad_, bt_, aq_, leV, ao_, ap_, V.inn, us, T9_, Ta_]))
   ·refine .exit (.seq (.rgn [a1_ DB] (by simp only [go_sem, seval, af_, ac_, ai_, ad_, bt_]; rfl) ?_ ?_))
    ·first | trivial | simp
    refine .seq (.rgn [a1_ r3] (by simp only [go_sem, seval, af_, ac_, ai_, ad_, bt_]; rfl) ?_ ?_)
    ·first | trivial | simp
    refine .seq (.rgn [a1_ r4] (by simp only [go_sem, seval, af_, ac_, ai_, ad_, bt_]; rfl) ?_ ?_)
    ·first | trivial | simp
    refine .seq (.seq (.rgn [] (by simp only [go_sem, seval, af_, ac_, ai_, ad_, bt_]; rfl) ?_ ?_))
    ·first | trivial | simp
    refine .condB (by simp only [go_sem, seval, af_, ac_, ai_, ad_, bt_]; rfl) (by simp only [go_sem, seval, af_, ac_, ai_, ad_, bt_]) (fun h86 => ?_) (fun h86 => ?_)
    ·simp at h86
    ·refine .skip (.seq (.seq (.rgn [] (by simp only [go_sem, seval, af_, ac_, ai_, ad_, bt_]; rfl) ?_ ?_)))
     ·first | trivial | simp
     refine .block (.loopK (fun k : Nat => ⟨[.no, .sl false (byR c), .no, .no, .no, .sl false (bLR l), .sl false (inR u.1), .b u.2, .no, .no, .no, .no, .sl false (inR v.1), .no, .sl false (inR v.1), .no, .i .i64 k, .no, .no, .no, .no, .no, .no, .no, .no, .no, .no, .no, .no, .no, .no, .no, .no, .no, .no, .no, .no, .no, .no, .no, .no, .no, .no, .no, .no, .no, .no, .no, .no, .no, .no, .no, .no, .no, .no, .no, .no, .no, .no, .no, .no, .no, .no, .no, .no, .no, .no, .no, .no, .no, .no, .no, .no, .no, .no, .no, .no, .no, .no, .no, .no, .no, .no, .no, .no, .no, .no, .no, .no, .no, .no, .no, .no, .no, .no, .no, .no, .no, .no, .no, .no, .no, .no, .no, .no, .no, .no, .no, .no, .no, .no, .no, .no, .no, .no, .no, .no, .no, .no, .no, .no, .no, .no, .no, .no, .no, .no, .no, .no, .no], bc_ [], us []⟩) (fun k : Nat => k ≤ v.1.length) (fun k : Nat => v.1.length - k) (0) ?_ ?_ (fun k hI => ?_))
     ·simp
     ·exact Can.weak (Weak.lit (by simp only [go_sem, seval, af_, ac_, ai_, ad_, bt_, aq_, leV, ao_, ap_, V.inn, us, T9_, Ta_] <;> ((try simp))) (by simp only [go_sem, seval, af_, ac_, ai_, ad_, bt_, aq_, leV, ao_, ap_, V.inn, us, T9_, Ta_]) (by simp only [go_sem, seval, af_, ac_, ai_, ad_, bt_, aq_, leV, ao_, ap_, V.inn, us, T9_, Ta_]))
     refine .seq (.seq (.rgn [] (by simp only [go_sem, seval, af_, ac_, ai_, ad_, bt_]; rfl) ?_ ?_))
     ·first | trivial | simp
     refine .condB (by simp only [go_sem, seval, af_, ac_, ai_, ad_, bt_]; rfl) (by simp only [go_sem, seval, af_, ac_, ai_, ad_, bt_]) (fun h90 => ?_) (fun h90 => ?_)
     ·refine .skip (.seq (.block (.seq (.rgnD [] enM (by simp only [go_sem, seval, af_, ac_, ai_, ad_, bt_, fk_ (show k < v.1.length by simpa using h90)]; rfl) (by rfl) ?_ ?_))))
      ·simp at h90; simp; omega
      refine .condB (by simp only [go_sem, seval, af_, ac_, ai_, ad_, bt_]; rfl) (by simp only [go_sem, seval, af_, ac_, ai_, ad_, bt_]) (fun h101 => ?_) (fun h101 => ?_)
      ·simp at h101
      ·refine .skip (.rgn [] (by simp only [go_sem, seval, af_, ac_, ai_, ad_, bt_]; rfl) ?_ ?_)
       ·first | trivial | simp
       refine Exists.intro (k + 1) ⟨?_, ?_, ?_⟩
       ·simp at h90; omega
       ·simp at h90; omega
       exact Can.weak (Weak.lit (by simp only [go_sem, seval, af_, ac_, ai_, ad_, bt_, aq_, leV, ao_, ap_, V.inn, us, T9_, Ta_] <;> (rw [bd_ (by simp at h90; omega) (by simp at h90; omega)]; (try simp))) (by simp only [go_sem, seval, af_, ac_, ai_, ad_, bt_, aq_, leV, ao_, ap_, V.inn, us, T9_, Ta_]) (by simp only [go_sem, seval, af_, ac_, ai_, ad_, bt_, aq_, leV, ao_, ap_, V.inn, us, T9_, Ta_]))
     ·refine .exit (.seq (.seq (.rgn [] (by simp only [go_sem, seval, af_, ac_, ai_, ad_, bt_]; rfl) ?_ ?_)))
      ·first | trivial | simp
      refine .condB (by simp only [go_sem, seval, af_, ac_, ai_, ad_, bt_]; rfl) (by simp only [go_sem, seval, af_, ac_, ai_, ad_, bt_]) (fun h108 => ?_) (fun h108 => ?_)
      ·refine .seq (.rgn [] (by simp only [go_sem, seval, af_, ac_, ai_, ad_, bt_]; rfl) ?_ ?_)
       ·first | trivial | simp
       refine .ret ⟨.inr rfl, ?_⟩
       exact Out.plain (by simp only [Tryz.results3]; rfl) (by simp only [av_, a3_, go_sem, seval, af_, ac_, ai_, ad_, bt_] <;> (split <;> rfl)) (by simp only [a2_, go_sem, seval, af_, ac_, ai_, ad_, bt_] <;> (rfl)) (by simp only [go_sem, seval, af_, ac_, ai_, ad_, bt_])
      ·refine .skip (.seq (.rgn [] (by simp only [go_sem, seval, af_, ac_, ai_, ad_, bt_]; rfl) ?_ ?_))
       ·simp only [Bool.or_eq_false_iff, beq_eq_false_iff_ne] at h108; exact h108.1
       refine .seq (.rgn [a1_ r5] (by simp only [go_sem, seval, af_, ac_, ai_, ad_, bt_]; rfl) ?_ ?_)
       ·(simp only [Bool.or_eq_false_iff, beq_eq_false_iff_ne] at h108; (have hm : 0 < l.length := (by omega); have q := aas_ (n := c.length) hm; rw [ajk_ hm (by omega), Int.toNat_natCast]; exact ⟨⟨by omega, by omega, Int.le_refl _, by simp⟩, ba_ _⟩))
       refine .seq (.rgn [] (by simp only [go_sem, seval, af_, ac_, ai_, ad_, bt_]; rfl) ?_ ?_)
       ·first | trivial | simp
       refine .ret ⟨.inr rfl, ?_⟩
       exact Out.plain (by simp only [Tryz.results3]; rfl) (by simp only [av_, a3_, go_sem, seval, af_, ac_, ai_, ad_, bt_] <;> (split <;> rfl)) (by simp only [a2_, go_sem, seval, af_, ac_, ai_, ad_, bt_] <;> (simp only [Bool.or_eq_false_iff, beq_eq_false_iff_ne, Bool.not_eq_false'] at h108; have q := n3 h108.2 (by omega); rw [q.1, decide_eq_true (by omega)]; rfl)) (by simp only [go_sem, seval, af_, ac_, ai_, ad_, bt_])
end Go.Proofs.YtpikbndepapbhabGreatDoor
