/- The law FnBareCat: what it answers. Conditions: none. -/
import Derived.Test.YtpikbndepapbhabGreatDoorKs
import Derived.Test.YtpikbndepapbhabGreatDoorKr
import Derived.Test.YtpikbndepapbhabGreatDoorKb
set_option linter.unusedVariables false
set_option linter.unusedSimpArgs false
namespace Go.Proofs.YtpikbndepapbhabGreatDoor
set_option maxRecDepth 100000
set_option maxHeartbeats 8000000
theorem lv_ : ∀ {a a' b b' : List (List V)}, ler a a' → ler b b' → ler (a ++ b) (a' ++ b')
 | [], [], _, _, _, h => h
 | x :: a, y :: a', b, b', h, k => by simp only [ler, List.cons_append] at h ⊢; exact ⟨h.1, lv_ h.2 k⟩
 | [], _ :: _, _, _, h, _ | _ :: _, [], _, _, h, _ => by simp [ler] at h
theorem st_ {x y : List Int} (h : x <+: y) {k : Nat} (hk : k < x.length) : y.getD k 0 = x.getD k 0 := by
 obtain ⟨t, rfl⟩ := h
 simp only [T8_]; rw [List.getElem?_append_left hk]
theorem qf_ (l : List Bl) : (bw_ l).1.length ≤ 16 := by
 unfold bw_
 split
 ·rename_i h
  have := (cd_ (l := l) (Nat.le_refl _) (b2_ h).2.1).2.2
  rwa [List.take_length] at this
 ·simp
theorem rx_ {u v : List Bl} {k : Nat} {P : Prop} (hy : v.all bok = true ∧ (bw_ u).1 <+: (bw_ (u ++ v)).1 ∨ v.all bok = false ∧ bw_ (u ++ v) = ([], false)) (h1 : k < (bw_ (u ++ v)).1.length) (h2 : k < (bw_ u).1.length ∧ ¬ (bw_ (u ++ v)).1.getD k 0 = (bw_ u).1.getD k 0) : P := by
 rcases hy with ⟨_, q⟩ | ⟨_, q⟩
 ·exact absurd (st_ q h2.1) h2.2
 ·rw [q] at h1; simp at h1
theorem qz_ (b : Bl) (l : List Bl) : bLR (b :: l) = bC b :: bLR l := rfl
theorem lq_ {l : List Bl} (h : (bw_ l).2 = true) : lok l = true := by
 cases hl : lok l with
 | true => rfl
 | false => rw [eo_ hl] at h; cases h
theorem j6_ (b c : Str) : ACall En 8 [.sl false (byR b), .sl false (byR c)] [] [.b true] [] := by
 have DA := e5_ b
 have DB := e5_ c
 obtain ⟨la, sa⟩ := uz_ (b.take 2000)
 obtain ⟨lb, sb⟩ := uz_ (c.take 2000)
 generalize dBR (b.take 2000) = u at *
 generalize dBR (c.take 2000) = v at *
 have s1 : e3_ (u ++ v) = true := by simp only [e3_, List.all_append, T5_] at sa sb ⊢; exact ⟨sa, sb⟩
 have s2 : e3_ (u ++ B0 :: v) = true := by simp only [e3_, List.all_append, List.all_cons, T5_] at sa sb ⊢; exact ⟨sa, by decide, sb⟩
 have hw : IntKind.i64.wrap ((u.length : Int) + v.length) = (u.length : Int) + v.length := a8_ (by omega) (by omega)
 have hz : (bw_ u).2 = true ∧ u.length + v.length < 16 → bw_ (u ++ B0 :: v) = bw_ (u ++ v) := fun h => nc_ u v h.2 (lq_ h.1)
 have hy : (bw_ u).2 = true ∧ u.length + v.length < 16 → (v.all bok = true ∧ (bw_ u).1 <+: (bw_ (u ++ v)).1 ∨ v.all bok = false ∧ bw_ (u ++ v) = ([], false)) := fun h => r3_ h.2 h.1
 refine ap_ (fn := Tryz.f8) [] Tryz.func8 rfl rfl (by simp) fun C => ?_
 rw [ay_]
 simp only [Tryz.ntmps8, T7_, List.length_nil, Nat.reduceAdd, Nat.reduceSub, List.replicate_succ, List.replicate_zero, List.cons_append, List.nil_append, bl_]
 refine .seq (.rgn [] (by simp only [go_sem, seval, asO, hw, T2_, ad_, ab_, ah_, aa_]; rfl) ?_ ?_)
 ·first | trivial | simp
 refine .seq (.seq (.rgn [] (by simp only [go_sem, seval, asO, hw, T2_, ad_, ab_, ah_, aa_]; rfl) ?_ ?_))
 ·first | trivial | simp
 refine .condB (by simp only [go_sem, seval, asO, hw, T2_, ad_, ab_, ah_, aa_]; rfl) (by simp only [go_sem, seval, asO, hw, T2_, ad_, ab_, ah_, aa_]) (fun h27 => ?_) (fun h27 => ?_)
 ·refine .seq (.rgn [] (by simp only [go_sem, seval, asO, hw, T2_, ad_, ab_, ah_, aa_]; rfl) ?_ ?_)
  ·first | trivial | simp
  refine .ret ⟨.inr rfl, ?_⟩
  exact Out.plain (by simp only [Tryz.results8]; rfl) (by simp only [aw_, a3_, go_sem, seval, asO, hw, T2_, ad_, ab_, ah_, aa_] <;> (split <;> rfl)) (by simp only [a2_, go_sem, seval, asO, hw, T2_, ad_, ab_, ah_, aa_] <;> (simp)) (by simp only [go_sem, seval, asO, hw, T2_, ad_, ab_, ah_, aa_])
 ·refine .skip (.seq (.rgn [a4_ DA] (by simp only [go_sem, seval, asO, hw, T2_, ad_, ab_, ah_, aa_]; rfl) ?_ ?_))
  ·first | trivial | simp
  refine .seq (.rgn [a4_ DB] (by simp only [go_sem, seval, asO, hw, T2_, ad_, ab_, ah_, aa_]; rfl) ?_ ?_)
  ·first | trivial | simp
  refine .seq (.rgn [a4_ (fb_ u sa (by omega))] (by simp only [go_sem, seval, asO, hw, T2_, ad_, ab_, ah_, aa_]; rfl) ?_ ?_)
  ·first | trivial | simp
  refine .seq (.rgn [a4_ (nk_ u sa (by omega))] (by simp only [go_sem, seval, asO, hw, T2_, ad_, ab_, ah_, aa_]; rfl) ?_ ?_)
  ·first | trivial | simp
  refine .seq (.seq (.rgn [] (by simp only [go_sem, seval, asO, hw, T2_, ad_, ab_, ah_, aa_]; rfl) ?_ ?_))
  ·first | trivial | simp
  refine .condB (by simp only [go_sem, seval, asO, hw, T2_, ad_, ab_, ah_, aa_]; rfl) (by simp only [go_sem, seval, asO, hw, T2_, ad_, ab_, ah_, aa_]) (fun h63 => ?_) (fun h63 => ?_)
  ·refine .seq (.rgn [] (by simp only [go_sem, seval, asO, hw, T2_, ad_, ab_, ah_, aa_]; rfl) ?_ ?_)
   ·first | trivial | simp
   refine .ret ⟨.inr rfl, ?_⟩
   exact Out.plain (by simp only [Tryz.results8]; rfl) (by simp only [aw_, a3_, go_sem, seval, asO, hw, T2_, ad_, ab_, ah_, aa_] <;> (split <;> rfl)) (by simp only [a2_, go_sem, seval, asO, hw, T2_, ad_, ab_, ah_, aa_] <;> (simp)) (by simp only [go_sem, seval, asO, hw, T2_, ad_, ab_, ah_, aa_])
  ·refine .skip (.seq (.rgn [] (by simp only [go_sem, seval, asO, hw, T2_, ad_, ab_, ah_, aa_]; rfl) ?_ ?_))
   ·simp [lk_, b5_]; omega
   refine .seqJ (fun w : Unit => ⟨[.no, .no, .no, .no, .no, .sl false (bLR u), .sl false (bLR v), .sl false (inR (bw_ u).1), .no, .no, .no, .sl false (bLR (u ++ v)), .sl false (bLR (u ++ B0 :: v)), .no, .no, .no, .no, .no, .no, .no, .no, .no, .no, .no, .no, .no, .no, .no, .no, .no, .no, .no, .no, .no, .no, .no, .no, .no, .no, .no, .no, .no, .no, .no, .no, .no, .no, .no, .no, .no, .no, .no, .no, .no, .no, .no, .no, .no, .no, .no, .no, .no, .no, .no, .no, .no, .no, .no, .no, .no, .no, .no, .no, .no, .no, .no, .no, .no, .no, .no, .no, .no, .no, .no, .no, .no, .no, .no, .no, .no, .no, .no, .no, .no, .no, .no, .no, .no, .no, .no, .no, .no, .no, .no, .no, .no, .no, .no, .no, .no, .no, .no, .no, .no, .no, .no, .no, .no, .no, .no, .no, .no, .no, .no, .no, .no, .no, .no, .no, .no, .no, .no, .no, .no, .no, .no, .no, .no, .no, .no, .no, .no, .no, .no, .no, .no, .no, .no, .no, .no, .no, .no, .no, .no, .no, .no, .no, .no, .no, .no, .no, .no, .no, .no, .no, .no, .no], a1_ [], us []⟩) (fun w : Unit => (bw_ u).2 = true ∧ u.length + v.length < 16) ?_ (fun w hJ => ?_)
   ·refine .rgn [] (by simp only [go_sem, seval, asO, hw, T2_, ad_, ab_, ah_, aa_]; rfl) ?_ ?_
    ·simp [lk_, b5_]; omega
    refine Exists.intro (()) ⟨?_, ?_⟩
    ·simp at h63; exact ⟨by simp [h63], by omega⟩
    refine Can.trans (Can.frz 88 (by simp only [go_sem, seval, asO, hw, T2_, ad_, ab_, ah_, aa_] <;> rfl) (by simp only [go_sem, seval, asO, hw, T2_, ad_, ab_, ah_, aa_]) (by simp only [go_sem, seval, asO, hw, T2_, ad_, ab_, ah_, aa_] <;> rfl) (by simp only [go_sem, seval, asO, hw, T2_, ad_, ab_, ah_, aa_] <;> rfl)) ?_
    refine Can.trans (Can.frz 96 (by simp only [go_sem, seval, asO, hw, T2_, ad_, ab_, ah_, aa_] <;> rfl) (by simp only [go_sem, seval, asO, hw, T2_, ad_, ab_, ah_, aa_]) (by simp only [go_sem, seval, asO, hw, T2_, ad_, ab_, ah_, aa_] <;> rfl) (by simp only [go_sem, seval, asO, hw, T2_, ad_, ab_, ah_, aa_] <;> rfl)) ?_
    exact Can.weak (Weak.lit (by simp only [go_sem, seval, asO, hw, T2_, ad_, ab_, ah_, aa_, au_, leV, as_, at_, V.inn, us, T9_, Ta_] <;> (simp [T1_, ad_, g1_, qz_, leV, bq_]; refine ⟨by rw [e0_ _ (by rw [gh_, ab_, ab_]; rfl)]; exact bq_ _, ?_⟩; rw [T1_ (by simp [ad_]; omega)]; exact lv_ (bq_ _) (by simp only [ler]; exact ⟨by simp [les, leV, ae_, B0, kn_, ko_, j8_, dk_, eg_, ler], bq_ _⟩))) (by simp only [go_sem, seval, asO, hw, T2_, ad_, ab_, ah_, aa_, au_, leV, as_, at_, V.inn, us, T9_, Ta_]) (by simp only [go_sem, seval, asO, hw, T2_, ad_, ab_, ah_, aa_, au_, leV, as_, at_, V.inn, us, T9_, Ta_]))
   refine .seq (.rgn [a4_ (fb_ (u ++ v) s1 (by simp; omega))] (by simp only [go_sem, seval, asO, hw, T2_, ad_, ab_, ah_, aa_]; rfl) ?_ ?_)
   ·first | trivial | simp
   refine .seq (.rgn [a4_ (fb_ (u ++ B0 :: v) s2 (by simp; omega))] (by simp only [go_sem, seval, asO, hw, T2_, ad_, ab_, ah_, aa_, hz hJ]; rfl) ?_ ?_)
   ·first | trivial | simp
   refine .seq (.seq (.rgn [] (by simp only [go_sem, seval, asO, hw, T2_, ad_, ab_, ah_, aa_]; rfl) ?_ ?_))
   ·first | trivial | simp
   refine .condB (by simp only [go_sem, seval, asO, hw, T2_, ad_, ab_, ah_, aa_]; rfl) (by simp only [go_sem, seval, asO, hw, T2_, ad_, ab_, ah_, aa_]) (fun h106 => ?_) (fun h106 => ?_)
   ·simp at h106
   ·refine .skip (.seq (.seq (.rgn [] (by simp only [go_sem, seval, asO, hw, T2_, ad_, ab_, ah_, aa_]; rfl) ?_ ?_)))
    ·first | trivial | simp
    refine .block (.loopK (fun k : Nat => ⟨[.no, .no, .no, .no, .no, .no, .sl false (bLR v), .sl false (inR (bw_ u).1), .no, .no, .no, .no, .no, .sl false (inR (bw_ (u ++ v)).1), .no, .sl false (inR (bw_ (u ++ v)).1), .no, .i .i64 k, .no, .no, .no, .no, .no, .no, .no, .no, .no, .no, .no, .no, .no, .no, .no, .no, .no, .no, .no, .no, .no, .no, .no, .no, .no, .no, .no, .no, .no, .no, .no, .no, .no, .no, .no, .no, .no, .no, .no, .no, .no, .no, .no, .no, .no, .no, .no, .no, .no, .no, .no, .no, .no, .no, .no, .no, .no, .no, .no, .no, .no, .no, .no, .no, .no, .no, .no, .no, .no, .no, .no, .no, .no, .no, .no, .no, .no, .no, .no, .no, .no, .no, .no, .no, .no, .no, .no, .no, .no, .no, .no, .no, .no, .no, .no, .no, .no, .no, .no, .no, .no, .no, .no, .no, .no, .no, .no, .no, .no, .no, .no, .no, .no, .no, .no, .no, .no, .no, .no, .no, .no, .no, .no, .no, .no, .no, .no, .no, .no, .no, .no, .no, .no, .no, .no, .no, .no, .no, .no, .no, .no, .no, .no, .no, .no, .no, .no, .no, .no], a1_ [], us []⟩) (fun k : Nat => k ≤ (bw_ (u ++ v)).1.length ∧ ((bw_ u).2 = true ∧ u.length + v.length < 16)) (fun k : Nat => (bw_ (u ++ v)).1.length - k) (0) ?_ ?_ (fun k hI => ?_))
    ·exact ⟨Nat.zero_le _, hJ⟩
    ·exact Can.weak (Weak.lit (by simp only [go_sem, seval, asO, hw, T2_, ad_, ab_, ah_, aa_, au_, leV, as_, at_, V.inn, us, T9_, Ta_] <;> (simp)) (by simp only [go_sem, seval, asO, hw, T2_, ad_, ab_, ah_, aa_, au_, leV, as_, at_, V.inn, us, T9_, Ta_]) (by simp only [go_sem, seval, asO, hw, T2_, ad_, ab_, ah_, aa_, au_, leV, as_, at_, V.inn, us, T9_, Ta_]))
    refine .seq (.seq (.rgn [] (by simp only [go_sem, seval, asO, hw, T2_, ad_, ab_, ah_, aa_]; rfl) ?_ ?_))
    ·first | trivial | simp
    refine .condB (by simp only [go_sem, seval, asO, hw, T2_, ad_, ab_, ah_, aa_]; rfl) (by simp only [go_sem, seval, asO, hw, T2_, ad_, ab_, ah_, aa_]) (fun h110 => ?_) (fun h110 => ?_)
    ·refine .skip (.seq (.block (.seq (.rgnDS [135] [asO En { v := .i .i64 ((bw_ u).1.getD k 0) }] enM (by simp only [go_sem, seval, asO, hw, T2_, ad_, ab_, ah_, aa_, g8_ (show k < (bw_ (u ++ v)).1.length by simpa using h110)]; rfl) (by rfl) ?_ ?_))))
     ·simp at h110; simp; refine ⟨⟨⟨h110, fun hk => ⟨hk, h110⟩⟩, fun hk => ⟨hk, ?_⟩⟩, fun hk => ⟨⟨hk, ?_⟩, ?_⟩⟩ <;> simp [inR, hk]
     refine .condB (by simp only [go_sem, seval, asO, hw, T2_, ad_, ab_, ah_, aa_]; rfl) (by simp only [go_sem, seval, asO, hw, T2_, ad_, ab_, ah_, aa_]) (fun h138 => ?_) (fun h138 => ?_)
     ·exact rx_ (hy hI.2) (by simpa using h110) (by simpa using h138)
     ·refine .skip (.rgn [] (by simp only [go_sem, seval, asO, hw, T2_, ad_, ab_, ah_, aa_]; rfl) ?_ ?_)
      ·first | trivial | simp
      refine Exists.intro (k + 1) ⟨?_, ?_, ?_⟩
      ·simp at h110; exact ⟨by omega, hI.2⟩
      ·simp at h110; omega
      exact Can.weak (Weak.lit (by simp only [go_sem, seval, asO, hw, T2_, ad_, ab_, ah_, aa_, au_, leV, as_, at_, V.inn, us, T9_, Ta_] <;> ((have hbl := qf_ (u ++ v)); rw [a8_ (by simp at h110; omega) (by simp at h110; omega)]; simp)) (by simp only [go_sem, seval, asO, hw, T2_, ad_, ab_, ah_, aa_, au_, leV, as_, at_, V.inn, us, T9_, Ta_]) (by simp only [go_sem, seval, asO, hw, T2_, ad_, ab_, ah_, aa_, au_, leV, as_, at_, V.inn, us, T9_, Ta_]))
    ·refine .exit (.seq (.rgn [] (by simp only [go_sem, seval, asO, hw, T2_, ad_, ab_, ah_, aa_]; rfl) ?_ ?_))
     ·first | trivial | simp
     refine .seq (.seq (.rgn [] (by simp only [go_sem, seval, asO, hw, T2_, ad_, ab_, ah_, aa_]; rfl) ?_ ?_))
     ·first | trivial | simp
     refine .block (.loopK (fun j : Nat => ⟨[.no, .no, .no, .no, .no, .no, .sl false (bLR v), .sl false (inR (bw_ u).1), .no, .no, .no, .no, .no, .sl false (inR (bw_ (u ++ v)).1), .no, .no, .no, .no, .b ((v.take j).any fun s => !bok s), .i .i64 j, .no, .no, .no, .no, .no, .no, .no, .no, .no, .no, .no, .no, .no, .no, .no, .no, .no, .no, .no, .no, .no, .no, .no, .no, .no, .no, .no, .no, .no, .no, .no, .no, .no, .no, .no, .no, .no, .no, .no, .no, .no, .no, .no, .no, .no, .no, .no, .no, .no, .no, .no, .no, .no, .no, .no, .no, .no, .no, .no, .no, .no, .no, .no, .no, .no, .no, .no, .no, .no, .no, .no, .no, .no, .no, .no, .no, .no, .no, .no, .no, .no, .no, .no, .no, .no, .no, .no, .no, .no, .no, .no, .no, .no, .no, .no, .no, .no, .no, .no, .no, .no, .no, .no, .no, .no, .no, .no, .no, .no, .no, .no, .no, .no, .no, .no, .no, .no, .no, .no, .no, .no, .no, .no, .no, .no, .no, .no, .no, .no, .no, .no, .no, .no, .no, .no, .no, .no, .no, .no, .no, .no, .no, .no, .no, .no, .no, .no], a1_ [], us []⟩) (fun j : Nat => j ≤ v.length) (fun j : Nat => v.length - j) (0) ?_ ?_ (fun j hI => ?_))
     ·simp
     ·exact Can.weak (Weak.lit (by simp only [go_sem, seval, asO, hw, T2_, ad_, ab_, ah_, aa_, au_, leV, as_, at_, V.inn, us, T9_, Ta_] <;> (simp)) (by simp only [go_sem, seval, asO, hw, T2_, ad_, ab_, ah_, aa_, au_, leV, as_, at_, V.inn, us, T9_, Ta_]) (by simp only [go_sem, seval, asO, hw, T2_, ad_, ab_, ah_, aa_, au_, leV, as_, at_, V.inn, us, T9_, Ta_]))
     refine .seq (.seq (.rgn [] (by simp only [go_sem, seval, asO, hw, T2_, ad_, ab_, ah_, aa_]; rfl) ?_ ?_))
     ·first | trivial | simp
     refine .condB (by simp only [go_sem, seval, asO, hw, T2_, ad_, ab_, ah_, aa_]; rfl) (by simp only [go_sem, seval, asO, hw, T2_, ad_, ab_, ah_, aa_]) (fun h142 => ?_) (fun h142 => ?_)
     ·refine .skip (.seq (.block (.rgn [eu_ (j < v.length) (fun h => iu_ (v.getD j B0) (kd_ sb h))] (by simp only [go_sem, seval, asO, hw, T2_, ad_, ab_, ah_, aa_, fq_ (show j < v.length by simpa using h142), ae_]; rfl) ?_ ?_)))
      ·simp only [T3_] at h142; refine ⟨⟨fun h => ⟨h, by omega, by omega⟩, fun h => ⟨h, by omega⟩⟩, fun h => by rw [h]; rfl⟩
      refine .rgn [] (by simp only [go_sem, seval, asO, hw, T2_, ad_, ab_, ah_, aa_]; rfl) ?_ ?_
      ·first | trivial | simp
      refine Exists.intro (j + 1) ⟨?_, ?_, ?_⟩
      ·simp at h142; omega
      ·simp at h142; omega
      exact Can.weak (Weak.lit (by simp only [go_sem, seval, asO, hw, T2_, ad_, ab_, ah_, aa_, au_, leV, as_, at_, V.inn, us, T9_, Ta_] <;> (simp only [T3_] at h142; rw [a8_ (by omega) (by omega), hy_ (d := B0) (by omega)]; simp)) (by simp only [go_sem, seval, asO, hw, T2_, ad_, ab_, ah_, aa_, au_, leV, as_, at_, V.inn, us, T9_, Ta_]) (by simp only [go_sem, seval, asO, hw, T2_, ad_, ab_, ah_, aa_, au_, leV, as_, at_, V.inn, us, T9_, Ta_]))
     ·refine .exit (.seq (.rgn [] (by simp only [go_sem, seval, asO, hw, T2_, ad_, ab_, ah_, aa_]; rfl) ?_ ?_))
      ·intro h; rw [h]; rfl
      refine .ret ⟨.inr rfl, ?_⟩
      exact Out.plain (by simp only [Tryz.results8]; rfl) (by simp only [aw_, a3_, go_sem, seval, asO, hw, T2_, ad_, ab_, ah_, aa_] <;> (split <;> rfl)) (by simp only [a2_, go_sem, seval, asO, hw, T2_, ad_, ab_, ah_, aa_] <;> (simp only [T4_] at h142; (obtain rfl : j = v.length := (by omega)); rw [T1_ (Nat.le_refl _), u8_]; rcases hy hJ with ⟨q1, q2⟩ | ⟨q1, q2⟩; (have := q2.length_le; simp [q1]; omega); (simp [q1, q2]))) (by simp only [go_sem, seval, asO, hw, T2_, ad_, ab_, ah_, aa_])
end Go.Proofs.YtpikbndepapbhabGreatDoor
