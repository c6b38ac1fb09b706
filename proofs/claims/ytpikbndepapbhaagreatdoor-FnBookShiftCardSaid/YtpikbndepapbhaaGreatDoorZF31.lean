/- The law FnBookShift: what it answers. Conditions: none. -/
import Derived.Test.YtpikbndepapbhaaGreatDoorK16
import Derived.Test.YtpikbndepapbhaaGreatDoorK4
set_option linter.unusedVariables false
set_option linter.unusedSimpArgs false
namespace Go.Proofs.YtpikbndepapbhaaGreatDoor
set_option maxRecDepth 100000
set_option maxHeartbeats 4000000
theorem aki_ {L : List Sg} {k : Nat} (h : k < L.length) : (L.map shS).getD k G0 = shS (L.getD k G0) := by
 simp [T8_, T6_ h]
theorem ajv_ {i : Int} {ts : List Tk} {fs : List Int} {x : Sg} (h : x ∈ sgs i ts fs) : x.1 = i ∧ x.2.2.1 = i := by
 unfold sgs at h
 obtain ⟨y, _, hy⟩ := List.mem_filterMap.1 h
 unfold sg1 at hy
 split at hy
 ·cases hy; exact ⟨rfl, rfl⟩
 ·cases hy
theorem u0_ {l : List Pg} {x : Sg} : ∀ {k : Nat}, x ∈ ez_ l k → (0 ≤ x.1 ∧ x.1 < k) ∧ 0 ≤ x.2.2.1 ∧ x.2.2.1 < k
 | 0, h => by simp [ez_] at h
 | k + 1, h => by
  rw [ez_] at h
  rcases List.mem_append.1 h with h | h
  ·have := u0_ h; omega
  ·split at h
   ·have := ajv_ h; omega
   ·cases h
theorem afx_ {l : List Pg} {k : Nat} (hl : l.length ≤ 16) (hk : k < (cq_ l).length) : IntKind.i64.wrap (((cq_ l).getD k G0).1 + 1) = ((cq_ l).getD k G0).1 + 1 ∧ IntKind.i64.wrap (((cq_ l).getD k G0).2.2.1 + 1) = ((cq_ l).getD k G0).2.2.1 + 1 := by
 have hm := bh_ (d := G0) hk
 have : ((cq_ l).getD k G0) ∈ ez_ l l.length := by
  unfold cq_ at hm ⊢
  split at hm
  ·rename_i h; rw [if_pos h]; exact hm
  ·cases hm
 have := u0_ this
 exact ⟨bd_ (by omega) (by omega), bd_ (by omega) (by omega)⟩
theorem ql_ (c : Str) : ACall En 8 [.sl false (byR c)] [] [.b true] [] := by
 have DA := q1_ c
 have hB := ak2_ (c.take 2000) 0
 have hn := oh_ (c.take 2000) 0
 have ha := aa1_ (c.take 2000)
 generalize (dBk (c.take 2000) 0).1 = l at *
 generalize np_ (c.take 2000) = a at *
 have xB := aku_ (l := l) (a := a) (d := 1) (ls := []) hB (fun s h => by cases h)
 have xl := agv_ l a 1 []
 have yB := aku_ (l := l) (a := 0) (d := 0) (ls := [[]]) hB (fun s h => by simp at h; subst h; simp)
 have yl := agv_ l 0 0 [[]]
 simp only [List.length_singleton, List.length_nil] at xl yl
 have g1 := kc_ l
 have g2 := kc_ (chg l 0 0 [[]])
 have e1 := fun (h : cf_ l 0 0 [[]] = true) => aka_ h
 have e2 := fun (h : cf_ l 0 0 [[]] = true) => ah3_ h
 have e3 := fun (h : ct_ l = true) (h2 : cf_ l 0 0 [[]] = false) => amo_ h h2
 have f1 := fun (h : cf_ l 0 0 [[]] = true) => congrArg List.length (e1 h)
 simp only [List.length_map] at f1
 have hb := abx_ l
 refine al_ (fn := Tryz.f8) [] Tryz.func8 rfl rfl (by simp) fun C => ?_
 rw [aw_]
 simp only [Tryz.ntmps8, T7_, List.length_nil, Nat.reduceAdd, Nat.reduceSub, List.replicate_succ, List.replicate_zero, List.cons_append, List.nil_append, bo_]
 refine .seq (.rgn [] (by simp only [go_sem, seval, ad_, ae_, aq_, az_, sgC, cc_, ca_, bx_, b8_]; rfl) ?_ ?_)
 ·(first | trivial | (simp; done) | omega | (have q := f1 hI.2; simp only [T3_] at h78; and_intros <;> first | omega | (simp [bz_]; done) | exact fun h => ⟨h, by omega, by omega⟩ | exact fun h => ⟨h, by omega⟩ | exact fun h => by rw [h]; rfl))
 refine .seq (.seq (.rgn [] (by simp only [go_sem, seval, ad_, ae_, aq_, az_, sgC, cc_, ca_, bx_, b8_]; rfl) ?_ ?_))
 ·(first | trivial | (simp; done) | omega | (have q := f1 hI.2; simp only [T3_] at h78; and_intros <;> first | omega | (simp [bz_]; done) | exact fun h => ⟨h, by omega, by omega⟩ | exact fun h => ⟨h, by omega⟩ | exact fun h => by rw [h]; rfl))
 refine .condB (by simp only [go_sem, seval, ad_, ae_, aq_, az_, sgC, cc_, ca_, bx_, b8_]; rfl) (by simp only [go_sem, seval, ad_, ae_, aq_, az_, sgC, cc_, ca_, bx_, b8_]) (fun h16 => ?_) (fun h16 => ?_)
 ·refine .seq (.rgn [] (by simp only [go_sem, seval, ad_, ae_, aq_, az_, sgC, cc_, ca_, bx_, b8_]; rfl) ?_ ?_)
  ·(first | trivial | (simp; done) | omega | (have q := f1 hI.2; simp only [T3_] at h78; and_intros <;> first | omega | (simp [bz_]; done) | exact fun h => ⟨h, by omega, by omega⟩ | exact fun h => ⟨h, by omega⟩ | exact fun h => by rw [h]; rfl))
  refine .ret ⟨.inr rfl, ?_⟩
  exact Out.plain (by simp only [Tryz.results8]; rfl) (by simp only [ay_, a6_, go_sem, seval, ad_, ae_, aq_, az_, sgC, cc_, ca_, bx_, b8_] <;> (split <;> rfl)) (by simp only [a5_, go_sem, seval, ad_, ae_, aq_, az_, sgC, cc_, ca_, bx_, b8_] <;> (rfl)) (by simp only [go_sem, seval, ad_, ae_, aq_, az_, sgC, cc_, ca_, bx_, b8_])
 ·refine .skip (.seq (.rgn [a4_ DA] (by simp only [go_sem, seval, ad_, ae_, aq_, az_, sgC, cc_, ca_, bx_, b8_]; rfl) ?_ ?_))
  ·(first | trivial | (simp; done) | omega | (have q := f1 hI.2; simp only [T3_] at h78; and_intros <;> first | omega | (simp [bz_]; done) | exact fun h => ⟨h, by omega, by omega⟩ | exact fun h => ⟨h, by omega⟩ | exact fun h => by rw [h]; rfl))
  refine .seq (.rgn [a4_ (xz_ l a hB (by omega) (by omega) (by omega))] (by simp only [go_sem, seval, ad_, ae_, aq_, az_, sgC, cc_, ca_, bx_, b8_]; rfl) ?_ ?_)
  ·(first | trivial | (simp; done) | omega | (have q := f1 hI.2; simp only [T3_] at h78; and_intros <;> first | omega | (simp [bz_]; done) | exact fun h => ⟨h, by omega, by omega⟩ | exact fun h => ⟨h, by omega⟩ | exact fun h => by rw [h]; rfl))
  refine .seq (.rgn [a4_ (xx_ l a hB (by omega) (by omega) (by omega))] (by simp only [go_sem, seval, ad_, ae_, aq_, az_, sgC, cc_, ca_, bx_, b8_]; rfl) ?_ ?_)
  ·(first | trivial | (simp; done) | omega | (have q := f1 hI.2; simp only [T3_] at h78; and_intros <;> first | omega | (simp [bz_]; done) | exact fun h => ⟨h, by omega, by omega⟩ | exact fun h => ⟨h, by omega⟩ | exact fun h => by rw [h]; rfl))
  refine .seq (.seq (.rgn [a4_ (zu_ (chg l a 1 []) (chg l a 1 []) xB (by omega) (by omega)), a4_ (jz_ l hB (by omega))] (by simp only [go_sem, seval, ad_, ae_, aq_, az_, sgC, cc_, ca_, bx_, b8_]; rfl) ?_ ?_))
  ·(first | trivial | (simp; done) | omega | (have q := f1 hI.2; simp only [T3_] at h78; and_intros <;> first | omega | (simp [bz_]; done) | exact fun h => ⟨h, by omega, by omega⟩ | exact fun h => ⟨h, by omega⟩ | exact fun h => by rw [h]; rfl))
  refine .condB (by simp only [go_sem, seval, ad_, ae_, aq_, az_, sgC, cc_, ca_, bx_, b8_]; rfl) (by simp only [go_sem, seval, ad_, ae_, aq_, az_, sgC, cc_, ca_, bx_, b8_]) (fun h47 => ?_) (fun h47 => ?_)
  ·refine .seq (.rgn [a4_ (zu_ (chg l a 1 []) (chg l a 1 []) xB (by omega) (by omega))] (by simp only [go_sem, seval, ad_, ae_, aq_, az_, sgC, cc_, ca_, bx_, b8_]; rfl) ?_ ?_)
   ·(first | trivial | (simp; done) | omega | (have q := f1 hI.2; simp only [T3_] at h78; and_intros <;> first | omega | (simp [bz_]; done) | exact fun h => ⟨h, by omega, by omega⟩ | exact fun h => ⟨h, by omega⟩ | exact fun h => by rw [h]; rfl))
   refine .ret ⟨.inr rfl, ?_⟩
   exact Out.plain (by simp only [Tryz.results8]; rfl) (by simp only [ay_, a6_, go_sem, seval, ad_, ae_, aq_, az_, sgC, cc_, ca_, bx_, b8_] <;> (split <;> rfl)) (by simp only [a5_, go_sem, seval, ad_, ae_, aq_, az_, sgC, cc_, ca_, bx_, b8_] <;> (simp)) (by simp only [go_sem, seval, ad_, ae_, aq_, az_, sgC, cc_, ca_, bx_, b8_])
  ·refine .skip (.seq (.rgn [a4_ (acd_ l 0 [] hB (by omega) (by decide) (by decide) (by simp))] (by simp only [go_sem, seval, ad_, ae_, aq_, az_, sgC, cc_, ca_, bx_, b8_]; rfl) ?_ ?_))
   ·(first | trivial | (simp; done) | omega | (have q := f1 hI.2; simp only [T3_] at h78; and_intros <;> first | omega | (simp [bz_]; done) | exact fun h => ⟨h, by omega, by omega⟩ | exact fun h => ⟨h, by omega⟩ | exact fun h => by rw [h]; rfl))
   refine .seq (.seq (.rgn [] (by simp only [go_sem, seval, ad_, ae_, aq_, az_, sgC, cc_, ca_, bx_, b8_]; rfl) ?_ ?_))
   ·(first | trivial | (simp; done) | omega | (have q := f1 hI.2; simp only [T3_] at h78; and_intros <;> first | omega | (simp [bz_]; done) | exact fun h => ⟨h, by omega, by omega⟩ | exact fun h => ⟨h, by omega⟩ | exact fun h => by rw [h]; rfl))
   refine .condB (by simp only [go_sem, seval, ad_, ae_, aq_, az_, sgC, cc_, ca_, bx_, b8_]; rfl) (by simp only [go_sem, seval, ad_, ae_, aq_, az_, sgC, cc_, ca_, bx_, b8_]) (fun h62 => ?_) (fun h62 => ?_)
   ·refine .seq (.rgn [] (by simp only [go_sem, seval, ad_, ae_, aq_, az_, sgC, cc_, ca_, bx_, b8_]; rfl) ?_ ?_)
    ·(first | trivial | (simp; done) | omega | (have q := f1 hI.2; simp only [T3_] at h78; and_intros <;> first | omega | (simp [bz_]; done) | exact fun h => ⟨h, by omega, by omega⟩ | exact fun h => ⟨h, by omega⟩ | exact fun h => by rw [h]; rfl))
    refine .ret ⟨.inr rfl, ?_⟩
    exact Out.plain (by simp only [Tryz.results8]; rfl) (by simp only [ay_, a6_, go_sem, seval, ad_, ae_, aq_, az_, sgC, cc_, ca_, bx_, b8_] <;> (split <;> rfl)) (by simp only [a5_, go_sem, seval, ad_, ae_, aq_, az_, sgC, cc_, ca_, bx_, b8_] <;> (have := e3 (by simpa using h47) (by simpa using h62); simp; omega)) (by simp only [go_sem, seval, ad_, ae_, aq_, az_, sgC, cc_, ca_, bx_, b8_])
   ·refine .skip (.seq (.rgn [a4_ (hq_ l hB (by omega))] (by simp only [go_sem, seval, ad_, ae_, aq_, az_, sgC, cc_, ca_, bx_, b8_]; rfl) ?_ ?_))
    ·(first | trivial | (simp; done) | omega | (have q := f1 hI.2; simp only [T3_] at h78; and_intros <;> first | omega | (simp [bz_]; done) | exact fun h => ⟨h, by omega, by omega⟩ | exact fun h => ⟨h, by omega⟩ | exact fun h => by rw [h]; rfl))
    refine .seq (.rgn [a4_ (hq_ (chg l 0 0 [[]]) yB (by omega))] (by simp only [go_sem, seval, ad_, ae_, aq_, az_, sgC, cc_, ca_, bx_, b8_]; rfl) ?_ ?_)
    ·(first | trivial | (simp; done) | omega | (have q := f1 hI.2; simp only [T3_] at h78; and_intros <;> first | omega | (simp [bz_]; done) | exact fun h => ⟨h, by omega, by omega⟩ | exact fun h => ⟨h, by omega⟩ | exact fun h => by rw [h]; rfl))
    refine .seq (.seq (.rgn [] (by simp only [go_sem, seval, ad_, ae_, aq_, az_, sgC, cc_, ca_, bx_, b8_]; rfl) ?_ ?_))
    ·(first | trivial | (simp; done) | omega | (have q := f1 hI.2; simp only [T3_] at h78; and_intros <;> first | omega | (simp [bz_]; done) | exact fun h => ⟨h, by omega, by omega⟩ | exact fun h => ⟨h, by omega⟩ | exact fun h => by rw [h]; rfl))
    refine .condB (by simp only [go_sem, seval, ad_, ae_, aq_, az_, sgC, cc_, ca_, bx_, b8_]; rfl) (by simp only [go_sem, seval, ad_, ae_, aq_, az_, sgC, cc_, ca_, bx_, b8_]) (fun h74 => ?_) (fun h74 => ?_)
    ·rw [f1 (by simpa using h62)] at h74; simp at h74
    ·refine .skip (.seq (.seq (.rgn [] (by simp only [go_sem, seval, ad_, ae_, aq_, az_, sgC, cc_, ca_, bx_, b8_]; rfl) ?_ ?_)))
     ·(first | trivial | (simp; done) | omega | (have q := f1 hI.2; simp only [T3_] at h78; and_intros <;> first | omega | (simp [bz_]; done) | exact fun h => ⟨h, by omega, by omega⟩ | exact fun h => ⟨h, by omega⟩ | exact fun h => by rw [h]; rfl))
     refine .block (.loopK (fun k : Nat => ⟨[.no, .no, .no, .sl false (pgR l), .no, .no, .no, .no, .no, .sl false (pgR (chg l 0 0 [[]])), .no, .sl false (sgR (cq_ l)), .sl false (sgR (cq_ (chg l 0 0 [[]]))), .i .i64 k, .no, .no, .no, .no, .no, .no, .no, .no, .no, .no, .no, .no, .no, .no, .no, .no, .no, .no, .no, .no, .no, .no, .no, .no, .no, .no, .no, .no, .no, .no, .no, .no, .no, .no, .no, .no, .no, .no, .no, .no, .no, .no, .no, .no, .no, .no, .no, .no, .no, .no, .no, .no, .no, .no, .no, .no, .no, .no, .no, .no, .no, .no, .no, .no, .no, .no, .no, .no, .no, .no, .no, .no, .no, .no, .no, .no, .no, .no, .no, .no, .no, .no, .no, .no, .no, .no, .no, .no, .no, .no, .no, .no, .no, .no, .no, .no, .no, .no, .no, .no, .no, .no, .no, .no, .no, .no, .no, .no, .no, .no, .no, .no, .no, .no, .no], be_ [], us []⟩) (fun k : Nat => k ≤ (cq_ l).length ∧ cf_ l 0 0 [[]] = true) (fun k : Nat => (cq_ l).length - k) (0) ?_ ?_ (fun k hI => ?_))
     ·exact ⟨Nat.zero_le _, by simpa using h62⟩
     ·exact Can.weak (Weak.lit (by simp only [go_sem, seval, ad_, ae_, aq_, az_, sgC, cc_, ca_, bx_, b8_, as_, leV, ap_, ar_, V.inn, us, T9_, Ta_] <;> ((try simp))) (by simp only [go_sem, seval, ad_, ae_, aq_, az_, sgC, cc_, ca_, bx_, b8_, as_, leV, ap_, ar_, V.inn, us, T9_, Ta_]) (by simp only [go_sem, seval, ad_, ae_, aq_, az_, sgC, cc_, ca_, bx_, b8_, as_, leV, ap_, ar_, V.inn, us, T9_, Ta_]))
     refine .seq (.seq (.rgn [] (by simp only [go_sem, seval, ad_, ae_, aq_, az_, sgC, cc_, ca_, bx_, b8_]; rfl) ?_ ?_))
     ·(first | trivial | (simp; done) | omega | (have q := f1 hI.2; simp only [T3_] at h78; and_intros <;> first | omega | (simp [bz_]; done) | exact fun h => ⟨h, by omega, by omega⟩ | exact fun h => ⟨h, by omega⟩ | exact fun h => by rw [h]; rfl))
     refine .condB (by simp only [go_sem, seval, ad_, ae_, aq_, az_, sgC, cc_, ca_, bx_, b8_]; rfl) (by simp only [go_sem, seval, ad_, ae_, aq_, az_, sgC, cc_, ca_, bx_, b8_]) (fun h78 => ?_) (fun h78 => ?_)
     ·refine .skip (.seq (.block (.seq (.rgnDS [100, 121] [cc_ En .neq 52 2 alc_, cc_ En .neq 52 2 alc_] enM (by simp only [go_sem, seval, ad_, ae_, aq_, az_, sgC, cc_, ca_, bx_, b8_, tp_ (show k < (cq_ l).length by simpa using h78), tp_ (show k < (cq_ (chg l 0 0 [[]])).length by rw [e1 hI.2, List.length_map]; simpa using h78), (afx_ hn (show k < (cq_ l).length by simpa using h78)).1, (afx_ hn (show k < (cq_ l).length by simpa using h78)).2]; rfl) (by rfl) ?_ ?_))))
      ·(first | trivial | (simp; done) | omega | (have q := f1 hI.2; simp only [T3_] at h78; and_intros <;> first | omega | (simp [bz_]; done) | exact fun h => ⟨h, by omega, by omega⟩ | exact fun h => ⟨h, by omega⟩ | exact fun h => by rw [h]; rfl))
      refine .condB (by simp only [go_sem, seval, ad_, ae_, aq_, az_, sgC, cc_, ca_, bx_, b8_]; rfl) (by simp only [go_sem, seval, ad_, ae_, aq_, az_, sgC, cc_, ca_, bx_, b8_]) (fun h122 => ?_) (fun h122 => ?_)
      ·rw [show (cq_ (chg l 0 0 [[]])).getD k G0 = shS ((cq_ l).getD k G0) by rw [e1 hI.2, aki_ (by simpa using h78)]] at h122; simp [shS] at h122
      ·refine .skip (.rgn [] (by simp only [go_sem, seval, ad_, ae_, aq_, az_, sgC, cc_, ca_, bx_, b8_]; rfl) ?_ ?_)
       ·(first | trivial | (simp; done) | omega | (have q := f1 hI.2; simp only [T3_] at h78; and_intros <;> first | omega | (simp [bz_]; done) | exact fun h => ⟨h, by omega, by omega⟩ | exact fun h => ⟨h, by omega⟩ | exact fun h => by rw [h]; rfl))
       refine Exists.intro (k + 1) ⟨?_, ?_, ?_⟩
       ·simp at h78; exact ⟨by omega, hI.2⟩
       ·simp at h78; omega
       exact Can.weak (Weak.lit (by simp only [go_sem, seval, ad_, ae_, aq_, az_, sgC, cc_, ca_, bx_, b8_, as_, leV, ap_, ar_, V.inn, us, T9_, Ta_] <;> (simp at h78; rw [bd_ (by omega) (by omega)]; (try simp))) (by simp only [go_sem, seval, ad_, ae_, aq_, az_, sgC, cc_, ca_, bx_, b8_, as_, leV, ap_, ar_, V.inn, us, T9_, Ta_]) (by simp only [go_sem, seval, ad_, ae_, aq_, az_, sgC, cc_, ca_, bx_, b8_, as_, leV, ap_, ar_, V.inn, us, T9_, Ta_]))
     ·refine .exit (.seq (.rgn [a4_ (hv_ (chg l 0 0 [[]]) yB (by omega)), a4_ (hv_ l hB (by omega))] (by simp only [go_sem, seval, ad_, ae_, aq_, az_, sgC, cc_, ca_, bx_, b8_]; rfl) ?_ ?_))
      ·(first | trivial | (simp; done) | omega | (have q := f1 hI.2; simp only [T3_] at h78; and_intros <;> first | omega | (simp [bz_]; done) | exact fun h => ⟨h, by omega, by omega⟩ | exact fun h => ⟨h, by omega⟩ | exact fun h => by rw [h]; rfl))
      refine .ret ⟨.inr rfl, ?_⟩
      exact Out.plain (by simp only [Tryz.results8]; rfl) (by simp only [ay_, a6_, go_sem, seval, ad_, ae_, aq_, az_, sgC, cc_, ca_, bx_, b8_] <;> (split <;> rfl)) (by simp only [a5_, go_sem, seval, ad_, ae_, aq_, az_, sgC, cc_, ca_, bx_, b8_] <;> (rw [e2 hI.2]; simp)) (by simp only [go_sem, seval, ad_, ae_, aq_, az_, sgC, cc_, ca_, bx_, b8_])
end Go.Proofs.YtpikbndepapbhaaGreatDoor
