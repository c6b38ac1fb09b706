/- The law FnBookTwo: what it answers. Conditions: none. -/
import Derived.Test.YtpikbndepapbhaaGreatDoorK16
set_option linter.unusedVariables false
set_option linter.unusedSimpArgs false
namespace Go.Proofs.YtpikbndepapbhaaGreatDoor
set_option maxRecDepth 100000
set_option maxHeartbeats 4000000
theorem uc_ (c d : Str) : ACall En 4 [.sl false (byR c), .sl false (byR d)] [] [.b true] [] := by
 have DA := ii_ c
 have DD := ii_ d
 have hB := abi_ (c.take 2000) 0
 have hn := kl_ (c.take 2000) 0
 have ha := pk_ (c.take 2000)
 have hw := ko_ (c.take 2000)
 have ho := ko_ (d.take 2000)
 generalize (dBk (c.take 2000) 0).1 = l at *
 generalize jv_ (c.take 2000) = a at *
 generalize mz_ (c.take 2000) = w at *
 generalize (dBk (d.take 2000) 0).1 = l2 at *
 generalize jv_ (d.take 2000) = a2 at *
 generalize mz_ (d.take 2000) = o at *
 have hw2 : ∀ s ∈ [w], s.length ≤ 2000000 := fun s h => by simp at h; subst h; omega
 have ho2 : ∀ s ∈ [o], s.length ≤ 2000000 := fun s h => by simp at h; subst h; omega
 have xB := jo_ (l := l) (a := a) (d := 1) (ls := [w]) hB hw2
 have xl := g0_ l a 1 [w]
 simp only [List.length_singleton] at xl
 have hq : ((d.length : Int).tmod (l.length : Int)) = ((d.length % l.length : Nat) : Int) := by rw [Int.tmod_eq_emod_of_nonneg (by omega)]; rfl
 have hk : bv_ l a 1 [w] = true → d.length % l.length < l.length := fun h => Nat.mod_lt _ (cy_ (dl_.1 h).1).1
 have hk1 : ∀ i : Nat, i < l.length → IntKind.i64.wrap ((i : Int) + 1) = ((i + 1 : Nat) : Int) := fun i h => bd_ (n := ((i + 1 : Nat) : Int)) (by omega) (by omega)
 have e1 : ∀ k : Int, bv_ l a 1 [w] = true → bv_ (chg l a 1 [w]) k 1 [o] = bv_ l k 1 [o] := fun k h => mf_ (dl_.1 h).1 (ll_ h) (ck_ h)
 generalize d.length % l.length = k at *
 have yB := jo_ (l := chg l a 1 [w]) (a := k) (d := 1) (ls := [o]) xB ho2
 have yl := g0_ (chg l a 1 [w]) k 1 [o]
 have zB := jo_ (l := l) (a := k) (d := 1) (ls := [o]) hB ho2
 have zl := g0_ l k 1 [o]
 simp only [List.length_singleton] at yl zl
 have uB := jo_ (l := chg l k 1 [o]) (a := a) (d := 1) (ls := [w]) zB hw2
 have ul := g0_ (chg l k 1 [o]) a 1 [w]
 simp only [List.length_singleton] at ul
 refine ak_ (fn := Tryz.f4) [] Tryz.func4 rfl rfl (by simp) fun C => ?_
 rw [aw_]
 simp only [Tryz.ntmps4, T7_, List.length_nil, Nat.reduceAdd, Nat.reduceSub, List.replicate_succ, List.replicate_zero, List.cons_append, List.nil_append, bo_]
 refine .seq (.rgn [] (by simp only [go_sem, seval, ad_, ae_, hq]; rfl) ?_ ?_)
 ·(first | trivial | (simp; done) | (have q := hk (by simpa using h69); omega) | (have q1 := ck_ hI.2; simp only [T3_] at h103; and_intros <;> first | exact fun h => ⟨h, by omega, by omega⟩ | exact fun h => ⟨h, ⟨by omega, by omega, by omega, by omega, fun h => absurd rfl h⟩, .inr (dn_ _)⟩))
 refine .seq (.seq (.rgn [] (by simp only [go_sem, seval, ad_, ae_, hq]; rfl) ?_ ?_))
 ·(first | trivial | (simp; done) | (have q := hk (by simpa using h69); omega) | (have q1 := ck_ hI.2; simp only [T3_] at h103; and_intros <;> first | exact fun h => ⟨h, by omega, by omega⟩ | exact fun h => ⟨h, ⟨by omega, by omega, by omega, by omega, fun h => absurd rfl h⟩, .inr (dn_ _)⟩))
 refine .condB (by simp only [go_sem, seval, ad_, ae_, hq]; rfl) (by simp only [go_sem, seval, ad_, ae_, hq]) (fun h30 => ?_) (fun h30 => ?_)
 ·refine .seq (.rgn [] (by simp only [go_sem, seval, ad_, ae_, hq]; rfl) ?_ ?_)
  ·(first | trivial | (simp; done) | (have q := hk (by simpa using h69); omega) | (have q1 := ck_ hI.2; simp only [T3_] at h103; and_intros <;> first | exact fun h => ⟨h, by omega, by omega⟩ | exact fun h => ⟨h, ⟨by omega, by omega, by omega, by omega, fun h => absurd rfl h⟩, .inr (dn_ _)⟩))
  refine .ret ⟨.inr rfl, ?_⟩
  exact Out.plain (by simp only [Tryz.results4]; rfl) (by simp only [ay_, a6_, go_sem, seval, ad_, ae_, hq] <;> (split <;> rfl)) (by simp only [a5_, go_sem, seval, ad_, ae_, hq] <;> (rfl)) (by simp only [go_sem, seval, ad_, ae_, hq])
 ·refine .skip (.seq (.rgn [a3_ DA] (by simp only [go_sem, seval, ad_, ae_, hq]; rfl) ?_ ?_))
  ·(first | trivial | (simp; done) | (have q := hk (by simpa using h69); omega) | (have q1 := ck_ hI.2; simp only [T3_] at h103; and_intros <;> first | exact fun h => ⟨h, by omega, by omega⟩ | exact fun h => ⟨h, ⟨by omega, by omega, by omega, by omega, fun h => absurd rfl h⟩, .inr (dn_ _)⟩))
  refine .seq (.rgn [a3_ DD] (by simp only [go_sem, seval, ad_, ae_, hq]; rfl) ?_ ?_)
  ·(first | trivial | (simp; done) | (have q := hk (by simpa using h69); omega) | (have q1 := ck_ hI.2; simp only [T3_] at h103; and_intros <;> first | exact fun h => ⟨h, by omega, by omega⟩ | exact fun h => ⟨h, ⟨by omega, by omega, by omega, by omega, fun h => absurd rfl h⟩, .inr (dn_ _)⟩))
  refine .seq (.rgn [a3_ (fn_ l a w hB (by omega) (by omega) (by omega) (by omega))] (by simp only [go_sem, seval, ad_, ae_, hq]; rfl) ?_ ?_)
  ·(first | trivial | (simp; done) | (have q := hk (by simpa using h69); omega) | (have q1 := ck_ hI.2; simp only [T3_] at h103; and_intros <;> first | exact fun h => ⟨h, by omega, by omega⟩ | exact fun h => ⟨h, ⟨by omega, by omega, by omega, by omega, fun h => absurd rfl h⟩, .inr (dn_ _)⟩))
  refine .seq (.rgn [a3_ (zd_ l a w hB (by omega) (by omega) (by omega) (by omega))] (by simp only [go_sem, seval, ad_, ae_, hq]; rfl) ?_ ?_)
  ·(first | trivial | (simp; done) | (have q := hk (by simpa using h69); omega) | (have q1 := ck_ hI.2; simp only [T3_] at h103; and_intros <;> first | exact fun h => ⟨h, by omega, by omega⟩ | exact fun h => ⟨h, ⟨by omega, by omega, by omega, by omega, fun h => absurd rfl h⟩, .inr (dn_ _)⟩))
  refine .seq (.seq (.rgn [a3_ (d5_ (chg l a 1 [w]) (chg l a 1 [w]) xB (by omega) (by omega))] (by simp only [go_sem, seval, ad_, ae_, hq]; rfl) ?_ ?_))
  ·(first | trivial | (simp; done) | (have q := hk (by simpa using h69); omega) | (have q1 := ck_ hI.2; simp only [T3_] at h103; and_intros <;> first | exact fun h => ⟨h, by omega, by omega⟩ | exact fun h => ⟨h, ⟨by omega, by omega, by omega, by omega, fun h => absurd rfl h⟩, .inr (dn_ _)⟩))
  refine .condB (by simp only [go_sem, seval, ad_, ae_, hq]; rfl) (by simp only [go_sem, seval, ad_, ae_, hq]) (fun h69 => ?_) (fun h69 => ?_)
  ·refine .seq (.rgn [a3_ (d5_ (chg l a 1 [w]) (chg l a 1 [w]) xB (by omega) (by omega))] (by simp only [go_sem, seval, ad_, ae_, hq]; rfl) ?_ ?_)
   ·(first | trivial | (simp; done) | (have q := hk (by simpa using h69); omega) | (have q1 := ck_ hI.2; simp only [T3_] at h103; and_intros <;> first | exact fun h => ⟨h, by omega, by omega⟩ | exact fun h => ⟨h, ⟨by omega, by omega, by omega, by omega, fun h => absurd rfl h⟩, .inr (dn_ _)⟩))
   refine .ret ⟨.inr rfl, ?_⟩
   exact Out.plain (by simp only [Tryz.results4]; rfl) (by simp only [ay_, a6_, go_sem, seval, ad_, ae_, hq] <;> (split <;> rfl)) (by simp only [a5_, go_sem, seval, ad_, ae_, hq] <;> (simp)) (by simp only [go_sem, seval, ad_, ae_, hq])
  ·refine .skip (.seq (.rgn [] (by simp only [go_sem, seval, ad_, ae_, hq]; rfl) ?_ ?_))
   ·(first | trivial | (simp; done) | (have q := hk (by simpa using h69); omega) | (have q1 := ck_ hI.2; simp only [T3_] at h103; and_intros <;> first | exact fun h => ⟨h, by omega, by omega⟩ | exact fun h => ⟨h, ⟨by omega, by omega, by omega, by omega, fun h => absurd rfl h⟩, .inr (dn_ _)⟩))
   refine .seq (.rgn [b9_ (k < l.length) (fun h => fn_ (chg l a 1 [w]) k o xB (by omega) (by omega) (by omega) (by omega))] (by simp only [go_sem, seval, ad_, ae_, hq]; rfl) ?_ ?_)
   ·(first | trivial | (simp; done) | (have q := hk (by simpa using h69); omega) | (have q1 := ck_ hI.2; simp only [T3_] at h103; and_intros <;> first | exact fun h => ⟨h, by omega, by omega⟩ | exact fun h => ⟨h, ⟨by omega, by omega, by omega, by omega, fun h => absurd rfl h⟩, .inr (dn_ _)⟩))
   refine .seq (.rgn [b9_ (k < l.length) (fun h => fn_ l k o hB (by omega) (by omega) (by omega) (by omega))] (by simp only [go_sem, seval, ad_, ae_, hq]; rfl) ?_ ?_)
   ·(first | trivial | (simp; done) | (have q := hk (by simpa using h69); omega) | (have q1 := ck_ hI.2; simp only [T3_] at h103; and_intros <;> first | exact fun h => ⟨h, by omega, by omega⟩ | exact fun h => ⟨h, ⟨by omega, by omega, by omega, by omega, fun h => absurd rfl h⟩, .inr (dn_ _)⟩))
   refine .seq (.seq (.rgn [] (by simp only [go_sem, seval, ad_, ae_, hq]; rfl) ?_ ?_))
   ·(first | trivial | (simp; done) | (have q := hk (by simpa using h69); omega) | (have q1 := ck_ hI.2; simp only [T3_] at h103; and_intros <;> first | exact fun h => ⟨h, by omega, by omega⟩ | exact fun h => ⟨h, ⟨by omega, by omega, by omega, by omega, fun h => absurd rfl h⟩, .inr (dn_ _)⟩))
   refine .condB (by simp only [go_sem, seval, ad_, ae_, hq]; rfl) (by simp only [go_sem, seval, ad_, ae_, hq]) (fun h99 => ?_) (fun h99 => ?_)
   ·rw [e1 k (by simpa using h69)] at h99; simp at h99
   ·refine .skip (.seq (.seq (.rgn [] (by simp only [go_sem, seval, ad_, ae_, hq]; rfl) ?_ ?_)))
    ·(first | trivial | (simp; done) | (have q := hk (by simpa using h69); omega) | (have q1 := ck_ hI.2; simp only [T3_] at h103; and_intros <;> first | exact fun h => ⟨h, by omega, by omega⟩ | exact fun h => ⟨h, ⟨by omega, by omega, by omega, by omega, fun h => absurd rfl h⟩, .inr (dn_ _)⟩))
    refine .block (.loopK (fun i : Nat => ⟨[.no, .no, .no, .no, .no, .sl false (pgR l), .i .i64 a, .s w, .no, .no, .no, .sl false (pgR (chg l a 1 [w])), .no, .no, .no, .i .i64 k, .sl false (pgR (chg (chg l a 1 [w]) k 1 [o])), .b (bv_ l k 1 [o]), .sl false (pgR (chg l k 1 [o])), .no, .i .i64 i, .no, .no, .no, .no, .no, .no, .no, .no, .no, .no, .no, .no, .no, .no, .no, .no, .no, .no, .no, .no, .no, .no, .no, .no, .no, .no, .no, .no, .no, .no, .no, .no, .no, .no, .no, .no, .no, .no, .no, .no, .no, .no, .no, .no, .no, .no, .no, .no, .no, .no, .no, .no, .no, .no, .no, .no, .no, .no, .no, .no, .no, .no, .no, .no, .no, .no, .no, .no, .no, .no, .no, .no, .no, .no, .no, .no, .no, .no, .no, .no, .no, .no, .no, .no, .no, .no, .no, .no, .no, .no, .no, .no, .no, .no, .no, .no, .no, .no, .no, .no, .no, .no, .no, .no, .no, .no, .no, .no, .no, .no, .no, .no, .no, .no, .no, .no, .no, .no, .no, .no, .no, .no, .no, .no, .no, .no, .no, .no, .no], be_ [], us []⟩) (fun i : Nat => i ≤ l.length ∧ bv_ l a 1 [w] = true) (fun i : Nat => l.length - i) (0) ?_ ?_ (fun i hI => ?_))
    ·exact ⟨Nat.zero_le _, by simpa using h69⟩
    ·exact Can.weak (Weak.lit (by simp only [go_sem, seval, ad_, ae_, hq, ar_, leV, ap_, aq_, V.inn, us, T9_, Ta_] <;> (exact e1 k (by simpa using h69))) (by simp only [go_sem, seval, ad_, ae_, hq, ar_, leV, ap_, aq_, V.inn, us, T9_, Ta_]) (by simp only [go_sem, seval, ad_, ae_, hq, ar_, leV, ap_, aq_, V.inn, us, T9_, Ta_]))
    refine .seq (.seq (.rgn [] (by simp only [go_sem, seval, ad_, ae_, hq]; rfl) ?_ ?_))
    ·(first | trivial | (simp; done) | (have q := hk (by simpa using h69); omega) | (have q1 := ck_ hI.2; simp only [T3_] at h103; and_intros <;> first | exact fun h => ⟨h, by omega, by omega⟩ | exact fun h => ⟨h, ⟨by omega, by omega, by omega, by omega, fun h => absurd rfl h⟩, .inr (dn_ _)⟩))
    refine .condB (by simp only [go_sem, seval, ad_, ae_, hq]; rfl) (by simp only [go_sem, seval, ad_, ae_, hq]) (fun h103 => ?_) (fun h103 => ?_)
    ·refine .skip (.seq (.block (.seq (.rgnD [b9_ (i < l.length ∧ i < (chg l a 1 [w]).length) (fun h => d5_ [(chg l a 1 [w]).getD i Pg0] [l.getD i Pg0] (alj_ xB h.2) (by simp) (by simp))] enM (by simp only [go_sem, seval, ad_, ae_, hq, hk1 i (by simpa using h103), Int.toNat_natCast, zh_, m2_ (show i < l.length by simpa using h103), m2_ (show i < (chg l a 1 [w]).length by rw [ck_ hI.2]; simpa using h103)]; rfl) (by rfl) ?_ ?_))))
     ·(first | trivial | (simp; done) | (have q := hk (by simpa using h69); omega) | (have q1 := ck_ hI.2; simp only [T3_] at h103; and_intros <;> first | exact fun h => ⟨h, by omega, by omega⟩ | exact fun h => ⟨h, ⟨by omega, by omega, by omega, by omega, fun h => absurd rfl h⟩, .inr (dn_ _)⟩))
     refine .condB (by simp only [go_sem, seval, ad_, ae_, hq]; rfl) (by simp only [go_sem, seval, ad_, ae_, hq]) (fun h122 => ?_) (fun h122 => ?_)
     ·simp only [T3_] at h103; simp only [T5_, bne_iff_ne, ne_eq, Bool.not_eq_true', T4_] at h122; exact (h122.2 (by rw [add_ hI.2 (i := i) (by omega) h122.1])).elim
     ·refine .skip (.rgn [] (by simp only [go_sem, seval, ad_, ae_, hq]; rfl) ?_ ?_)
      ·(first | trivial | (simp; done) | (have q := hk (by simpa using h69); omega) | (have q1 := ck_ hI.2; simp only [T3_] at h103; and_intros <;> first | exact fun h => ⟨h, by omega, by omega⟩ | exact fun h => ⟨h, ⟨by omega, by omega, by omega, by omega, fun h => absurd rfl h⟩, .inr (dn_ _)⟩))
      refine Exists.intro (i + 1) ⟨?_, ?_, ?_⟩
      ·simp at h103; exact ⟨by omega, hI.2⟩
      ·simp at h103; omega
      exact Can.weak (Weak.lit (by simp only [go_sem, seval, ad_, ae_, hq, ar_, leV, ap_, aq_, V.inn, us, T9_, Ta_] <;> (simp at h103; rw [bd_ (by omega) (by omega)]; (try simp))) (by simp only [go_sem, seval, ad_, ae_, hq, ar_, leV, ap_, aq_, V.inn, us, T9_, Ta_]) (by simp only [go_sem, seval, ad_, ae_, hq, ar_, leV, ap_, aq_, V.inn, us, T9_, Ta_]))
    ·refine .exit (.seq (.seq (.rgn [] (by simp only [go_sem, seval, ad_, ae_, hq]; rfl) ?_ ?_)))
     ·(first | trivial | (simp; done) | (have q := hk (by simpa using h69); omega) | (have q1 := ck_ hI.2; simp only [T3_] at h103; and_intros <;> first | exact fun h => ⟨h, by omega, by omega⟩ | exact fun h => ⟨h, ⟨by omega, by omega, by omega, by omega, fun h => absurd rfl h⟩, .inr (dn_ _)⟩))
     refine .condB (by simp only [go_sem, seval, ad_, ae_, hq]; rfl) (by simp only [go_sem, seval, ad_, ae_, hq]) (fun h129 => ?_) (fun h129 => ?_)
     ·refine .seq (.rgn [a3_ (d5_ (chg (chg l a 1 [w]) k 1 [o]) (chg l k 1 [o]) yB (by omega) (by omega))] (by simp only [go_sem, seval, ad_, ae_, hq]; rfl) ?_ ?_)
      ·(first | trivial | (simp; done) | (have q := hk (by simpa using h69); omega) | (have q1 := ck_ hI.2; simp only [T3_] at h103; and_intros <;> first | exact fun h => ⟨h, by omega, by omega⟩ | exact fun h => ⟨h, ⟨by omega, by omega, by omega, by omega, fun h => absurd rfl h⟩, .inr (dn_ _)⟩))
      refine .ret ⟨.inr rfl, ?_⟩
      exact Out.plain (by simp only [Tryz.results4]; rfl) (by simp only [ay_, a6_, go_sem, seval, ad_, ae_, hq] <;> (split <;> rfl)) (by simp only [a5_, go_sem, seval, ad_, ae_, hq] <;> (have hc := e1 k hI.2; cases hz : bv_ l k 1 [o] with | false => rfl | true => (rw [hz] at h129; have ek : (k : Int) = a := (by simpa using h129); rw [ek] at hz ⊢; rw [akb_ hI.2 hz]; simp))) (by simp only [go_sem, seval, ad_, ae_, hq])
     ·refine .skip (.seq (.rgn [b9_ (k < l.length) (fun h => fn_ (chg l k 1 [o]) a w zB (by omega) (by omega) (by omega) (by omega))] (by simp only [go_sem, seval, ad_, ae_, hq]; rfl) ?_ ?_))
      ·(first | trivial | (simp; done) | (have q := hk (by simpa using h69); omega) | (have q1 := ck_ hI.2; simp only [T3_] at h103; and_intros <;> first | exact fun h => ⟨h, by omega, by omega⟩ | exact fun h => ⟨h, ⟨by omega, by omega, by omega, by omega, fun h => absurd rfl h⟩, .inr (dn_ _)⟩))
      refine .seq (.rgn [a3_ (d5_ (chg (chg l k 1 [o]) a 1 [w]) (chg (chg l a 1 [w]) k 1 [o]) uB (by omega) (by omega))] (by simp only [go_sem, seval, ad_, ae_, hq]; rfl) ?_ ?_)
      ·(first | trivial | (simp; done) | (have q := hk (by simpa using h69); omega) | (have q1 := ck_ hI.2; simp only [T3_] at h103; and_intros <;> first | exact fun h => ⟨h, by omega, by omega⟩ | exact fun h => ⟨h, ⟨by omega, by omega, by omega, by omega, fun h => absurd rfl h⟩, .inr (dn_ _)⟩))
      refine .ret ⟨.inr rfl, ?_⟩
      exact Out.plain (by simp only [Tryz.results4]; rfl) (by simp only [ay_, a6_, go_sem, seval, ad_, ae_, hq] <;> (split <;> rfl)) (by simp only [a5_, go_sem, seval, ad_, ae_, hq] <;> (have h2 : bv_ l k 1 [o] = true ∧ (k : Int) ≠ a := (by simpa using h129); obtain ⟨q1, q2⟩ := aev_ hI.2 h2.1 h2.2; rw [q1, q2]; simp)) (by simp only [go_sem, seval, ad_, ae_, hq])
end Go.Proofs.YtpikbndepapbhaaGreatDoor
