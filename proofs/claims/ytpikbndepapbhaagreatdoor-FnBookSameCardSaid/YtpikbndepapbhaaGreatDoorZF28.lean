/- The law FnBookSame: what it answers. Conditions: none. -/
import Derived.Test.YtpikbndepapbhaaGreatDoorK16
set_option linter.unusedVariables false
set_option linter.unusedSimpArgs false
namespace Go.Proofs.YtpikbndepapbhaaGreatDoor
set_option maxRecDepth 100000
set_option maxHeartbeats 4000000
theorem ru_ (c : Str) : ACall En 5 [.sl false (byR c)] [] [.b true] [] := by
 have DA := lu_ c
 have hB := abi_ (c.take 2000) 0
 have hn := kl_ (c.take 2000) 0
 have ha := pk_ (c.take 2000)
 have hw := ko_ (c.take 2000)
 generalize (dBk (c.take 2000) 0).1 = l at *
 generalize jv_ (c.take 2000) = a at *
 generalize mz_ (c.take 2000) = w at *
 have hw2 : ∀ s ∈ [w], s.length ≤ 2000000 := fun s h => by simp at h; subst h; omega
 have xB := jo_ (l := l) (a := a) (d := 0) (ls := [w]) hB hw2
 have xl := g0_ l a 0 [w]
 simp only [List.length_singleton] at xl
 have yB := jo_ (l := chg l a 0 [w]) (a := a) (d := 1) (ls := [w]) xB hw2
 have yl := g0_ (chg l a 0 [w]) a 1 [w]
 have zB := jo_ (l := chg l a 0 [w]) (a := a) (d := 0) (ls := [w]) xB hw2
 have zl := g0_ (chg l a 0 [w]) a 0 [w]
 simp only [List.length_singleton] at yl zl
 have hw3 : IntKind.i64.wrap (a + 1) = a + 1 := by rw [bd_ (by omega) (by omega)]
 have hw4 : IntKind.i64.wrap (a + 2) = a + 2 := by rw [bd_ (by omega) (by omega)]
 have hw5 : IntKind.i64.wrap ((l.length : Int) + 2) = (l.length : Int) + 2 := by rw [bd_ (by omega) (by omega)]
 refine ak_ (fn := Tryz.f5) [] Tryz.func5 rfl rfl (by simp) fun C => ?_
 rw [aw_]
 simp only [Tryz.ntmps5, T7_, List.length_nil, Nat.reduceAdd, Nat.reduceSub, List.replicate_succ, List.replicate_zero, List.cons_append, List.nil_append, bo_]
 refine .seq (.rgn [] (by simp only [go_sem, seval, ad_, ae_, hw3, hw4, hw5]; rfl) ?_ ?_)
 ·first | trivial | simp
 refine .seq (.seq (.rgn [] (by simp only [go_sem, seval, ad_, ae_, hw3, hw4, hw5]; rfl) ?_ ?_))
 ·first | trivial | simp
 refine .condB (by simp only [go_sem, seval, ad_, ae_, hw3, hw4, hw5]; rfl) (by simp only [go_sem, seval, ad_, ae_, hw3, hw4, hw5]) (fun h16 => ?_) (fun h16 => ?_)
 ·refine .seq (.rgn [] (by simp only [go_sem, seval, ad_, ae_, hw3, hw4, hw5]; rfl) ?_ ?_)
  ·first | trivial | simp
  refine .ret ⟨.inr rfl, ?_⟩
  exact Out.plain (by simp only [Tryz.results5]; rfl) (by simp only [ay_, a6_, go_sem, seval, ad_, ae_, hw3, hw4, hw5] <;> (split <;> rfl)) (by simp only [a5_, go_sem, seval, ad_, ae_, hw3, hw4, hw5] <;> (rfl)) (by simp only [go_sem, seval, ad_, ae_, hw3, hw4, hw5])
 ·refine .skip (.seq (.rgn [a3_ DA] (by simp only [go_sem, seval, ad_, ae_, hw3, hw4, hw5]; rfl) ?_ ?_))
  ·first | trivial | simp
  refine .seq (.rgn [a3_ (kx_ l a w hB (by omega) (by omega) (by omega) (by omega))] (by simp only [go_sem, seval, ad_, ae_, hw3, hw4, hw5]; rfl) ?_ ?_)
  ·first | trivial | simp
  refine .seq (.rgn [a3_ (sr_ l a w hB (by omega) (by omega) (by omega) (by omega))] (by simp only [go_sem, seval, ad_, ae_, hw3, hw4, hw5]; rfl) ?_ ?_)
  ·first | trivial | simp
  refine .seq (.seq (.rgn [a3_ (d5_ (chg l a 0 [w]) (chg l a 0 [w]) xB (by omega) (by omega))] (by simp only [go_sem, seval, ad_, ae_, hw3, hw4, hw5]; rfl) ?_ ?_))
  ·first | trivial | simp
  refine .condB (by simp only [go_sem, seval, ad_, ae_, hw3, hw4, hw5]; rfl) (by simp only [go_sem, seval, ad_, ae_, hw3, hw4, hw5]) (fun h49 => ?_) (fun h49 => ?_)
  ·refine .seq (.rgn [a3_ (d5_ (chg l a 0 [w]) (chg l a 0 [w]) xB (by omega) (by omega))] (by simp only [go_sem, seval, ad_, ae_, hw3, hw4, hw5]; rfl) ?_ ?_)
   ·first | trivial | simp
   refine .ret ⟨.inr rfl, ?_⟩
   exact Out.plain (by simp only [Tryz.results5]; rfl) (by simp only [ay_, a6_, go_sem, seval, ad_, ae_, hw3, hw4, hw5] <;> (split <;> rfl)) (by simp only [a5_, go_sem, seval, ad_, ae_, hw3, hw4, hw5] <;> (simp)) (by simp only [go_sem, seval, ad_, ae_, hw3, hw4, hw5])
  ·refine .skip (.seq (.rgn [a3_ (fn_ (chg l a 0 [w]) a w xB (by omega) (by omega) (by omega) (by omega))] (by simp only [go_sem, seval, ad_, ae_, hw3, hw4, hw5]; rfl) ?_ ?_))
   ·first | trivial | simp
   refine .seq (.rgn [a3_ (kx_ (chg l a 0 [w]) a w xB (by omega) (by omega) (by omega) (by omega))] (by simp only [go_sem, seval, ad_, ae_, hw3, hw4, hw5]; rfl) ?_ ?_)
   ·first | trivial | simp
   refine .seq (.seq (.rgn [a3_ (d5_ (chg (chg l a 0 [w]) a 1 [w]) (chg l a 0 [w]) yB (by omega) (by omega))] (by simp only [go_sem, seval, ad_, ae_, hw3, hw4, hw5]; rfl) ?_ ?_))
   ·first | trivial | simp
   refine .condB (by simp only [go_sem, seval, ad_, ae_, hw3, hw4, hw5]; rfl) (by simp only [go_sem, seval, ad_, ae_, hw3, hw4, hw5]) (fun h79 => ?_) (fun h79 => ?_)
   ·obtain ⟨q1, q2⟩ := am8_ (l := l) (a := a) (w := w) (by simpa using h49); rw [q1, q2] at h79; simp at h79
   ·refine .skip (.seq (.rgnD [b9_ (bv_ (chg l a 0 [w]) a 0 [w] = true) (fun h => d5_ [(chg (chg l a 0 [w]) a 0 [w]).getD a.toNat Pg0] [(chg (chg l a 0 [w]) a 0 [w]).getD (a.toNat + 1) Pg0] (alj_ zB (by have := jx_ h; have := (gc_.1 h).2; omega)) (by simp) (by simp))] enM (by simp only [go_sem, seval, ad_, ae_, hw3, hw4, hw5]; rfl) (by rfl) ?_ ?_))
    ·cases hz : bv_ (chg l a 0 [w]) a 0 [w] with | false => simp | true => (have h1 : bv_ l a 0 [w] = true := (by simpa using h49); have q1 := jx_ hz; have q2 := jx_ h1; obtain ⟨_, q3, q4, _⟩ := gc_.1 h1; have e1 : (a + 1).toNat = a.toNat + 1 := (by omega); have e2 : (a + 2).toNat = a.toNat + 1 + 1 := (by omega); have i1 : a.toNat < (chg (chg l a 0 [w]) a 0 [w]).length := (by omega); have i2 : a.toNat + 1 < (chg (chg l a 0 [w]) a 0 [w]).length := (by omega); refine ⟨⟨⟨⟨fun _ => ⟨rfl, ⟨by omega, by omega, by omega, by omega, fun h => absurd rfl h⟩, .inr (dn_ _)⟩, fun _ => ⟨rfl, ⟨by omega, by omega, by omega, by omega, fun h => absurd rfl h⟩, .inr (dn_ _)⟩⟩, fun _ => ⟨rfl, ⟨?_, ?_⟩, rfl⟩⟩, fun _ => ⟨rfl, fun h => by rw [h]; rfl⟩⟩, fun _ => rfl⟩; (rw [e1, zh_, m2_ i1]; exact a9_ _); (rw [e1, e2, zh_, m2_ i2]; exact a9_ _))
    refine .ret ⟨.inr rfl, ?_⟩
    exact Out.plain (by simp only [Tryz.results5]; rfl) (by simp only [ay_, a6_, go_sem, seval, ad_, ae_, hw3, hw4, hw5] <;> (split <;> rfl)) (by simp only [a5_, go_sem, seval, ad_, ae_, hw3, hw4, hw5] <;> (cases hz : bv_ (chg l a 0 [w]) a 0 [w] with | false => rfl | true => (have h1 : bv_ l a 0 [w] = true := (by simpa using h49); rw [aeb_ h1 hz, jx_ hz, jx_ h1]; simp; omega))) (by simp only [go_sem, seval, ad_, ae_, hw3, hw4, hw5])
end Go.Proofs.YtpikbndepapbhaaGreatDoor
