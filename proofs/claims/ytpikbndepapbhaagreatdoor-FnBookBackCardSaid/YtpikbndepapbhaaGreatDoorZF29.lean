/- The law FnBookBack: what it answers. Conditions: none. -/
import Derived.Test.YtpikbndepapbhaaGreatDoorK16
set_option linter.unusedVariables false
set_option linter.unusedSimpArgs false
namespace Go.Proofs.YtpikbndepapbhaaGreatDoor
set_option maxRecDepth 100000
set_option maxHeartbeats 4000000
theorem rx_ (c : Str) : ACall En 6 [.sl false (byR c)] [] [.b true] [] := by
 have DA := lu_ c
 have hB := abi_ (c.take 2000) 0
 have hn := kl_ (c.take 2000) 0
 have ha := pk_ (c.take 2000)
 have hw := ko_ (c.take 2000)
 generalize (dBk (c.take 2000) 0).1 = l at *
 generalize jv_ (c.take 2000) = a at *
 generalize mz_ (c.take 2000) = w at *
 have hw2 : ∀ s ∈ [w], s.length ≤ 2000000 := fun s h => by simp at h; subst h; omega
 have xB := jo_ (l := l) (a := a) (d := 0) (ls := [w]) hB hw2
 have xl := g0_ l a 0 [w]
 have zB := jo_ (l := l) (a := a) (d := 1) (ls := [w]) hB hw2
 have zl := g0_ l a 1 [w]
 simp only [List.length_singleton] at xl zl
 have yB := jo_ (l := chg l a 0 [w]) (a := a) (d := 1) (ls := []) xB (fun s h => by cases h)
 have yl := g0_ (chg l a 0 [w]) a 1 []
 simp only [List.length_nil] at yl
 have hq := fun (h : bv_ l a 1 [w] = true) => dl_.1 h
 have hL : ∀ k, ((l.getD k Pg0).line).length ≤ 2000000 := fun k => by
  rcases Nat.lt_or_ge k l.length with q | q
  ·exact (hB _ (bh_ q)).1
  ·rw [T8_, List.getElem?_eq_none q]; simp [Pg0]
 have hL2 : ∀ k, ∀ s ∈ [(l.getD k Pg0).line], s.length ≤ 2000000 := fun k s h => by simp at h; subst h; have := hL k; simpa using this
 have uB := jo_ (l := chg l a 1 [w]) (a := a) (d := 1) (ls := [(l.getD a.toNat Pg0).line]) zB (hL2 _)
 have ul := g0_ (chg l a 1 [w]) a 1 [(l.getD a.toNat Pg0).line]
 simp only [List.length_singleton] at ul
 refine ak_ (fn := Tryz.f6) [] Tryz.func6 rfl rfl (by simp) fun C => ?_
 rw [aw_]
 simp only [Tryz.ntmps6, T7_, List.length_nil, Nat.reduceAdd, Nat.reduceSub, List.replicate_succ, List.replicate_zero, List.cons_append, List.nil_append, bo_]
 refine .seq (.rgn [] (by simp only [go_sem, seval, ad_, ae_, ag_, ac_]; rfl) ?_ ?_)
 ·(first | trivial | (simp; done) | (have q := hq (by simpa using h71); and_intros <;> first | omega | (simp; done)))
 refine .seq (.seq (.rgn [] (by simp only [go_sem, seval, ad_, ae_, ag_, ac_]; rfl) ?_ ?_))
 ·(first | trivial | (simp; done) | (have q := hq (by simpa using h71); and_intros <;> first | omega | (simp; done)))
 refine .condB (by simp only [go_sem, seval, ad_, ae_, ag_, ac_]; rfl) (by simp only [go_sem, seval, ad_, ae_, ag_, ac_]) (fun h18 => ?_) (fun h18 => ?_)
 ·refine .seq (.rgn [] (by simp only [go_sem, seval, ad_, ae_, ag_, ac_]; rfl) ?_ ?_)
  ·(first | trivial | (simp; done) | (have q := hq (by simpa using h71); and_intros <;> first | omega | (simp; done)))
  refine .ret ⟨.inr rfl, ?_⟩
  exact Out.plain (by simp only [Tryz.results6]; rfl) (by simp only [ay_, a6_, go_sem, seval, ad_, ae_, ag_, ac_] <;> (split <;> rfl)) (by simp only [a5_, go_sem, seval, ad_, ae_, ag_, ac_] <;> (rfl)) (by simp only [go_sem, seval, ad_, ae_, ag_, ac_])
 ·refine .skip (.seq (.rgn [a3_ DA] (by simp only [go_sem, seval, ad_, ae_, ag_, ac_]; rfl) ?_ ?_))
  ·(first | trivial | (simp; done) | (have q := hq (by simpa using h71); and_intros <;> first | omega | (simp; done)))
  refine .seq (.rgn [a3_ (kx_ l a w hB (by omega) (by omega) (by omega) (by omega))] (by simp only [go_sem, seval, ad_, ae_, ag_, ac_]; rfl) ?_ ?_)
  ·(first | trivial | (simp; done) | (have q := hq (by simpa using h71); and_intros <;> first | omega | (simp; done)))
  refine .seq (.rgn [a3_ (sr_ l a w hB (by omega) (by omega) (by omega) (by omega))] (by simp only [go_sem, seval, ad_, ae_, ag_, ac_]; rfl) ?_ ?_)
  ·(first | trivial | (simp; done) | (have q := hq (by simpa using h71); and_intros <;> first | omega | (simp; done)))
  refine .seq (.seq (.rgn [a3_ (d5_ (chg l a 0 [w]) (chg l a 0 [w]) xB (by omega) (by omega))] (by simp only [go_sem, seval, ad_, ae_, ag_, ac_]; rfl) ?_ ?_))
  ·(first | trivial | (simp; done) | (have q := hq (by simpa using h71); and_intros <;> first | omega | (simp; done)))
  refine .condB (by simp only [go_sem, seval, ad_, ae_, ag_, ac_]; rfl) (by simp only [go_sem, seval, ad_, ae_, ag_, ac_]) (fun h47 => ?_) (fun h47 => ?_)
  ·simp at h47
  ·refine .skip (.seqJ (fun u : Unit => ⟨[.no, .no, .no, .sl false (pgR l), .i .i64 a, .s w, .no, .no, .no, .no, .no, .no, .no, .no, .no, .no, .no, .no, .no, .no, .no, .no, .no, .no, .no, .no, .no, .no, .no, .no, .no, .no, .no, .no, .no, .no, .no, .no, .no, .no, .no, .no, .no, .no, .no, .no, .no, .no, .no, .no, .no, .no, .no, .no, .no, .no, .no, .no, .no, .no, .no, .no, .no, .no, .no, .no, .no, .no, .no, .no, .no, .no, .no, .no, .no, .no, .no, .no, .no, .no, .no, .no, .no, .no, .no, .no, .no, .no, .no, .no, .no, .no, .no, .no, .no, .no, .no, .no, .no], be_ [], us []⟩) (fun u : Unit => True) ?_ (fun u hJ => ?_))
   ·refine .seq (.rgn [] (by simp only [go_sem, seval, ad_, ae_, ag_, ac_]; rfl) ?_ ?_)
    ·(first | trivial | (simp; done) | (have q := hq (by simpa using h71); and_intros <;> first | omega | (simp; done)))
    refine .condB (by simp only [go_sem, seval, ad_, ae_, ag_, ac_]; rfl) (by simp only [go_sem, seval, ad_, ae_, ag_, ac_]) (fun h48 => ?_) (fun h48 => ?_)
    ·refine .seq (.rgn [a3_ (rg_ (chg l a 0 [w]) a xB (by omega) (by omega) (by omega))] (by simp only [go_sem, seval, ad_, ae_, ag_, ac_]; rfl) ?_ ?_)
     ·(first | trivial | (simp; done) | (have q := hq (by simpa using h71); and_intros <;> first | omega | (simp; done)))
     refine .seq (.rgn [a3_ (d5_ (chg (chg l a 0 [w]) a 1 []) l yB (by omega) (by omega))] (by simp only [go_sem, seval, ad_, ae_, ag_, ac_]; rfl) ?_ ?_)
     ·(first | trivial | (simp; done) | (have q := hq (by simpa using h71); and_intros <;> first | omega | (simp; done)))
     refine .condB (by simp only [go_sem, seval, ad_, ae_, ag_, ac_]; rfl) (by simp only [go_sem, seval, ad_, ae_, ag_, ac_]) (fun h62 => ?_) (fun h62 => ?_)
     ·obtain ⟨q1, q2⟩ := alu_ (l := l) (a := a) (w := w) (by simpa using h48); rw [q1, q2] at h62; simp at h62
     ·refine .skip ?_
      refine Exists.intro (()) ⟨?_, ?_⟩
      ·trivial
      exact Can.weak (Weak.lit (by simp only [go_sem, seval, ad_, ae_, ag_, ac_, ar_, leV, ap_, aq_, V.inn, us, T9_, Ta_] <;> ((try simp))) (by simp only [go_sem, seval, ad_, ae_, ag_, ac_, ar_, leV, ap_, aq_, V.inn, us, T9_, Ta_]) (by simp only [go_sem, seval, ad_, ae_, ag_, ac_, ar_, leV, ap_, aq_, V.inn, us, T9_, Ta_]))
    ·refine .skip ?_
     refine Exists.intro (()) ⟨?_, ?_⟩
     ·trivial
     exact Can.weak (Weak.lit (by simp only [go_sem, seval, ad_, ae_, ag_, ac_, ar_, leV, ap_, aq_, V.inn, us, T9_, Ta_] <;> ((try simp))) (by simp only [go_sem, seval, ad_, ae_, ag_, ac_, ar_, leV, ap_, aq_, V.inn, us, T9_, Ta_]) (by simp only [go_sem, seval, ad_, ae_, ag_, ac_, ar_, leV, ap_, aq_, V.inn, us, T9_, Ta_]))
   refine .seq (.rgn [a3_ (fn_ l a w hB (by omega) (by omega) (by omega) (by omega))] (by simp only [go_sem, seval, ad_, ae_, ag_, ac_]; rfl) ?_ ?_)
   ·(first | trivial | (simp; done) | (have q := hq (by simpa using h71); and_intros <;> first | omega | (simp; done)))
   refine .seq (.seq (.rgn [] (by simp only [go_sem, seval, ad_, ae_, ag_, ac_]; rfl) ?_ ?_))
   ·(first | trivial | (simp; done) | (have q := hq (by simpa using h71); and_intros <;> first | omega | (simp; done)))
   refine .condB (by simp only [go_sem, seval, ad_, ae_, ag_, ac_]; rfl) (by simp only [go_sem, seval, ad_, ae_, ag_, ac_]) (fun h71 => ?_) (fun h71 => ?_)
   ·refine .seq (.rgn [] (by simp only [go_sem, seval, ad_, ae_, ag_, ac_]; rfl) ?_ ?_)
    ·(first | trivial | (simp; done) | (have q := hq (by simpa using h71); and_intros <;> first | omega | (simp; done)))
    refine .ret ⟨.inr rfl, ?_⟩
    exact Out.plain (by simp only [Tryz.results6]; rfl) (by simp only [ay_, a6_, go_sem, seval, ad_, ae_, ag_, ac_] <;> (split <;> rfl)) (by simp only [a5_, go_sem, seval, ad_, ae_, ag_, ac_] <;> (have e := q5_ (l := l) (a := a) (d := 1) (ls := [w]) (by simpa using h71); rw [e]; rfl)) (by simp only [go_sem, seval, ad_, ae_, ag_, ac_])
   ·refine .skip (.seq (.rgn [a3_ (fn_ (chg l a 1 [w]) a (l.getD a.toNat Pg0).line zB (by omega) (by omega) (by omega) (hL _))] (by simp only [go_sem, seval, ad_, ae_, ag_, ac_, cz_ (show a.toNat < l.length by have q := hq (by simpa using h71); omega)]; rfl) ?_ ?_))
    ·(first | trivial | (simp; done) | (have q := hq (by simpa using h71); and_intros <;> first | omega | (simp; done)))
    refine .seq (.rgn [a3_ (d5_ (chg (chg l a 1 [w]) a 1 [(l.getD a.toNat Pg0).line]) l uB (by omega) (by omega))] (by simp only [go_sem, seval, ad_, ae_, ag_, ac_]; rfl) ?_ ?_)
    ·(first | trivial | (simp; done) | (have q := hq (by simpa using h71); and_intros <;> first | omega | (simp; done)))
    refine .ret ⟨.inr rfl, ?_⟩
    exact Out.plain (by simp only [Tryz.results6]; rfl) (by simp only [ay_, a6_, go_sem, seval, ad_, ae_, ag_, ac_] <;> (split <;> rfl)) (by simp only [a5_, go_sem, seval, ad_, ae_, ag_, ac_] <;> (obtain ⟨q1, q2⟩ := ahf_ (l := l) (a := a) (w := w) (by simpa using h71); rw [q1, q2, ck_ (by simpa using h71)]; simp)) (by simp only [go_sem, seval, ad_, ae_, ag_, ac_])
end Go.Proofs.YtpikbndepapbhaaGreatDoor
