/- The law FnBookBent: what it answers. Conditions: none. -/
import Derived.Test.YtpikbndepapbhaaGreatDoorK13
import Derived.Test.YtpikbndepapbhaaGreatDoorK14
set_option linter.unusedVariables false
set_option linter.unusedSimpArgs false
namespace Go.Proofs.YtpikbndepapbhaaGreatDoor
set_option maxRecDepth 100000
set_option maxHeartbeats 4000000
def bnT (l : List Pg) : List Pg := l.set 0 { l.getD 0 Pg0 with text := (l.getD 0 Pg0).text ++ [120] }
def bnF (l : List Pg) : List Pg := l.set 0 { l.getD 0 Pg0 with frm := (l.getD 0 Pg0).frm ++ [0] }
def bnG (l : List Pg) : List Pg := l.set 0 { l.getD 0 Pg0 with good := !(l.getD 0 Pg0).good }
def bnL (l : List Pg) : List Pg := l.set 0 { l.getD 0 Pg0 with line := twoSay }
theorem set0 {l : List Pg} (h : 0 < l.length) (p : Pg) : (l.set 0 p).getD 0 Pg0 = p := by
 cases l with
 | nil => simp at h
 | cons x r => rfl
theorem pj_ {l : List Pg} (h : cf_ l = true) {p : Pg} (hp : okP p = false) : cf_ (l.set 0 p) = false := by
 have h1 := (cy_ h).1
 refine w2_ (k := 0) (by rw [List.length_set]; exact h1) ?_
 rw [set0 (by omega)]; exact hp
theorem aav_ {l : List Pg} (h : ∀ p ∈ l, pgB p) {p : Pg} (hp : pgB p) : ∀ q ∈ l.set 0 p, pgB q := fun q hq => by
 rcases List.mem_or_eq_of_mem_set hq with h1 | h1
 ·exact h q h1
 ·rw [h1]; exact hp
theorem anv_ {l : List Pg} (h : cf_ l = true) : cf_ (bnT l) = false ∧ cf_ (bnF l) = false ∧ cf_ (bnG l) = false ∧ cf_ (bnL l) = false := by
 have ho := (cy_ h).2.2 0 (cy_ h).1
 refine ⟨pj_ h (yx_ ho rfl fun e => ?_), pj_ h (yx_ ho rfl fun e => ?_), pj_ h (yx_ ho rfl fun e => ?_), pj_ h (al0_ ?_)⟩
 ·have := congrArg (fun p => p.text.length) e; simp at this
 ·have := congrArg (fun p => p.frm.length) e; simp at this
 ·have := congrArg (fun p => p.good) e; simp at this
 ·show d4_ twoSay = false
  decide
theorem u1_ (l : List Pg) : ∀ r ∈ pgR l, r.length = 4 := fun r hr => by obtain ⟨p, _, rfl⟩ := List.mem_map.1 hr; rfl
theorem b0_ {l : List Pg} {f : List Int} {a t : Str} {g : Bool} : gs_ 75 1 (inR f ++ [[.i .i64 0]]) ((pgR l).set 0 [.s a, .b g, .s t, .ow 75 1 0 (f.length + 1)]) = pgR (l.set 0 ⟨a, g, t, f ++ [0]⟩) := by
 have e : inR f ++ [[.i .i64 0]] = inR (f ++ [0]) := by simp [inR]
 rw [e]
 cases l with
 | nil => rfl
 | cons p l =>
  show fj_ 75 1 (inR (f ++ [0])) _ :: gs_ 75 1 (inR (f ++ [0])) (pgR l) = _
  rw [hi_ _ (ad_ l)]
  simp [fj_, frz, pgR, pgC, aj_, T1_]
theorem rv_ (c : Str) : ACall En 11 [.sl false (byR c)] [] [.b true] [] := by
 have DA := t0_ c
 have hB := abi_ (c.take 2000) 0
 have hn := kl_ (c.take 2000) 0
 generalize (dBk (c.take 2000) 0).1 = l at *
 have s1 := ads_ l
 have hS : cf_ l = false → i6_ l = [] := fun h => by unfold i6_; rw [h]; rfl
 have hT : cf_ l = false → zy_ l = [] := fun h => by unfold zy_; rw [h]; rfl
 have h0 : cf_ l = true → 0 < l.length := fun h => (cy_ h).1
 have hn0 := @anv_ l
 have g0 : cf_ l = true → pgB (l.getD 0 Pg0) ∧ (l.getD 0 Pg0).text.length ≤ 120 ∧ (l.getD 0 Pg0).frm.length ≤ 1000 := fun h => by
  obtain ⟨q1, q2, _⟩ := pc_ ((cy_ h).2.2 0 (h0 h))
  exact ⟨hB _ (bh_ (h0 h)), by rw [q1]; exact (pw_ _).2, by rw [q2]; exact zz_ _⟩
 have bT : cf_ l = true → ∀ p ∈ bnT l, pgB p := fun h => aav_ hB ⟨(g0 h).1.1, by have := (g0 h).2.1; dsimp only; rw [T2_, List.length_singleton]; omega, (g0 h).1.2.2⟩
 have bF : cf_ l = true → ∀ p ∈ bnF l, pgB p := fun h => aav_ hB ⟨(g0 h).1.1, (g0 h).1.2.1, by have := (g0 h).2.2; dsimp only; rw [T2_, List.length_singleton]; omega⟩
 have bG : cf_ l = true → ∀ p ∈ bnG l, pgB p := fun h => aav_ hB ⟨(g0 h).1.1, (g0 h).1.2.1, (g0 h).1.2.2⟩
 have bL : cf_ l = true → ∀ p ∈ bnL l, pgB p := fun h => aav_ hB ⟨show twoSay.length ≤ 2000000 by decide, (g0 h).1.2.1, (g0 h).1.2.2⟩
 have n1 : (bnT l).length = l.length := by simp [bnT]
 have n2 : (bnF l).length = l.length := by simp [bnF]
 have n3 : (bnG l).length = l.length := by simp [bnG]
 have n4 : (bnL l).length = l.length := by simp [bnL]
 refine ak_ (fn := Tryz.f11) [] Tryz.func11 rfl rfl (by simp) fun C => ?_
 rw [aw_]
 simp only [Tryz.ntmps11, T7_, List.length_nil, Nat.reduceAdd, Nat.reduceSub, List.replicate_succ, List.replicate_zero, List.cons_append, List.nil_append, bo_]
 refine .seq (.rgn [] (by simp only [go_sem, seval, ad_, ae_, ag_, ac_, aj_, a0_, a7_, ax_, List.nil_append, b0_]; rfl) ?_ ?_)
 ·(first | trivial | (simp; done) | (have k0 : cf_ l = true := (by first | exact hJ | simpa using h22); have q := h0 k0; have q2 := g0 k0; and_intros <;> first | omega | (simp; done) | (intro r hr; obtain ⟨x, _, rfl⟩ := List.mem_map.1 hr; rfl)))
 refine .seq (.seq (.rgn [] (by simp only [go_sem, seval, ad_, ae_, ag_, ac_, aj_, a0_, a7_, ax_, List.nil_append, b0_]; rfl) ?_ ?_))
 ·(first | trivial | (simp; done) | (have k0 : cf_ l = true := (by first | exact hJ | simpa using h22); have q := h0 k0; have q2 := g0 k0; and_intros <;> first | omega | (simp; done) | (intro r hr; obtain ⟨x, _, rfl⟩ := List.mem_map.1 hr; rfl)))
 refine .condB (by simp only [go_sem, seval, ad_, ae_, ag_, ac_, aj_, a0_, a7_, ax_, List.nil_append, b0_]; rfl) (by simp only [go_sem, seval, ad_, ae_, ag_, ac_, aj_, a0_, a7_, ax_, List.nil_append, b0_]) (fun h10 => ?_) (fun h10 => ?_)
 ·refine .seq (.rgn [] (by simp only [go_sem, seval, ad_, ae_, ag_, ac_, aj_, a0_, a7_, ax_, List.nil_append, b0_]; rfl) ?_ ?_)
  ·(first | trivial | (simp; done) | (have k0 : cf_ l = true := (by first | exact hJ | simpa using h22); have q := h0 k0; have q2 := g0 k0; and_intros <;> first | omega | (simp; done) | (intro r hr; obtain ⟨x, _, rfl⟩ := List.mem_map.1 hr; rfl)))
  refine .ret ⟨.inr rfl, ?_⟩
  exact Out.plain (by simp only [Tryz.results11]; rfl) (by simp only [ay_, a6_, go_sem, seval, ad_, ae_, ag_, ac_, aj_, a0_, a7_, ax_, List.nil_append, b0_] <;> (split <;> rfl)) (by simp only [a5_, go_sem, seval, ad_, ae_, ag_, ac_, aj_, a0_, a7_, ax_, List.nil_append, b0_] <;> (rfl)) (by simp only [go_sem, seval, ad_, ae_, ag_, ac_, aj_, a0_, a7_, ax_, List.nil_append, b0_])
 ·refine .skip (.seq (.rgn [a3_ DA] (by simp only [go_sem, seval, ad_, ae_, ag_, ac_, aj_, a0_, a7_, ax_, List.nil_append, b0_]; rfl) ?_ ?_))
  ·(first | trivial | (simp; done) | (have k0 : cf_ l = true := (by first | exact hJ | simpa using h22); have q := h0 k0; have q2 := g0 k0; and_intros <;> first | omega | (simp; done) | (intro r hr; obtain ⟨x, _, rfl⟩ := List.mem_map.1 hr; rfl)))
  refine .seq (.seq (.rgn [a3_ (en_ l hB (by omega)), a3_ (hn_ l hB (by omega)), a3_ (hn_ l hB (by omega))] (by simp only [go_sem, seval, ad_, ae_, ag_, ac_, aj_, a0_, a7_, ax_, List.nil_append, b0_]; rfl) ?_ ?_))
  ·(first | trivial | (simp; done) | (have k0 : cf_ l = true := (by first | exact hJ | simpa using h22); have q := h0 k0; have q2 := g0 k0; and_intros <;> first | omega | (simp; done) | (intro r hr; obtain ⟨x, _, rfl⟩ := List.mem_map.1 hr; rfl)))
  refine .condB (by simp only [go_sem, seval, ad_, ae_, ag_, ac_, aj_, a0_, a7_, ax_, List.nil_append, b0_]; rfl) (by simp only [go_sem, seval, ad_, ae_, ag_, ac_, aj_, a0_, a7_, ax_, List.nil_append, b0_]) (fun h22 => ?_) (fun h22 => ?_)
  ·refine .seq (.rgn [a3_ (en_ l hB (by omega)), a3_ (hn_ l hB (by omega)), a3_ (hn_ l hB (by omega)), a3_ (wv_ l hB (by omega)), a3_ (wc_ l hB (by omega))] (by simp only [go_sem, seval, ad_, ae_, ag_, ac_, aj_, a0_, a7_, ax_, List.nil_append, b0_]; rfl) ?_ ?_)
   ·exact ⟨fun h => ⟨h, fun h2 => by rw [h, h2]; rfl⟩, fun h => by rw [h]; rfl⟩
   refine .ret ⟨.inr rfl, ?_⟩
   exact Out.plain (by simp only [Tryz.results11]; rfl) (by simp only [ay_, a6_, go_sem, seval, ad_, ae_, ag_, ac_, aj_, a0_, a7_, ax_, List.nil_append, b0_] <;> (split <;> rfl)) (by simp only [a5_, go_sem, seval, ad_, ae_, ag_, ac_, aj_, a0_, a7_, ax_, List.nil_append, b0_] <;> (have h : cf_ l = false := (by simpa using h22); simp [h, hS h, hT h])) (by simp only [go_sem, seval, ad_, ae_, ag_, ac_, aj_, a0_, a7_, ax_, List.nil_append, b0_])
  ·refine .skip (.seq (.rgn [] (by simp only [go_sem, seval, ad_, ae_, ag_, ac_, aj_, a0_, a7_, ax_, List.nil_append, b0_]; rfl) ?_ ?_))
   ·exact ⟨u1_ l, (fun r hr => by cases hr), by omega⟩
   refine .seqJ (fun u : Unit => ⟨[.no, .no, .no, .sl false (pgR l), .sl false (pgR (bnT l)), .no, .no, .no, .no, .no, .no, .no, .no, .no, .no, .no, .no, .no, .no, .no, .no, .no, .no, .no, .no, .no, .no, .no, .no, .no, .no, .no, .no, .no, .no, .no, .no, .no, .no, .no, .no, .no, .no, .no, .no, .no, .no, .no, .no, .no, .no, .no, .no, .no, .no, .no, .no, .no, .no, .no, .no, .no, .no, .no, .no, .no, .no, .no, .no, .no, .no, .no, .no, .no, .no, .no, .no, .no, .no, .no, .no, .no, .no, .no, .no, .no, .no, .no, .no, .no, .no, .no, .no, .no, .no, .no, .no, .no, .no, .no, .no, .no, .no, .no, .no, .no, .no], be_ [], us []⟩) (fun u : Unit => cf_ l = true) ?_ (fun u hJ => ?_)
   ·refine .rgn [] (by simp only [go_sem, seval, ad_, ae_, ag_, ac_, aj_, a0_, a7_, ax_, List.nil_append, b0_, cz_ (show 0 < l.length by exact h0 (by simpa using h22))]; rfl) ?_ ?_
    ·(first | trivial | (simp; done) | (have k0 : cf_ l = true := (by first | exact hJ | simpa using h22); have q := h0 k0; have q2 := g0 k0; and_intros <;> first | omega | (simp; done) | (intro r hr; obtain ⟨x, _, rfl⟩ := List.mem_map.1 hr; rfl)))
    refine Exists.intro (()) ⟨?_, ?_⟩
    ·simpa using h22
    refine Can.trans (Can.frz 55 (by simp only [go_sem, seval, ad_, ae_, ag_, ac_, aj_, a0_, a7_, ax_, List.nil_append, b0_] <;> rfl) (by simp only [go_sem, seval, ad_, ae_, ag_, ac_, aj_, a0_, a7_, ax_, List.nil_append, b0_]) (by simp only [go_sem, seval, ad_, ae_, ag_, ac_, aj_, a0_, a7_, ax_, List.nil_append, b0_] <;> rfl) (by simp only [go_sem, seval, ad_, ae_, ag_, ac_, aj_, a0_, a7_, ax_, List.nil_append, b0_] <;> rfl)) ?_
    exact Can.weak (Weak.lit (by simp only [go_sem, seval, ad_, ae_, ag_, ac_, aj_, a0_, a7_, ax_, List.nil_append, b0_, ar_, leV, ap_, aq_, V.inn, us, T9_, Ta_] <;> (exact bkJ (by simp) rfl)) (by simp only [go_sem, seval, ad_, ae_, ag_, ac_, aj_, a0_, a7_, ax_, List.nil_append, b0_, ar_, leV, ap_, aq_, V.inn, us, T9_, Ta_]) (by simp only [go_sem, seval, ad_, ae_, ag_, ac_, aj_, a0_, a7_, ax_, List.nil_append, b0_, ar_, leV, ap_, aq_, V.inn, us, T9_, Ta_]))
   refine .seq (.rgn [] (by simp only [go_sem, seval, ad_, ae_, ag_, ac_, aj_, a0_, a7_, ax_, List.nil_append, b0_]; rfl) ?_ ?_)
   ·exact ⟨u1_ l, (fun r hr => by cases hr), by omega⟩
   refine .seqJ (fun u : Unit => ⟨[.no, .no, .no, .sl false (pgR l), .sl false (pgR (bnT l)), .sl false (pgR (bnF l)), .no, .no, .no, .no, .no, .no, .no, .no, .no, .no, .no, .no, .no, .no, .no, .no, .no, .no, .no, .no, .no, .no, .no, .no, .no, .no, .no, .no, .no, .no, .no, .no, .no, .no, .no, .no, .no, .no, .no, .no, .no, .no, .no, .no, .no, .no, .no, .no, .no, .no, .no, .no, .no, .no, .no, .no, .no, .no, .no, .no, .no, .no, .no, .no, .no, .no, .no, .no, .no, .no, .no, .no, .no, .no, .no, .no, .no, .no, .no, .no, .no, .no, .no, .no, .no, .no, .no, .no, .no, .no, .no, .no, .no, .no, .no, .no, .no, .no, .no, .no, .no], be_ [], us []⟩) (fun u : Unit => cf_ l = true) ?_ (fun u hJ => ?_)
   ·refine .rgn [] (by simp only [go_sem, seval, ad_, ae_, ag_, ac_, aj_, a0_, a7_, ax_, List.nil_append, b0_, cz_ (show 0 < l.length by exact h0 hJ)]; rfl) ?_ ?_
    ·(first | trivial | (simp; done) | (have k0 : cf_ l = true := (by first | exact hJ | simpa using h22); have q := h0 k0; have q2 := g0 k0; and_intros <;> first | omega | (simp; done) | (intro r hr; obtain ⟨x, _, rfl⟩ := List.mem_map.1 hr; rfl)))
    refine Exists.intro (()) ⟨?_, ?_⟩
    ·exact hJ
    refine Can.trans (Can.frz 75 (by simp only [go_sem, seval, ad_, ae_, ag_, ac_, aj_, a0_, a7_, ax_, List.nil_append, b0_] <;> rfl) (by simp only [go_sem, seval, ad_, ae_, ag_, ac_, aj_, a0_, a7_, ax_, List.nil_append, b0_]) (by simp only [go_sem, seval, ad_, ae_, ag_, ac_, aj_, a0_, a7_, ax_, List.nil_append, b0_] <;> rfl) (by simp only [go_sem, seval, ad_, ae_, ag_, ac_, aj_, a0_, a7_, ax_, List.nil_append, b0_] <;> rfl)) ?_
    refine Can.trans (Can.frz 66 (by simp only [go_sem, seval, ad_, ae_, ag_, ac_, aj_, a0_, a7_, ax_, List.nil_append, b0_] <;> rfl) (by simp only [go_sem, seval, ad_, ae_, ag_, ac_, aj_, a0_, a7_, ax_, List.nil_append, b0_]) (by simp only [go_sem, seval, ad_, ae_, ag_, ac_, aj_, a0_, a7_, ax_, List.nil_append, b0_] <;> rfl) (by simp only [go_sem, seval, ad_, ae_, ag_, ac_, aj_, a0_, a7_, ax_, List.nil_append, b0_] <;> rfl)) ?_
    exact Can.weak (Weak.lit (by simp only [go_sem, seval, ad_, ae_, ag_, ac_, aj_, a0_, a7_, ax_, List.nil_append, b0_, ar_, leV, ap_, aq_, V.inn, us, T9_, Ta_] <;> (exact bkJ (by simp) rfl)) (by simp only [go_sem, seval, ad_, ae_, ag_, ac_, aj_, a0_, a7_, ax_, List.nil_append, b0_, ar_, leV, ap_, aq_, V.inn, us, T9_, Ta_]) (by simp only [go_sem, seval, ad_, ae_, ag_, ac_, aj_, a0_, a7_, ax_, List.nil_append, b0_, ar_, leV, ap_, aq_, V.inn, us, T9_, Ta_]))
   refine .seq (.rgn [] (by simp only [go_sem, seval, ad_, ae_, ag_, ac_, aj_, a0_, a7_, ax_, List.nil_append, b0_]; rfl) ?_ ?_)
   ·exact ⟨u1_ l, (fun r hr => by cases hr), by omega⟩
   refine .seqJ (fun u : Unit => ⟨[.no, .no, .no, .sl false (pgR l), .sl false (pgR (bnT l)), .sl false (pgR (bnF l)), .sl false (pgR (bnG l)), .no, .no, .no, .no, .no, .no, .no, .no, .no, .no, .no, .no, .no, .no, .no, .no, .no, .no, .no, .no, .no, .no, .no, .no, .no, .no, .no, .no, .no, .no, .no, .no, .no, .no, .no, .no, .no, .no, .no, .no, .no, .no, .no, .no, .no, .no, .no, .no, .no, .no, .no, .no, .no, .no, .no, .no, .no, .no, .no, .no, .no, .no, .no, .no, .no, .no, .no, .no, .no, .no, .no, .no, .no, .no, .no, .no, .no, .no, .no, .no, .no, .no, .no, .no, .no, .no, .no, .no, .no, .no, .no, .no, .no, .no, .no, .no, .no, .no, .no, .no], be_ [], us []⟩) (fun u : Unit => cf_ l = true) ?_ (fun u hJ => ?_)
   ·refine .rgn [] (by simp only [go_sem, seval, ad_, ae_, ag_, ac_, aj_, a0_, a7_, ax_, List.nil_append, b0_, cz_ (show 0 < l.length by exact h0 hJ)]; rfl) ?_ ?_
    ·(first | trivial | (simp; done) | (have k0 : cf_ l = true := (by first | exact hJ | simpa using h22); have q := h0 k0; have q2 := g0 k0; and_intros <;> first | omega | (simp; done) | (intro r hr; obtain ⟨x, _, rfl⟩ := List.mem_map.1 hr; rfl)))
    refine Exists.intro (()) ⟨?_, ?_⟩
    ·exact hJ
    refine Can.trans (Can.frz 80 (by simp only [go_sem, seval, ad_, ae_, ag_, ac_, aj_, a0_, a7_, ax_, List.nil_append, b0_] <;> rfl) (by simp only [go_sem, seval, ad_, ae_, ag_, ac_, aj_, a0_, a7_, ax_, List.nil_append, b0_]) (by simp only [go_sem, seval, ad_, ae_, ag_, ac_, aj_, a0_, a7_, ax_, List.nil_append, b0_] <;> rfl) (by simp only [go_sem, seval, ad_, ae_, ag_, ac_, aj_, a0_, a7_, ax_, List.nil_append, b0_] <;> rfl)) ?_
    exact Can.weak (Weak.lit (by simp only [go_sem, seval, ad_, ae_, ag_, ac_, aj_, a0_, a7_, ax_, List.nil_append, b0_, ar_, leV, ap_, aq_, V.inn, us, T9_, Ta_] <;> (exact bkJ (by simp) rfl)) (by simp only [go_sem, seval, ad_, ae_, ag_, ac_, aj_, a0_, a7_, ax_, List.nil_append, b0_, ar_, leV, ap_, aq_, V.inn, us, T9_, Ta_]) (by simp only [go_sem, seval, ad_, ae_, ag_, ac_, aj_, a0_, a7_, ax_, List.nil_append, b0_, ar_, leV, ap_, aq_, V.inn, us, T9_, Ta_]))
   refine .seq (.rgn [] (by simp only [go_sem, seval, ad_, ae_, ag_, ac_, aj_, a0_, a7_, ax_, List.nil_append, b0_]; rfl) ?_ ?_)
   ·exact ⟨u1_ l, (fun r hr => by cases hr), by omega⟩
   refine .seqJ (fun u : Unit => ⟨[.no, .no, .no, .no, .sl false (pgR (bnT l)), .sl false (pgR (bnF l)), .sl false (pgR (bnG l)), .sl false (pgR (bnL l)), .no, .no, .no, .no, .no, .no, .no, .no, .no, .no, .no, .no, .no, .no, .no, .no, .no, .no, .no, .no, .no, .no, .no, .no, .no, .no, .no, .no, .no, .no, .no, .no, .no, .no, .no, .no, .no, .no, .no, .no, .no, .no, .no, .no, .no, .no, .no, .no, .no, .no, .no, .no, .no, .no, .no, .no, .no, .no, .no, .no, .no, .no, .no, .no, .no, .no, .no, .no, .no, .no, .no, .no, .no, .no, .no, .no, .no, .no, .no, .no, .no, .no, .no, .no, .no, .no, .no, .no, .no, .no, .no, .no, .no, .no, .no, .no, .no, .no, .no], be_ [], us []⟩) (fun u : Unit => cf_ l = true) ?_ (fun u hJ => ?_)
   ·refine .rgn [] (by simp only [go_sem, seval, ad_, ae_, ag_, ac_, aj_, a0_, a7_, ax_, List.nil_append, b0_, cz_ (show 0 < l.length by exact h0 hJ)]; rfl) ?_ ?_
    ·(first | trivial | (simp; done) | (have k0 : cf_ l = true := (by first | exact hJ | simpa using h22); have q := h0 k0; have q2 := g0 k0; and_intros <;> first | omega | (simp; done) | (intro r hr; obtain ⟨x, _, rfl⟩ := List.mem_map.1 hr; rfl)))
    refine Exists.intro (()) ⟨?_, ?_⟩
    ·exact hJ
    refine Can.trans (Can.frz 91 (by simp only [go_sem, seval, ad_, ae_, ag_, ac_, aj_, a0_, a7_, ax_, List.nil_append, b0_] <;> rfl) (by simp only [go_sem, seval, ad_, ae_, ag_, ac_, aj_, a0_, a7_, ax_, List.nil_append, b0_]) (by simp only [go_sem, seval, ad_, ae_, ag_, ac_, aj_, a0_, a7_, ax_, List.nil_append, b0_] <;> rfl) (by simp only [go_sem, seval, ad_, ae_, ag_, ac_, aj_, a0_, a7_, ax_, List.nil_append, b0_] <;> rfl)) ?_
    exact Can.weak (Weak.lit (by simp only [go_sem, seval, ad_, ae_, ag_, ac_, aj_, a0_, a7_, ax_, List.nil_append, b0_, ar_, leV, ap_, aq_, V.inn, us, T9_, Ta_] <;> (exact bkJ (by simp) rfl)) (by simp only [go_sem, seval, ad_, ae_, ag_, ac_, aj_, a0_, a7_, ax_, List.nil_append, b0_, ar_, leV, ap_, aq_, V.inn, us, T9_, Ta_]) (by simp only [go_sem, seval, ad_, ae_, ag_, ac_, aj_, a0_, a7_, ax_, List.nil_append, b0_, ar_, leV, ap_, aq_, V.inn, us, T9_, Ta_]))
   refine .seq (.rgn [b9_ (cf_ l = true) (fun h => en_ (bnT l) (bT h) (by omega)), b9_ (cf_ l = true) (fun h => en_ (bnF l) (bF h) (by omega)), b9_ (cf_ l = true) (fun h => en_ (bnG l) (bG h) (by omega)), b9_ (cf_ l = true) (fun h => en_ (bnL l) (bL h) (by omega)), a3_ (en_ [] (fun p hp => by cases hp) (by simp))] (by simp only [go_sem, seval, ad_, ae_, ag_, ac_, aj_, a0_, a7_, ax_, List.nil_append, b0_]; rfl) ?_ ?_)
   ·exact ⟨⟨⟨⟨hJ, fun h => ⟨h, hJ⟩⟩, fun h => ⟨h, hJ⟩⟩, fun h => ⟨h, hJ⟩⟩, fun _ => a9_ _⟩
   refine .ret ⟨.inr rfl, ?_⟩
   exact Out.plain (by simp only [Tryz.results11]; rfl) (by simp only [ay_, a6_, go_sem, seval, ad_, ae_, ag_, ac_, aj_, a0_, a7_, ax_, List.nil_append, b0_] <;> (split <;> rfl)) (by simp only [a5_, go_sem, seval, ad_, ae_, ag_, ac_, aj_, a0_, a7_, ax_, List.nil_append, b0_] <;> (obtain ⟨q1, q2, q3, q4⟩ := hn0 hJ; rw [q1, q2, q3, q4]; rfl)) (by simp only [go_sem, seval, ad_, ae_, ag_, ac_, aj_, a0_, a7_, ax_, List.nil_append, b0_])
end Go.Proofs.YtpikbndepapbhaaGreatDoor
