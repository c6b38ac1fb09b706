/- The law FnBook: what it answers. Conditions: none. -/
import Derived.Test.YtpikbndepapbhaaGreatDoorK16
import Derived.Test.YtpikbndepapbhaaGreatDoorK15
set_option linter.unusedVariables false
set_option linter.unusedSimpArgs false
namespace Go.Proofs.YtpikbndepapbhaaGreatDoor
set_option maxRecDepth 100000
set_option maxHeartbeats 8000000
theorem wy_ {l : List Str} (h : ∀ w ∈ l, w.length ≤ 4000) (hn : l.length ≤ 20) : (cf_ l).length ≤ 100000 := by
 have h1 := r6_ (l := l) (k := 4000) h
 have := Nat.mul_le_mul_right 4001 hn
 omega
theorem bj_ (l : List Str) (k : Nat) (s : Str) : (bm_ l).set k [.s s] = bm_ (l.set k s) := by simp [bm_, List.map_set]
theorem bs_ (l : List Str) (n : Nat) : ((bm_ l).getD n []).drop 1 = [] := by
 rcases Nat.lt_or_ge n l.length with h | h
 ·rw [cj_ h]; rfl
 ·rw [T8_, List.getElem?_eq_none (by rw [ab_]; exact h)]; rfl
theorem bi_ (l : List Str) (s : Str) : bm_ l ++ [[.s s]] = bm_ (l ++ [s]) := by simp [bm_]
theorem bg_ (a b : List Str) : bm_ a ++ bm_ b = bm_ (a ++ b) := by simp [bm_]
theorem bk_ (l : List Str) (n : Nat) : (bm_ l).take n = bm_ (l.take n) := by simp [bm_, List.map_take]
theorem bh_ (l : List Str) (n : Nat) : (bm_ l).drop n = bm_ (l.drop n) := by simp [bm_, List.map_drop]
theorem lu_ (l : List Str) : ∀ r ∈ bm_ l, r.length = 1 := fun r hr => by obtain ⟨p, _, rfl⟩ := List.mem_map.1 hr; rfl
theorem strJ {n : Nat} {x v : List Str} (hn : n = x.length) (h : x = v) : leV (if n ≤ x.length then V.sl false (bm_ (x.take n)) else V.no) (V.sl false (bm_ v)) := by
 subst hn h
 rw [if_pos (Nat.le_refl _), List.take_length]
 exact ⟨fun h => h, a8_ _⟩
theorem aah_ (c : Str) : ACall En 10 [.sl false (byR c)] [] [.b true] [] := by
 have DA := qp_ c
 have hB := amj_ (c.take 2000) 0
 have hn := to_ (c.take 2000) 0
 have ha := y6_ (c.take 2000)
 have hw := aao_ (c.take 2000)
 generalize (dBk (c.take 2000) 0).1 = l at *
 generalize p6_ (c.take 2000) = a at *
 generalize up_ (c.take 2000) = w at *
 have hw2 : ∀ s ∈ [w], s.length ≤ 2000000 := fun s h => by simp at h; subst h; omega
 have xB := af6_ (l := l) (a := a) (d := 1) (ls := [w]) hB hw2
 have xl := xd_ l a 1 [w]
 have yB := af6_ (l := l) (a := a) (d := 0) (ls := [w]) hB hw2
 have yl := xd_ l a 0 [w]
 have zB := af6_ (l := l) (a := a) (d := 1) (ls := []) hB (fun s h => by cases h)
 have zl := xd_ l a 1 []
 simp only [List.length_singleton, List.length_nil] at xl yl zl
 have hx := abi_ l
 have hT := lx_ (iu_ l) (by omega)
 have f1 := @sh_ l
 have M4 : d0_ l = true → ∀ s ∈ l.map (·.line), s.length ≤ 4000 := fun h s hs => by
  rw [← f1 h] at hs; exact it_ _ s hs
 have L1 : d0_ l = true → (cf_ ((l.map (·.line)).set a.toNat w)).length ≤ 100000 := fun h => wy_ (fun s hs => by
  rcases List.mem_or_eq_of_mem_set hs with q | q
  ·exact M4 h s q
  ·rw [q]; omega) (by simp; omega)
 have L2 : d0_ l = true → (cf_ (((l.map (·.line)).take a.toNat ++ [w]) ++ (l.map (·.line)).drop a.toNat)).length ≤ 100000 := fun h => wy_ (fun s hs => by
  simp only [List.mem_append, List.mem_singleton] at hs
  rcases hs with (q | q) | q
  ·exact M4 h s (List.mem_of_mem_take q)
  ·rw [q]; omega
  ·exact M4 h s (List.mem_of_mem_drop q)) (by simp; omega)
 have L3 : d0_ l = true → (cf_ ((l.map (·.line)).take a.toNat ++ (l.map (·.line)).drop (a.toNat + 1))).length ≤ 100000 := fun h => wy_ (fun s hs => by
  simp only [List.mem_append] at hs
  rcases hs with q | q
  ·exact M4 h s (List.mem_of_mem_take q)
  ·exact M4 h s (List.mem_of_mem_drop q)) (by simp; omega)
 have hls : d0_ l = true → (dk_ (iu_ l)).length = l.length := fun h => by rw [f1 h, List.length_map]
 have hw3 : IntKind.i64.wrap (a + 1) = a + 1 := by rw [bd_ (by omega) (by omega)]
 have hlen : ∀ ls : List Str, ls.length ≤ 20 → ls.length ≤ 1000000000000 := fun _ h => by omega
 refine al_ (fn := Tryz.f10) [] Tryz.func10 rfl rfl (by simp) fun C => ?_
 rw [av_]
 simp only [Tryz.ntmps10, T7_, List.length_nil, Nat.reduceAdd, Nat.reduceSub, List.replicate_succ, List.replicate_zero, List.cons_append, List.nil_append, bt_]
 refine .seq (.rgn [] (by simp only [go_sem, seval, ad_, af_, aa_, ab_, hw3, bj_, bs_, bi_, bg_, bk_, bh_, List.take_length]; rfl) ?_ ?_)
 ·first | trivial | simp
 refine .seq (.seq (.rgn [] (by simp only [go_sem, seval, ad_, af_, aa_, ab_, hw3, bj_, bs_, bi_, bg_, bk_, bh_, List.take_length]; rfl) ?_ ?_))
 ·first | trivial | simp
 refine .condB (by simp only [go_sem, seval, ad_, af_, aa_, ab_, hw3, bj_, bs_, bi_, bg_, bk_, bh_, List.take_length]; rfl) (by simp only [go_sem, seval, ad_, af_, aa_, ab_, hw3, bj_, bs_, bi_, bg_, bk_, bh_, List.take_length]) (fun h24 => ?_) (fun h24 => ?_)
 ·refine .seq (.rgn [] (by simp only [go_sem, seval, ad_, af_, aa_, ab_, hw3, bj_, bs_, bi_, bg_, bk_, bh_, List.take_length]; rfl) ?_ ?_)
  ·first | trivial | simp
  refine .ret ⟨.inr rfl, ?_⟩
  exact Out.plain (by simp only [Tryz.results10]; rfl) (by simp only [ax_, a6_, go_sem, seval, ad_, af_, aa_, ab_, hw3, bj_, bs_, bi_, bg_, bk_, bh_, List.take_length] <;> (split <;> rfl)) (by simp only [a4_, go_sem, seval, ad_, af_, aa_, ab_, hw3, bj_, bs_, bi_, bg_, bk_, bh_, List.take_length] <;> (rfl)) (by simp only [go_sem, seval, ad_, af_, aa_, ab_, hw3, bj_, bs_, bi_, bg_, bk_, bh_, List.take_length])
 ·refine .skip (.seq (.rgn [a3_ DA] (by simp only [go_sem, seval, ad_, af_, aa_, ab_, hw3, bj_, bs_, bi_, bg_, bk_, bh_, List.take_length]; rfl) ?_ ?_))
  ·first | trivial | simp
  refine .seq (.rgn [a3_ (x4_ l a w hB (by omega) (by omega) (by omega) (by omega))] (by simp only [go_sem, seval, ad_, af_, aa_, ab_, hw3, bj_, bs_, bi_, bg_, bk_, bh_, List.take_length]; rfl) ?_ ?_)
  ·first | trivial | simp
  refine .seq (.rgn [a3_ (z9_ l a w hB (by omega) (by omega) (by omega) (by omega))] (by simp only [go_sem, seval, ad_, af_, aa_, ab_, hw3, bj_, bs_, bi_, bg_, bk_, bh_, List.take_length]; rfl) ?_ ?_)
  ·first | trivial | simp
  refine .seq (.rgn [a3_ (xc_ l a hB (by omega) (by omega) (by omega))] (by simp only [go_sem, seval, ad_, af_, aa_, ab_, hw3, bj_, bs_, bi_, bg_, bk_, bh_, List.take_length]; rfl) ?_ ?_)
  ·first | trivial | simp
  refine .seq (.rgn [a3_ (wz_ l a w hB (by omega) (by omega) (by omega) (by omega))] (by simp only [go_sem, seval, ad_, af_, aa_, ab_, hw3, bj_, bs_, bi_, bg_, bk_, bh_, List.take_length]; rfl) ?_ ?_)
  ·first | trivial | simp
  refine .seq (.rgn [a3_ (aaz_ l a w hB (by omega) (by omega) (by omega) (by omega))] (by simp only [go_sem, seval, ad_, af_, aa_, ab_, hw3, bj_, bs_, bi_, bg_, bk_, bh_, List.take_length]; rfl) ?_ ?_)
  ·first | trivial | simp
  refine .seq (.rgn [a3_ (wn_ l a hB (by omega) (by omega) (by omega))] (by simp only [go_sem, seval, ad_, af_, aa_, ab_, hw3, bj_, bs_, bi_, bg_, bk_, bh_, List.take_length]; rfl) ?_ ?_)
  ·first | trivial | simp
  refine .seq (.seq (.rgn [a3_ (mb_ l hB (by omega)), a3_ (ia_ l hB (by omega))] (by simp only [go_sem, seval, ad_, af_, aa_, ab_, hw3, bj_, bs_, bi_, bg_, bk_, bh_, List.take_length]; rfl) ?_ ?_))
  ·first | trivial | simp
  refine .condB (by simp only [go_sem, seval, ad_, af_, aa_, ab_, hw3, bj_, bs_, bi_, bg_, bk_, bh_, List.take_length]; rfl) (by simp only [go_sem, seval, ad_, af_, aa_, ab_, hw3, bj_, bs_, bi_, bg_, bk_, bh_, List.take_length]) (fun h111 => ?_) (fun h111 => ?_)
  ·simp at h111
  ·refine .skip (.seq (.seq (.rgn [a3_ (ia_ l hB (by omega))] (by simp only [go_sem, seval, ad_, af_, aa_, ab_, hw3, bj_, bs_, bi_, bg_, bk_, bh_, List.take_length]; rfl) ?_ ?_)))
   ·first | trivial | simp
   refine .condB (by simp only [go_sem, seval, ad_, af_, aa_, ab_, hw3, bj_, bs_, bi_, bg_, bk_, bh_, List.take_length]; rfl) (by simp only [go_sem, seval, ad_, af_, aa_, ab_, hw3, bj_, bs_, bi_, bg_, bk_, bh_, List.take_length]) (fun h114 => ?_) (fun h114 => ?_)
   ·refine .seq (.rgn [] (by simp only [go_sem, seval, ad_, af_, aa_, ab_, hw3, bj_, bs_, bi_, bg_, bk_, bh_, List.take_length]; rfl) ?_ ?_)
    ·first | trivial | simp
    refine .ret ⟨.inr rfl, ?_⟩
    exact Out.plain (by simp only [Tryz.results10]; rfl) (by simp only [ax_, a6_, go_sem, seval, ad_, af_, aa_, ab_, hw3, bj_, bs_, bi_, bg_, bk_, bh_, List.take_length] <;> (split <;> rfl)) (by simp only [a4_, go_sem, seval, ad_, af_, aa_, ab_, hw3, bj_, bs_, bi_, bg_, bk_, bh_, List.take_length] <;> (have h0 : d0_ l = false := (by simpa using h114); have e : ∀ d ls, cd_ l a d ls = false := (fun d ls => by unfold cd_; rw [h0]; rfl); rw [e, e, e]; rfl)) (by simp only [go_sem, seval, ad_, af_, aa_, ab_, hw3, bj_, bs_, bi_, bg_, bk_, bh_, List.take_length])
   ·refine .skip (.seq (.rgn [a3_ (t6_ l hB (by omega)), a3_ hT] (by simp only [go_sem, seval, ad_, af_, aa_, ab_, hw3, bj_, bs_, bi_, bg_, bk_, bh_, List.take_length]; rfl) ?_ ?_))
    ·first | trivial | simp
    refine .seqJ (fun u : Unit => ⟨[.no, .no, .no, .no, .i .i64 a, .s w, .no, .no, .sl false (pgR (chg l a 0 [w])), .b (cd_ l a 0 [w]), .sl false (pgR (chg l a 1 [])), .b (cd_ l a 1 []), .no, .no, .no, .no, .no, .no, .sl false (bm_ (dk_ (iu_ l))), .no, .no, .no, .no, .no, .no, .no, .no, .no, .no, .no, .no, .no, .no, .no, .no, .no, .no, .no, .no, .no, .no, .no, .no, .no, .no, .no, .no, .no, .no, .no, .no, .no, .no, .no, .no, .no, .no, .no, .no, .no, .no, .no, .no, .no, .no, .no, .no, .no, .no, .no, .no, .no, .no, .no, .no, .no, .no, .no, .no, .no, .no, .no, .no, .no, .no, .no, .no, .no, .no, .no, .no, .no, .no, .no, .no, .no, .no, .no, .no, .no, .no, .no, .no, .no, .no, .no, .no, .no, .no, .no, .no, .no, .no, .no, .no, .no, .no, .no, .no, .no, .no, .no, .no, .no, .no, .no, .no, .no, .no, .no, .no, .no, .no, .no, .no, .no, .no, .no, .no, .no, .no, .no, .no, .no, .no, .no, .no, .no, .no, .no, .no, .no, .no, .no, .no, .no, .no, .no, .no, .no, .no, .no, .no, .no, .no, .no, .no, .no, .no, .no, .no, .no, .no, .no, .no, .no, .no, .no], be_ [], us []⟩) (fun u : Unit => True) ?_ (fun u hJ => ?_)
    ·refine .seq (.rgn [] (by simp only [go_sem, seval, ad_, af_, aa_, ab_, hw3, bj_, bs_, bi_, bg_, bk_, bh_, List.take_length]; rfl) ?_ ?_)
     ·first | trivial | simp
     refine .condB (by simp only [go_sem, seval, ad_, af_, aa_, ab_, hw3, bj_, bs_, bi_, bg_, bk_, bh_, List.take_length]; rfl) (by simp only [go_sem, seval, ad_, af_, aa_, ab_, hw3, bj_, bs_, bi_, bg_, bk_, bh_, List.take_length]) (fun h128 => ?_) (fun h128 => ?_)
     ·refine .seq (.rgn [] (by simp only [go_sem, seval, ad_, af_, aa_, ab_, hw3, bj_, bs_, bi_, bg_, bk_, bh_, List.take_length]; rfl) ?_ ?_)
      ·have q := hls (by simpa using h114); exact ⟨lu_ _, by simp, by omega⟩
      refine .seq (.rgn [] (by simp only [go_sem, seval, ad_, af_, aa_, ab_, hw3, bj_, bs_, bi_, bg_, bk_, bh_, List.take_length]; rfl) ?_ ?_)
      ·have q := hls (by simpa using h114); obtain ⟨_, q1, q2, _⟩ := ge_.1 h128; and_intros <;> omega
      refine .seq (.rgn [mw_ (d0_ l = true) (fun h => hw_ ((l.map (·.line)).set a.toNat w) (by have := L1 h; omega) (by simp; omega)), cm_ (d0_ l = true) (fun h => m5_ (cf_ ((l.map (·.line)).set a.toNat w)) (by have := L1 h; omega)), a3_ (sm_ (chg l a 1 [w]) (fp_ (cf_ ((l.map (·.line)).set a.toNat w))) xB (by omega) (by have := jh_ (cf_ ((l.map (·.line)).set a.toNat w)); omega))] (by simp only [go_sem, seval, ad_, af_, aa_, ab_, hw3, bj_, bs_, bi_, bg_, bk_, bh_, List.take_length]; rfl) ?_ ?_)
      ·have h0 : d0_ l = true := (by simpa using h114); rw [f1 h0]; exact ⟨⟨strJ (by simp) rfl, h0⟩, h0⟩
      refine .condB (by simp only [go_sem, seval, ad_, af_, aa_, ab_, hw3, bj_, bs_, bi_, bg_, bk_, bh_, List.take_length]; rfl) (by simp only [go_sem, seval, ad_, af_, aa_, ab_, hw3, bj_, bs_, bi_, bg_, bk_, bh_, List.take_length]) (fun h141 => ?_) (fun h141 => ?_)
      ·rw [ado_ h128] at h141; simp at h141
      ·refine .skip ?_
       refine Exists.intro (()) ⟨?_, ?_⟩
       ·trivial
       exact Can.weak (Weak.lit (by simp only [go_sem, seval, ad_, af_, aa_, ab_, hw3, bj_, bs_, bi_, bg_, bk_, bh_, List.take_length, as_, leV, aq_, ar_, V.inn, us, T9_, Ta_] <;> ((try simp))) (by simp only [go_sem, seval, ad_, af_, aa_, ab_, hw3, bj_, bs_, bi_, bg_, bk_, bh_, List.take_length, as_, leV, aq_, ar_, V.inn, us, T9_, Ta_]) (by simp only [go_sem, seval, ad_, af_, aa_, ab_, hw3, bj_, bs_, bi_, bg_, bk_, bh_, List.take_length, as_, leV, aq_, ar_, V.inn, us, T9_, Ta_]))
     ·refine .skip ?_
      refine Exists.intro (()) ⟨?_, ?_⟩
      ·trivial
      exact Can.weak (Weak.lit (by simp only [go_sem, seval, ad_, af_, aa_, ab_, hw3, bj_, bs_, bi_, bg_, bk_, bh_, List.take_length, as_, leV, aq_, ar_, V.inn, us, T9_, Ta_] <;> ((try simp))) (by simp only [go_sem, seval, ad_, af_, aa_, ab_, hw3, bj_, bs_, bi_, bg_, bk_, bh_, List.take_length, as_, leV, aq_, ar_, V.inn, us, T9_, Ta_]) (by simp only [go_sem, seval, ad_, af_, aa_, ab_, hw3, bj_, bs_, bi_, bg_, bk_, bh_, List.take_length, as_, leV, aq_, ar_, V.inn, us, T9_, Ta_]))
    refine .seqJ (fun u : Unit => ⟨[.no, .no, .no, .no, .i .i64 a, .s w, .no, .no, .no, .no, .sl false (pgR (chg l a 1 [])), .b (cd_ l a 1 []), .no, .no, .no, .no, .no, .no, .sl false (bm_ (dk_ (iu_ l))), .no, .no, .no, .no, .no, .no, .no, .no, .no, .no, .no, .no, .no, .no, .no, .no, .no, .no, .no, .no, .no, .no, .no, .no, .no, .no, .no, .no, .no, .no, .no, .no, .no, .no, .no, .no, .no, .no, .no, .no, .no, .no, .no, .no, .no, .no, .no, .no, .no, .no, .no, .no, .no, .no, .no, .no, .no, .no, .no, .no, .no, .no, .no, .no, .no, .no, .no, .no, .no, .no, .no, .no, .no, .no, .no, .no, .no, .no, .no, .no, .no, .no, .no, .no, .no, .no, .no, .no, .no, .no, .no, .no, .no, .no, .no, .no, .no, .no, .no, .no, .no, .no, .no, .no, .no, .no, .no, .no, .no, .no, .no, .no, .no, .no, .no, .no, .no, .no, .no, .no, .no, .no, .no, .no, .no, .no, .no, .no, .no, .no, .no, .no, .no, .no, .no, .no, .no, .no, .no, .no, .no, .no, .no, .no, .no, .no, .no, .no, .no, .no, .no, .no, .no, .no, .no, .no, .no, .no, .no], be_ [], us []⟩) (fun u : Unit => True) ?_ (fun u hJ => ?_)
    ·refine .seq (.rgn [] (by simp only [go_sem, seval, ad_, af_, aa_, ab_, hw3, bj_, bs_, bi_, bg_, bk_, bh_, List.take_length]; rfl) ?_ ?_)
     ·first | trivial | simp
     refine .condB (by simp only [go_sem, seval, ad_, af_, aa_, ab_, hw3, bj_, bs_, bi_, bg_, bk_, bh_, List.take_length]; rfl) (by simp only [go_sem, seval, ad_, af_, aa_, ab_, hw3, bj_, bs_, bi_, bg_, bk_, bh_, List.take_length]) (fun h142 => ?_) (fun h142 => ?_)
     ·refine .seq (.rgnD [] enM (by simp only [go_sem, seval, ad_, af_, aa_, ab_, hw3, bj_, bs_, bi_, bg_, bk_, bh_, List.take_length]; rfl) (by rfl) ?_ ?_)
      ·have q := hls (by simpa using h114); obtain ⟨_, q1, q2, _⟩ := jc_.1 h142; and_intros <;> first | omega | (simp; done) | exact lu_ _ | exact fun h => absurd rfl h | exact .inr (lu_ _) | (simp; omega)
      refine .seq (.rgn [mw_ (d0_ l = true) (fun h => hw_ (((l.map (·.line)).take a.toNat ++ [w]) ++ (l.map (·.line)).drop a.toNat) (by have := L2 h; omega) (by simp; omega)), cm_ (d0_ l = true) (fun h => m5_ (cf_ (((l.map (·.line)).take a.toNat ++ [w]) ++ (l.map (·.line)).drop a.toNat)) (by have := L2 h; omega)), a3_ (sm_ (chg l a 0 [w]) (fp_ (cf_ (((l.map (·.line)).take a.toNat ++ [w]) ++ (l.map (·.line)).drop a.toNat))) yB (by omega) (by have := jh_ (cf_ (((l.map (·.line)).take a.toNat ++ [w]) ++ (l.map (·.line)).drop a.toNat)); omega))] (by simp only [go_sem, seval, ad_, af_, aa_, ab_, hw3, bj_, bs_, bi_, bg_, bk_, bh_, List.take_length]; rfl) ?_ ?_)
      ·have h0 : d0_ l = true := (by simpa using h114); rw [f1 h0]; exact ⟨⟨strJ (by simp only [T2_, List.length_singleton]) rfl, h0⟩, h0⟩
      refine .condB (by simp only [go_sem, seval, ad_, af_, aa_, ab_, hw3, bj_, bs_, bi_, bg_, bk_, bh_, List.take_length]; rfl) (by simp only [go_sem, seval, ad_, af_, aa_, ab_, hw3, bj_, bs_, bi_, bg_, bk_, bh_, List.take_length]) (fun h160 => ?_) (fun h160 => ?_)
      ·rw [ai1_ h142] at h160; simp at h160
      ·refine .skip ?_
       refine Exists.intro (()) ⟨?_, ?_⟩
       ·trivial
       exact Can.weak (Weak.lit (by simp only [go_sem, seval, ad_, af_, aa_, ab_, hw3, bj_, bs_, bi_, bg_, bk_, bh_, List.take_length, as_, leV, aq_, ar_, V.inn, us, T9_, Ta_] <;> ((try simp))) (by simp only [go_sem, seval, ad_, af_, aa_, ab_, hw3, bj_, bs_, bi_, bg_, bk_, bh_, List.take_length, as_, leV, aq_, ar_, V.inn, us, T9_, Ta_]) (by simp only [go_sem, seval, ad_, af_, aa_, ab_, hw3, bj_, bs_, bi_, bg_, bk_, bh_, List.take_length, as_, leV, aq_, ar_, V.inn, us, T9_, Ta_]))
     ·refine .skip ?_
      refine Exists.intro (()) ⟨?_, ?_⟩
      ·trivial
      exact Can.weak (Weak.lit (by simp only [go_sem, seval, ad_, af_, aa_, ab_, hw3, bj_, bs_, bi_, bg_, bk_, bh_, List.take_length, as_, leV, aq_, ar_, V.inn, us, T9_, Ta_] <;> ((try simp))) (by simp only [go_sem, seval, ad_, af_, aa_, ab_, hw3, bj_, bs_, bi_, bg_, bk_, bh_, List.take_length, as_, leV, aq_, ar_, V.inn, us, T9_, Ta_]) (by simp only [go_sem, seval, ad_, af_, aa_, ab_, hw3, bj_, bs_, bi_, bg_, bk_, bh_, List.take_length, as_, leV, aq_, ar_, V.inn, us, T9_, Ta_]))
    refine .seq (.seq (.rgn [] (by simp only [go_sem, seval, ad_, af_, aa_, ab_, hw3, bj_, bs_, bi_, bg_, bk_, bh_, List.take_length]; rfl) ?_ ?_))
    ·first | trivial | simp
    refine .condB (by simp only [go_sem, seval, ad_, af_, aa_, ab_, hw3, bj_, bs_, bi_, bg_, bk_, bh_, List.take_length]; rfl) (by simp only [go_sem, seval, ad_, af_, aa_, ab_, hw3, bj_, bs_, bi_, bg_, bk_, bh_, List.take_length]) (fun h161 => ?_) (fun h161 => ?_)
    ·refine .seq (.rgnD [] enM (by simp only [go_sem, seval, ad_, af_, aa_, ab_, hw3, bj_, bs_, bi_, bg_, bk_, bh_, List.take_length]; rfl) (by rfl) ?_ ?_)
     ·have q := hls (by simpa using h114); obtain ⟨_, q1, q2, _⟩ := hn_.1 h161; and_intros <;> first | omega | (simp; done) | exact lu_ _ | exact fun h => absurd rfl h | exact .inr (lu_ _) | (simp; omega)
     refine .seq (.rgn [mw_ (d0_ l = true) (fun h => hw_ ((l.map (·.line)).take a.toNat ++ (l.map (·.line)).drop (a.toNat + 1)) (by have := L3 h; omega) (by simp; omega)), cm_ (d0_ l = true) (fun h => m5_ (cf_ ((l.map (·.line)).take a.toNat ++ (l.map (·.line)).drop (a.toNat + 1))) (by have := L3 h; omega)), a3_ (sm_ (chg l a 1 []) (fp_ (cf_ ((l.map (·.line)).take a.toNat ++ (l.map (·.line)).drop (a.toNat + 1)))) zB (by omega) (by have := jh_ (cf_ ((l.map (·.line)).take a.toNat ++ (l.map (·.line)).drop (a.toNat + 1))); omega))] (by simp only [go_sem, seval, ad_, af_, aa_, ab_, hw3, bj_, bs_, bi_, bg_, bk_, bh_, List.take_length]; rfl) ?_ ?_)
     ·have h0 : d0_ l = true := (by simpa using h114); obtain ⟨_, q1, q2, _⟩ := hn_.1 h161; rw [f1 h0, show (a + 1).toNat = a.toNat + 1 by omega]; exact ⟨⟨strJ (by simp only [T2_]) rfl, h0⟩, h0⟩
     refine .condB (by simp only [go_sem, seval, ad_, af_, aa_, ab_, hw3, bj_, bs_, bi_, bg_, bk_, bh_, List.take_length]; rfl) (by simp only [go_sem, seval, ad_, af_, aa_, ab_, hw3, bj_, bs_, bi_, bg_, bk_, bh_, List.take_length]) (fun h177 => ?_) (fun h177 => ?_)
     ·rw [af4_ h161] at h177; simp at h177
     ·refine .skip (.seq (.rgn [] (by simp only [go_sem, seval, ad_, af_, aa_, ab_, hw3, bj_, bs_, bi_, bg_, bk_, bh_, List.take_length]; rfl) ?_ ?_))
      ·first | trivial | simp
      refine .ret ⟨.inr rfl, ?_⟩
      exact Out.plain (by simp only [Tryz.results10]; rfl) (by simp only [ax_, a6_, go_sem, seval, ad_, af_, aa_, ab_, hw3, bj_, bs_, bi_, bg_, bk_, bh_, List.take_length] <;> (split <;> rfl)) (by simp only [a4_, go_sem, seval, ad_, af_, aa_, ab_, hw3, bj_, bs_, bi_, bg_, bk_, bh_, List.take_length] <;> (simp_all)) (by simp only [go_sem, seval, ad_, af_, aa_, ab_, hw3, bj_, bs_, bi_, bg_, bk_, bh_, List.take_length])
    ·refine .skip (.seq (.rgn [] (by simp only [go_sem, seval, ad_, af_, aa_, ab_, hw3, bj_, bs_, bi_, bg_, bk_, bh_, List.take_length]; rfl) ?_ ?_))
     ·first | trivial | simp
     refine .ret ⟨.inr rfl, ?_⟩
     exact Out.plain (by simp only [Tryz.results10]; rfl) (by simp only [ax_, a6_, go_sem, seval, ad_, af_, aa_, ab_, hw3, bj_, bs_, bi_, bg_, bk_, bh_, List.take_length] <;> (split <;> rfl)) (by simp only [a4_, go_sem, seval, ad_, af_, aa_, ab_, hw3, bj_, bs_, bi_, bg_, bk_, bh_, List.take_length] <;> (simp_all)) (by simp only [go_sem, seval, ad_, af_, aa_, ab_, hw3, bj_, bs_, bi_, bg_, bk_, bh_, List.take_length])
end Go.Proofs.YtpikbndepapbhaaGreatDoor
