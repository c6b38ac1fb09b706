/- The program's reader of what is reckoned, as trees of places of one's own. Conditions: none. -/
import Derived.Test.YtefmbmafdgedmaaGreatDoorK35
import Derived.Test.YtefmbmafdgedmaaGreatDoorKt
import Derived.Test.YtefmbmafdgedmaaGreatDoorK32
import Derived.Test.YtefmbmafdgedmaaGreatDoorK31
set_option linter.unusedVariables false
set_option linter.unusedSimpArgs false
namespace Go.Proofs.YtefmbmafdgedmaaGreatDoor
section
open Go.RowKit
set_option maxRecDepth 100000
set_option maxHeartbeats 8000000
theorem e8_ (s : RS) : cr_ (rsB s).rows = true := by simp only [cr_, dp_, V.pure, aa_, Bool.and_self]
def LevO (n : Nat) : Prop := n ≤ 1000000 → ∀ (t : Nat) (s : RS), t ≤ 4 → okS2 s → 10 * s.left.length + 10 - t ≤ n → ACall En 171 [.pt 0 3 0 0, .i .i64 t] [rsB s] [.ag (ttE.O 1 (ce_ n t s).1)] (rsB (ce_ n t s).2 :: ttE.B 1 (ce_ n t s).1)
def z7_ (n : Nat) : Prop := n ≤ 1000000 → ∀ (s : RS), okS2 s → 10 * s.left.length + 5 ≤ n → ACall En 206 [.pt 0 3 0 0] [rsB s] [.ag (ttE.O 1 (dx_ n s).1)] (rsB (dx_ n s).2 :: ttE.B 1 (dx_ n s).1)
theorem h3_ {k : Nat} {X : List Blk} {i : Nat} {b : Blk} (h : X[i]? = some b) : be_ (bl_ k X) (k + i) = some b := by rw [dc_]; exact h
theorem zf_ {c : Nat} {X : List Blk} {x b : Blk} {i : Nat} (hc : 1 ≤ c) (h : (x :: X)[i]? = some b) : be_ (bl_ (1000 + c) X ++ [(1000 + (c - 1), x)]) (1000 + (c - 1) + i) = some b := by
 rw [ds_]
 cases i with
 | zero =>
  rw [do_ (.inl (by omega))]
  simpa [be_] using h
 | succ i => rw [show 1000 + (c - 1) + (i + 1) = 1000 + c + i by omega, dc_]; simp only [List.getElem?_cons_succ] at h; rw [h]; rfl
theorem adt_ {c : Nat} (hc : 1 ≤ c) (k n : Int) (s : Str) (e : E) : ttE.B (1000 + (c - 1)) (.mk k n s [e]) = ⟨48, 4, [ttE.O (1000 + c) e]⟩ :: ttE.B (1000 + c) e := by
 rw [l1_]
 simp only [E.kids, TT.lst, TT.OR, TT.BL, List.append_nil, show 1000 + (c - 1) + 1 = 1000 + c by omega]
theorem acd_ {c : Nat} (hc : 1 ≤ c) (k n : Int) (s : Str) (e d : E) : ttE.B (1000 + (c - 1)) (.mk k n s [e, d]) = ⟨48, 4, [ttE.O (1000 + c) e, ttE.O (1000 + (c + ttE.N e)) d]⟩ :: (ttE.B (1000 + c) e ++ ttE.B (1000 + (c + ttE.N e)) d) := by
 rw [l1_]
 simp only [E.kids, TT.lst, TT.OR, TT.BL, List.append_nil, show 1000 + (c - 1) + 1 = 1000 + c by omega, show 1000 + c + ttE.N e = 1000 + (c + ttE.N e) by omega]
theorem rh_ {c : Nat} (h : 1 ≤ c) (X : List Blk) (b : Blk) : ep_ (bl_ (1000 + c) X) (1000 + (c - 1)) b = bl_ (1000 + c) X ++ [(1000 + (c - 1), b)] := af_ (by omega)
theorem hp_ {L : List (Nat × Blk)} {U : List Nat} {c : Nat} {e : E} (h : ∀ i b, (ttE.B c e)[i]? = some b → be_ L (c + i) = some b) (hU : ∀ i, i < ttE.N e → us U (c + i) = true) : a2_ L U (bl_ c (ttE.B c e)) :=
 nj_ fun i b hb => ⟨h i b hb, hU i (by rw [← ttE.len e c]; exact (List.getElem?_eq_some_iff.1 hb).1), (ttE.inn e c (us U) hU).2 b (List.mem_of_getElem? hb)⟩
theorem ne_ {a b c n : Nat} {i : Nat} (h : i < n) : us (a :: b :: List.range' c n) (c + i) = true := by
 simp only [us, List.contains_eq_mem, Bool.or_eq_true, T3_, List.mem_cons, List.mem_range'_1]
 exact .inr (.inr (.inr ⟨by omega, by omega⟩))
theorem cn_ (e : E) : 0 < ttE.N e := by rw [gi_]; omega
theorem fr_ {a b c n : Nat} (h : 0 < n) : (decide (1000 + c < 10) || decide (1000000000 ≤ 1000 + c) || (1000 + c == a || (1000 + c == b || (List.range' (1000 + c) n).contains (1000 + c)))) = true := by
 simp [List.mem_range'_1]; omega
theorem dr_ {c p q : Nat} {b0 b1 b2 : Blk} {e : E} (hp : p < 1000) (hq : q < 1000) : a2_ ((0, b0) :: (p, b1) :: (q, b2) :: bl_ (1000 + c) (ttE.B (1000 + c) e)) (p :: q :: List.range' (1000 + c) (ttE.N e)) (bl_ (1000 + c) (ttE.B (1000 + c) e)) :=
 hp_ (fun i b h => by rw [bo_, if_neg (by omega), bo_, if_neg (by omega), bo_, if_neg (by omega)]; exact h3_ h) fun i hi => ne_ hi
theorem y9_ {c p q : Nat} {b0 b1 b2 : Blk} {e : E} (hp : p < 1000) : a2_ ((0, b0) :: (p, b1) :: (bl_ (1000 + c) (ttE.B (1000 + c) e) ++ [(q, b2)])) (p :: q :: List.range' (1000 + c) (ttE.N e)) (bl_ (1000 + c) (ttE.B (1000 + c) e)) :=
 hp_ (fun i b h => by rw [bo_, if_neg (by omega), bo_, if_neg (by omega)]; exact le_ h) fun i hi => ne_ hi
theorem ae9_ (c : Nat) (k n : Int) (s : Str) : ttE.B c (.mk k n s []) = [⟨48, 4, []⟩] := by rw [l1_]; rfl
theorem dz_ {c p q : Nat} {b0 b1 b2 : Blk} {k n : Int} {s : Str} (hp : p < 1000) (hq : q < 1000) : a2_ [(0, b0), (p, b1), (q, b2), (1000 + c, ⟨48, 4, []⟩)] (p :: q :: List.range' (1000 + c) (ttE.N (.mk k n s []))) (bl_ (1000 + c) (ttE.B (1000 + c) (.mk k n s []))) :=
 hp_ (fun i b h => by
  rw [ae9_] at h
  rw [bo_, if_neg (by omega), bo_, if_neg (by omega), bo_, if_neg (by omega)]
  exact h3_ (k := 1000 + c) (X := [⟨48, 4, []⟩]) h) fun i hi => ne_ hi
theorem yy_ {c p q : Nat} {b0 b1 b2 : Blk} {k n : Int} {s : Str} {e : E} (hp : p < 1000) (hq : q < 1000) (hc : 1 ≤ c) : a2_ ((0, b0) :: (p, b1) :: (q, b2) :: (bl_ (1000 + c) (ttE.B (1000 + c) e) ++ [(1000 + (c - 1), ⟨48, 4, [ttE.O (1000 + c) e]⟩)])) (p :: q :: List.range' (1000 + (c - 1)) (ttE.N (.mk k n s [e]))) (bl_ (1000 + (c - 1)) (ttE.B (1000 + (c - 1)) (.mk k n s [e]))) :=
 hp_ (fun i b h => by
  rw [adt_ hc] at h
  rw [bo_, if_neg (by omega), bo_, if_neg (by omega), bo_, if_neg (by omega)]
  exact zf_ hc h) fun i hi => ne_ hi
theorem abc_ {c p q : Nat} {b0 b1 b2 : Blk} {k n : Int} {s : Str} {e d : E} (hp : p < 1000) (hq : q < 1000) (hc : 1 ≤ c) : a2_ ((0, b0) :: (p, b1) :: (q, b2) :: (bl_ (1000 + c) (ttE.B (1000 + c) e ++ ttE.B (1000 + (c + ttE.N e)) d) ++ [(1000 + (c - 1), ⟨48, 4, [ttE.O (1000 + c) e, ttE.O (1000 + (c + ttE.N e)) d]⟩)])) (p :: q :: List.range' (1000 + (c - 1)) (ttE.N (.mk k n s [e, d]))) (bl_ (1000 + (c - 1)) (ttE.B (1000 + (c - 1)) (.mk k n s [e, d]))) :=
 hp_ (fun i b h => by
  rw [acd_ hc] at h
  rw [bo_, if_neg (by omega), bo_, if_neg (by omega), bo_, if_neg (by omega)]
  exact zf_ hc h) fun i hi => ne_ hi
theorem aah_ {n t : Nat} {s : RS} (h : okS2 s) : ttE.N (ce_ n t s).1 ≤ 3000001 := by
 have := (i_N n).1 t s
 have := h.2.1
 have := h.2.2
 omega
theorem aeh_ {n : Nat} {s : RS} (h : okS2 s) : ttE.N (dx_ n s).1 ≤ 3000001 := by
 have := (i_N n).2.2.1 s
 have := h.2.1
 have := h.2.2
 omega
def LK (n t : Nat) (s : RS) (q : Nat × E × RS) : Prop := LI n t s q ∧ ttE.N q.2.1 + 3 * q.2.2.left.length ≤ 3 * s.left.length + 1
theorem abo_ {n t : Nat} {s : RS} {q : Nat × E × RS} (hI : LK n t s q) (h : ((!q.2.2.bad && decide ((q.2.2.left.length : Int) > 0)) && br_ (b3_ q.2.2) == (t : Int)) = true) : LK n t s (LN t q) := by
 obtain ⟨h1, h2⟩ := hI
 refine ⟨(j7_ h1 h).1, ?_⟩
 simp only [T5_, Bool.not_eq_true', T3_, beq_iff_eq] at h
 have hne : q.2.2.left ≠ [] := by intro e; rw [e] at h; simp at h
 have q1 := d4_ hne
 have q2 := (i_N (q.1 - 1)).1 (t + 1) (bq_ q.2.2)
 unfold LN
 dsimp only
 rw [uw_]
 omega
theorem ri_ (n : Nat) (ihL : ∀ j, j < n + 1 → LevO j) (ihH : ∀ j, j < n + 1 → z7_ j) : LevO (n + 1) := fun hn0 t s ht hs hn => by
 have hs0 := hs
 obtain ⟨s1, s2, s3⟩ := hs
 have hlen : s.left.length < 4611686018427387904 := by omega
 have L1 : t < 4 → okS2 (ce_ n (t + 1) s).2 ∧ (ce_ n (t + 1) s).2.left.length ≤ s.left.length := fun _ => ⟨qx_ ⟨s1, s2, s3⟩ n (t + 1), (o7_ n).1 (t + 1) s⟩
 have LJ : ∀ q : Nat × E × RS, okS2 q.2.2 → 10 * q.2.2.left.length + 1 ≤ q.1 → q.1 ≤ n → q.2.2.left ≠ [] → t < 4 → ACall En 171 [.pt 0 3 0 0, .i .i64 ((t + 1 : Nat) : Int)] [rsB (bq_ q.2.2)] [.ag (ttE.O 1 (ce_ (q.1 - 1) (t + 1) (bq_ q.2.2)).1)] (rsB (ce_ (q.1 - 1) (t + 1) (bq_ q.2.2)).2 :: ttE.B 1 (ce_ (q.1 - 1) (t + 1) (bq_ q.2.2)).1) := fun q h1 h2 h3 h4 h5 => by
  have := d4_ h4
  exact ihL (q.1 - 1) (by omega) (by omega) (t + 1) (bq_ q.2.2) (by omega) (fa_ h1) (by omega)
 have hw : IntKind.i64.wrap ((t : Int) + 1) = ((t + 1 : Nat) : Int) := by rw [bt_ (by omega) (by omega)]; rfl
 have hp := e8_
 have hN1 := @aah_ n (t + 1) s hs0
 have hN0 := (i_N n).1 (t + 1) s
 have hNh := @aeh_ n s hs0
 refine c4_ (fn := Tryz.f171)  Tryz.func171 rfl rfl (by simp) fun C => ?_
 rw [bb_]
 simp only [Tryz.ntmps171, T7_, List.length_nil, Nat.reduceAdd, Nat.reduceSub, List.replicate_succ, List.replicate_zero, List.cons_append, List.nil_append, bl_]
 refine .seq (.rgn [] (by simp only [go_sem, seval, asO, bc_, bsN, ao_, ax_, hw, hp, ab_, au_, aj_, ae_, ac_, ai_, ag_, ad_, ak_, af_, a7_, a3_, bd_, a8_, al_]; rfl) ?_ ?_)
 ·(first | trivial | (simp; done) | (and_intros <;> first | trivial | rfl | omega | (simp only [TT.len, List.all_eq_true]; intro x hx; simp only [List.mem_range'_1] at hx; simp [List.mem_range'_1]; omega) | (simp [List.mem_range'_1]; omega)))
 refine .seq (.seq (.rgn [] (by simp only [go_sem, seval, asO, bc_, bsN, ao_, ax_, hw, hp, ab_, au_, aj_, ae_, ac_, ai_, ag_, ad_, ak_, af_, a7_, a3_, bd_, a8_, al_]; rfl) ?_ ?_))
 ·(first | trivial | (simp; done) | (and_intros <;> first | trivial | rfl | omega | (simp only [TT.len, List.all_eq_true]; intro x hx; simp only [List.mem_range'_1] at hx; simp [List.mem_range'_1]; omega) | (simp [List.mem_range'_1]; omega)))
 refine .condB (by simp only [go_sem, seval, asO, bc_, bsN, ao_, ax_, hw, hp, ab_, au_, aj_, ae_, ac_, ai_, ag_, ad_, ak_, af_, a7_, a3_, bd_, a8_, al_]; rfl) (by simp only [go_sem, seval, asO, bc_, bsN, ao_, ax_, hw, hp, ab_, au_, aj_, ae_, ac_, ai_, ag_, ad_, ak_, af_, a7_, a3_, bd_, a8_, al_]) (fun h8 => ?_) (fun h8 => ?_)
 ·refine .seq (.rgn [bc_ 0 1000 (ihH n (by omega) (by omega) s ⟨s1, s2, s3⟩ (by simp at h8; omega)) (ttE.segP 0 1000 _ _ (by decide) (hp _))] (by simp only [go_sem, seval, asO, bc_, bsN, ao_, ax_, hw, hp, ab_, au_, aj_, ae_, ac_, ai_, ag_, ad_, ak_, af_, a7_, a3_, bd_, a8_, al_]; rfl) ?_ ?_)
  ·(first | trivial | (simp; done) | (and_intros <;> first | trivial | rfl | omega | (simp only [TT.len, List.all_eq_true]; intro x hx; simp only [List.mem_range'_1] at hx; simp [List.mem_range'_1]; omega) | (simp [List.mem_range'_1]; omega)))
  refine .ret ⟨.inr rfl, ?_⟩
  first | ((obtain rfl : t = 4 := (by simp at h8; omega)); rw [jb_]; exact ⟨_, ttE.out_oneP (c := 1000) (by simp only [Tryz.results171]; rfl) (by simp only [a4_, bh_, go_sem, seval, asO, bc_, bsN, ao_, ax_, hw, hp, ab_, au_, aj_, ae_, ac_, ai_, ag_, ad_, ak_, af_, a7_, a3_, bd_, a8_, al_]) (by simp only [bg_, go_sem, seval, asO, bc_, bsN, ao_, ax_, hw, hp, ab_, au_, aj_, ae_, ac_, ai_, ag_, ad_, ak_, af_, a7_, a3_, bd_, a8_, al_] <;> rfl) (by omega) (e8_ _) rfl (fun i b hb => by show be_ _ _ = _; rw [bo_, if_neg (by omega), bo_, if_neg (by omega)]; exact h3_ hb)⟩) | (rw [mu_ h8 hI.1 h38]; exact ⟨_, ttE.out_oneP (c := 1000 + q.1) (by simp only [Tryz.results171]; rfl) (by simp only [a4_, bh_, go_sem, seval, asO, bc_, bsN, ao_, ax_, hw, hp, ab_, au_, aj_, ae_, ac_, ai_, ag_, ad_, ak_, af_, a7_, a3_, bd_, a8_, al_]) (by simp only [bg_, go_sem, seval, asO, bc_, bsN, ao_, ax_, hw, hp, ab_, au_, aj_, ae_, ac_, ai_, ag_, ad_, ak_, af_, a7_, a3_, bd_, a8_, al_] <;> rfl) (by omega) (e8_ _) rfl (fun i b hb => by show be_ _ _ = _; rw [bo_, if_neg (by omega), bo_, if_neg (by omega), bo_, if_neg (by omega)]; exact h3_ hb)⟩)
 ·refine .skip (.seq (.rgn [bc_ 0 (1000 + n) (ihL n (by omega) (by omega) (t + 1) s (by simp at h8; omega) ⟨s1, s2, s3⟩ (by simp at h8; omega)) (ttE.segP 0 (1000 + n) _ _ (by omega) (hp _))] (by simp only [go_sem, seval, asO, bc_, bsN, ao_, ax_, hw, hp, ab_, au_, aj_, ae_, ac_, ai_, ag_, ad_, ak_, af_, a7_, a3_, bd_, a8_, al_]; rfl) ?_ ?_))
  ·(first | trivial | (simp; done) | (and_intros <;> first | trivial | rfl | omega | (simp only [TT.len, List.all_eq_true]; intro x hx; simp only [List.mem_range'_1] at hx; simp [List.mem_range'_1]; omega) | (simp [List.mem_range'_1]; omega)))
  refine .seq (.block (.loopK (fun q : Nat × E × RS => ⟨[.pt 0 3 0 0, .i .i64 t, .no, .no, .pt 14 4 0 0, .pt 15 4 0 0, .no, .no, .no, .no, .no, .no, .no, .no, .no, .no, .no, .no, .no, .no, .no, .no, .no, .no, .no, .no, .no, .no, .no, .no, .no, .no, .no, .no, .no, .no, .no, .no, .no, .no, .no, .no, .no, .no, .no, .no, .no, .no, .no, .no], be_ ((0, rsB q.2.2) :: (14, ⟨48, 4, [[.i .i64 0, .i .i64 0, .s [], .sl true []]]⟩) :: (15, ⟨48, 4, [ttE.O (1000 + q.1) q.2.1]⟩) :: bl_ (1000 + q.1) (ttE.B (1000 + q.1) q.2.1)), us (14 :: 15 :: List.range' (1000 + q.1) (ttE.N q.2.1))⟩) (fun q : Nat × E × RS => LK n t s q) (fun q : Nat × E × RS => q.2.2.left.length) ((n, (ce_ n (t + 1) s).1, (ce_ n (t + 1) s).2)) ?_ ?_ (fun q hI => ?_)))
  ·exact ⟨⟨(L1 (by simp at h8; omega)).1, by have := (L1 (by simp at h8; omega)).2; dsimp only; simp at h8; omega, Nat.le_refl _, rfl⟩, by dsimp only; omega⟩
  ·exact Can.weak (Weak.lit (by simp only [go_sem, seval, asO, bc_, bsN, ao_, ax_, hw, hp, ab_, au_, aj_, ae_, ac_, ai_, ag_, ad_, ak_, af_, a7_, a3_, bd_, a8_, al_, a2_, leV, az_, a0_, V.inn, us, T9_, Ta_]) (by simp only [go_sem, seval, asO, bc_, bsN, ao_, ax_, hw, hp, ab_, au_, aj_, ae_, ac_, ai_, ag_, ad_, ak_, af_, a7_, a3_, bd_, a8_, al_, a2_, leV, az_, a0_, V.inn, us, T9_, Ta_]) (by simp only [go_sem, seval, asO, bc_, bsN, ao_, ax_, hw, hp, ab_, au_, aj_, ae_, ac_, ai_, ag_, ad_, ak_, af_, a7_, a3_, bd_, a8_, al_, a2_, leV, az_, a0_, V.inn, us, T9_, Ta_] <;> (exact ⟨fr_ (cn_ _), y9_ (p := 14) (q := 15) (by decide)⟩)))
  refine .seq (.seq (.rgnS [34] [asO En { v := .s (b3_ q.2.2) }, bj_ (g8_ (b3_ q.2.2))] (by simp only [go_sem, seval, asO, bc_, bsN, ao_, ax_, hw, hp, ab_, au_, aj_, ae_, ac_, ai_, ag_, ad_, ak_, af_, a7_, a3_, bd_, a8_, al_]; rfl) ?_ ?_))
  ·exact ⟨fun h => ⟨h, aaw_ h, kq_ (pa_ h)⟩, fun h => ⟨⟨h, by rw [kq_ (pa_ h)]; exact Nat.le_refl _⟩, by rw [zx_ (pa_ h)]⟩⟩
  refine .condB (by simp only [go_sem, seval, asO, bc_, bsN, ao_, ax_, hw, hp, ab_, au_, aj_, ae_, ac_, ai_, ag_, ad_, ak_, af_, a7_, a3_, bd_, a8_, al_]; rfl) (by simp only [go_sem, seval, asO, bc_, bsN, ao_, ax_, hw, hp, ab_, au_, aj_, ae_, ac_, ai_, ag_, ad_, ak_, af_, a7_, a3_, bd_, a8_, al_]) (fun h38 => ?_) (fun h38 => ?_)
  ·refine .skip (.block (.seq (.rgn [cu_ [0] [] (gf_ q.2.2 (by have := hI.1.1.2; omega))] (by simp only [go_sem, seval, asO, bc_, bsN, ao_, ax_, hw, hp, ab_, au_, aj_, ae_, ac_, ai_, ag_, ad_, ak_, af_, a7_, a3_, bd_, a8_, al_]; rfl) ?_ ?_)))
   ·(first | trivial | (simp; done) | (and_intros <;> first | trivial | rfl | omega | (simp only [TT.len, List.all_eq_true]; intro x hx; simp only [List.mem_range'_1] at hx; simp [List.mem_range'_1]; omega) | (simp [List.mem_range'_1]; omega)))
   refine .rgnDS [47] [bc_ 0 (1000 + (q.1 + ttE.N q.2.1)) (LJ q hI.1.1 hI.1.2.1 hI.1.2.2.1 (by simp at h38; intro e; simp [e] at h38) (by simp at h8; omega)) (ttE.segP 0 (1000 + (q.1 + ttE.N q.2.1)) _ _ (by omega) (hp _)), bsN En (1000 + (q.1 - 1))] enM (by simp only [go_sem, seval, asO, bc_, bsN, ao_, ax_, hw, hp, ab_, au_, aj_, ae_, ac_, ai_, ag_, ad_, ak_, af_, a7_, a3_, bd_, a8_, al_, v0_ (show 1000 + (q.1 + ttE.N q.2.1) = 1000 + q.1 + (ttE.B (1000 + q.1) q.2.1).length by rw [ttE.len]; omega), rh_ (show 1 ≤ q.1 by have := hI.1.2.1; omega)]; rfl) (by have b1 := hI.1.2.1; exact ts_ 1000 5 6 ([0], [0]) ([], []) (by decide) (fun j i h5 h6 hi => by (obtain _ | _ | _ | _ | _ | _ | _ | _ | _ | j := j) <;> first | exact absurd rfl h5 | exact absurd rfl h6 | (simp at hi; done) | (simp only [List.map, List.getElem?_cons_zero, List.getElem?_cons_succ, Option.some.injEq] at hi; subst hi; refine ⟨?_, ?_⟩ <;> simp [cx_])) (fun p' hp' => by simp only [List.map, List.getElem?_cons_zero, List.getElem?_cons_succ, Option.some.injEq] at hp'; subst hp'; refine ⟨?_, ?_⟩ <;> (intro x hx hl; simp [cx_, ob_, List.mem_range'_1] at hx ⊢; omega)) (fun p' hp' => by simp only [List.map, List.getElem?_cons_zero, List.getElem?_cons_succ, Option.some.injEq] at hp'; subst hp'; refine ⟨?_, ?_⟩ <;> (intro x hx hl; simp [cx_] at hx; omega)) (fun p' q' hp' hq' x hx => by simp only [List.map, List.getElem?_cons_zero, List.getElem?_cons_succ, Option.some.injEq] at hp' hq'; subst hp' hq'; refine ⟨fun h => ?_, fun h => ?_⟩ <;> (simp [cx_, ob_, List.mem_range'_1] at h; omega)) rfl) ?_ ?_
   ·have b1 := hI.1.2.1; have b2 := hI.1.2.2.1; have b3 := hI.2; have b4 := @aah_ (q.1 - 1) (t + 1) (bq_ q.2.2) (fa_ hI.1.1); and_intros <;> first | trivial | rfl | omega | (simp only [TT.len, List.all_eq_true]; intro x hx; simp only [List.mem_range'_1] at hx; simp [List.mem_range'_1]; omega) | (simp [List.mem_range'_1]; omega)
   refine Exists.intro (LN t q) ⟨?_, ?_, ?_⟩
   ·exact abo_ hI h38
   ·exact (j7_ hI.1 h38).2
   exact Can.weak (Weak.lit (by simp only [go_sem, seval, asO, bc_, bsN, ao_, ax_, hw, hp, ab_, au_, aj_, ae_, ac_, ai_, ag_, ad_, ak_, af_, a7_, a3_, bd_, a8_, al_, a2_, leV, az_, a0_, V.inn, us, T9_, Ta_]) (by simp only [go_sem, seval, asO, bc_, bsN, ao_, ax_, hw, hp, ab_, au_, aj_, ae_, ac_, ai_, ag_, ad_, ak_, af_, a7_, a3_, bd_, a8_, al_, a2_, leV, az_, a0_, V.inn, us, T9_, Ta_]) (by simp only [go_sem, seval, asO, bc_, bsN, ao_, ax_, hw, hp, ab_, au_, aj_, ae_, ac_, ai_, ag_, ad_, ak_, af_, a7_, a3_, bd_, a8_, al_, a2_, leV, az_, a0_, V.inn, us, T9_, Ta_] <;> (exact ⟨rfl, rfl, fr_ (cn_ _), abc_ (p := 14) (q := 15) (by decide) (by decide) (by have := hI.1.2.1; omega)⟩)))
  ·refine .exit (.seq (.rgn [] (by simp only [go_sem, seval, asO, bc_, bsN, ao_, ax_, hw, hp, ab_, au_, aj_, ae_, ac_, ai_, ag_, ad_, ak_, af_, a7_, a3_, bd_, a8_, al_]; rfl) ?_ ?_))
   ·(first | trivial | (simp; done) | (and_intros <;> first | trivial | rfl | omega | (simp only [TT.len, List.all_eq_true]; intro x hx; simp only [List.mem_range'_1] at hx; simp [List.mem_range'_1]; omega) | (simp [List.mem_range'_1]; omega)))
   refine .ret ⟨.inr rfl, ?_⟩
   first | ((obtain rfl : t = 4 := (by simp at h8; omega)); rw [jb_]; exact ⟨_, ttE.out_oneP (c := 1000) (by simp only [Tryz.results171]; rfl) (by simp only [a4_, bh_, go_sem, seval, asO, bc_, bsN, ao_, ax_, hw, hp, ab_, au_, aj_, ae_, ac_, ai_, ag_, ad_, ak_, af_, a7_, a3_, bd_, a8_, al_]) (by simp only [bg_, go_sem, seval, asO, bc_, bsN, ao_, ax_, hw, hp, ab_, au_, aj_, ae_, ac_, ai_, ag_, ad_, ak_, af_, a7_, a3_, bd_, a8_, al_] <;> rfl) (by omega) (e8_ _) rfl (fun i b hb => by show be_ _ _ = _; rw [bo_, if_neg (by omega), bo_, if_neg (by omega)]; exact h3_ hb)⟩) | (rw [mu_ h8 hI.1 h38]; exact ⟨_, ttE.out_oneP (c := 1000 + q.1) (by simp only [Tryz.results171]; rfl) (by simp only [a4_, bh_, go_sem, seval, asO, bc_, bsN, ao_, ax_, hw, hp, ab_, au_, aj_, ae_, ac_, ai_, ag_, ad_, ak_, af_, a7_, a3_, bd_, a8_, al_]) (by simp only [bg_, go_sem, seval, asO, bc_, bsN, ao_, ax_, hw, hp, ab_, au_, aj_, ae_, ac_, ai_, ag_, ad_, ak_, af_, a7_, a3_, bd_, a8_, al_] <;> rfl) (by omega) (e8_ _) rfl (fun i b hb => by show be_ _ _ = _; rw [bo_, if_neg (by omega), bo_, if_neg (by omega), bo_, if_neg (by omega)]; exact h3_ hb)⟩)
def HX (M : Nat) (q : E × RS) : Prop := okS2 q.2 ∧ q.2.left.length ≤ M ∧ ttE.N q.1 + 3 * q.2.left.length ≤ 3 * M + 1
theorem HX.N {M : Nat} {q : E × RS} (h : HX M q) (hM : M ≤ 1000000) : ttE.N q.1 ≤ 3000001 := by have := h.2.2; omega
theorem HQ_N (q : E × RS) : (HQ q).2.left.length ≤ q.2.left.length ∧ (HQ q).1 = q.1 := by
 unfold HQ
 dsimp only
 split
 ·exact ⟨Nat.le_refl _, rfl⟩
 ·exact ⟨cv_ _, rfl⟩
theorem HX.hq {M : Nat} {q : E × RS} (h : HX M q) : HX M (HQ q) := by
 have h1 := HQ_N q
 have h2 := h.2.1
 have h3 := h.2.2
 exact ⟨i2_ h.1, by omega, by rw [h1.2]; omega⟩
theorem HX.leaf {s : RS} {k n : Int} {w : Str} (h : okS2 (bq_ s)) : HX s.left.length (.mk k n w [], bq_ s) := by
 have := cv_ s
 exact ⟨h, this, by rw [nr_]; dsimp only; omega⟩
theorem HX.bad {s : RS} (h : okS2 (bq_ s)) : HX s.left.length (E0, { bq_ s with bad := true }) := by
 have := cv_ s
 exact ⟨gw_ h true, this, by rw [ih_]; dsimp only; omega⟩
theorem HP_N (m : Nat) (s : RS) : ttE.N (HP m s).1 + 3 * (HP m s).2.left.length ≤ 3 * s.left.length + 1 ∧ (HP m s).2.left.length ≤ s.left.length := by
 have h0 := cv_ s
 unfold HP
 split
 ·simp only [ih_, HS]; omega
 ·have h1 := (i_N m).1 1 (HS s)
  have h2 := (o7_ m).1 1 (HS s)
  have h3 : (HS s).left = (bq_ s).left := rfl
  rw [h3] at h1 h2
  omega
theorem tx_ (m : Nat) (ihL : ∀ j, j < m + 2 → LevO j) : z7_ (m + 2) := fun hn0 s hs hn => by
 have h1 := fa_ hs
 have hd := jm_ s
 have hl1 := cv_ s
 have hb := hs.2.2
 have hb0 := hs.2.1
 have hH := (f5_ hs.1).2
 have hw : IntKind.i64.wrap ((bq_ s).deep + 1) = (bq_ s).deep + 1 := bt_ (by omega) (by omega)
 have hnv : cw_ (b3_ s) = true → hx_ (b3_ s) = .i .i64 (b9_ (b3_ s)) := fun h => by simp [hx_, h]
 have LB : s.left ≠ [] → ACall En 171 [.pt 0 3 0 0, .i .i64 ((1 : Nat) : Int)] [rsB (HS s)] [.ag (ttE.O 1 (ce_ m 1 (HS s)).1)] (rsB (ce_ m 1 (HS s)).2 :: ttE.B 1 (ce_ m 1 (HS s)).1) := fun h => ihL m (by omega) (by omega) 1 (HS s) (by omega) (ke_ hs h) (by have := d4_ h; show 10 * (bq_ s).left.length + 10 - 1 ≤ m; omega)
 have hp := e8_
 have hHP := HP_N m s
 have hM : s.left.length ≤ 1000000 := by omega
 refine c4_ (fn := Tryz.f206)  Tryz.func206 rfl rfl (by simp) fun C => ?_
 rw [bb_]
 simp only [Tryz.ntmps206, T7_, List.length_nil, Nat.reduceAdd, Nat.reduceSub, List.replicate_succ, List.replicate_zero, List.cons_append, List.nil_append, bl_]
 refine .seq (.rgn [] (by simp only [go_sem, seval, bc_, bsN, ao_, ax_, hw, hp, au_, aj_, ae_, ac_, ai_, ag_, ad_, ak_, af_, a7_, a3_, bd_, a8_, al_]; rfl) ?_ ?_)
 ·(first | trivial | (simp; done) | (and_intros <;> first | trivial | rfl | omega | (simp only [TT.len, List.all_eq_true]; intro x hx; simp only [List.mem_range'_1] at hx; simp [List.mem_range'_1]; omega) | (simp [List.mem_range'_1]; omega)))
 refine .seq (.rgn [] (by simp only [go_sem, seval, bc_, bsN, ao_, ax_, hw, hp, au_, aj_, ae_, ac_, ai_, ag_, ad_, ak_, af_, a7_, a3_, bd_, a8_, al_]; rfl) ?_ ?_)
 ·(first | trivial | (simp; done) | (and_intros <;> first | trivial | rfl | omega | (simp only [TT.len, List.all_eq_true]; intro x hx; simp only [List.mem_range'_1] at hx; simp [List.mem_range'_1]; omega) | (simp [List.mem_range'_1]; omega)))
 refine .seq (.rgn [cu_ [0] [] (gf_ s (by omega))] (by simp only [go_sem, seval, bc_, bsN, ao_, ax_, hw, hp, au_, aj_, ae_, ac_, ai_, ag_, ad_, ak_, af_, a7_, a3_, bd_, a8_, al_]; rfl) ?_ ?_)
 ·(first | trivial | (simp; done) | (and_intros <;> first | trivial | rfl | omega | (simp only [TT.len, List.all_eq_true]; intro x hx; simp only [List.mem_range'_1] at hx; simp [List.mem_range'_1]; omega) | (simp [List.mem_range'_1]; omega)))
 refine .seq (.rgn [bj_ (m5_ (b3_ s) hH)] (by simp only [go_sem, seval, bc_, bsN, ao_, ax_, hw, hp, au_, aj_, ae_, ac_, ai_, ag_, ad_, ak_, af_, a7_, a3_, bd_, a8_, al_]; rfl) ?_ ?_)
 ·exact ⟨cf_ _, vl_ _⟩
 refine .seqJ (fun q2 : E × RS => ⟨[.pt 0 3 0 0, .no, .pt 12 4 0 0, .pt 13 4 0 0, .no, .no, .no, .no, .no, .no, .no, .no, .no, .no, .no, .no, .no, .no, .no, .no, .no, .no, .no, .no, .no, .no, .no, .no, .no, .no, .no, .no, .no, .no, .no, .no, .no, .no, .no, .no, .no, .no, .no, .no, .no, .no, .no, .no, .no, .no, .no, .no, .no, .no, .no, .no, .no, .no, .no, .no, .no, .no, .no, .no, .no, .no, .no, .no, .no, .no, .no, .no, .no, .no, .no, .no, .no, .no, .no, .no], be_ ((0, rsB q2.2) :: (12, ⟨48, 4, [[.i .i64 0, .i .i64 0, .s [], .sl true []]]⟩) :: (13, ⟨48, 4, [ttE.O (1000 + s.left.length) q2.1]⟩) :: bl_ (1000 + s.left.length) (ttE.B (1000 + s.left.length) q2.1)), us (12 :: 13 :: List.range' (1000 + s.left.length) (ttE.N q2.1))⟩) (fun q2 : E × RS => dx_ (m + 2) s = asR q2.2 q2.1 ∧ HX s.left.length q2) ?_ (fun q2 hJ => ?_)
 ·refine .block (.seq (.rgn [] (by simp only [go_sem, seval, bc_, bsN, ao_, ax_, hw, hp, au_, aj_, ae_, ac_, ai_, ag_, ad_, ak_, af_, a7_, a3_, bd_, a8_, al_]; rfl) ?_ ?_))
  ·(first | trivial | (simp; done) | (and_intros <;> first | trivial | rfl | omega | (simp only [TT.len, List.all_eq_true]; intro x hx; simp only [List.mem_range'_1] at hx; simp [List.mem_range'_1]; omega) | (simp [List.mem_range'_1]; omega)))
  refine .condB (by simp only [go_sem, seval, bc_, bsN, ao_, ax_, hw, hp, au_, aj_, ae_, ac_, ai_, ag_, ad_, ak_, af_, a7_, a3_, bd_, a8_, al_]; rfl) (by simp only [go_sem, seval, bc_, bsN, ao_, ax_, hw, hp, au_, aj_, ae_, ac_, ai_, ag_, ad_, ak_, af_, a7_, a3_, bd_, a8_, al_]) (fun h17 => ?_) (fun h17 => ?_)
  ·refine .seq (.rgn [] (by simp only [go_sem, seval, bc_, bsN, ao_, ax_, hw, hp, au_, aj_, ae_, ac_, ai_, ag_, ad_, ak_, af_, a7_, a3_, bd_, a8_, al_]; rfl) ?_ ?_)
   ·(first | trivial | (simp; done) | (and_intros <;> first | trivial | rfl | omega | (simp only [TT.len, List.all_eq_true]; intro x hx; simp only [List.mem_range'_1] at hx; simp [List.mem_range'_1]; omega) | (simp [List.mem_range'_1]; omega)))
   refine .seq (.rgn [] (by simp only [go_sem, seval, bc_, bsN, ao_, ax_, hw, hp, au_, aj_, ae_, ac_, ai_, ag_, ad_, ak_, af_, a7_, a3_, bd_, a8_, al_]; rfl) ?_ ?_)
   ·(first | trivial | (simp; done) | (and_intros <;> first | trivial | rfl | omega | (simp only [TT.len, List.all_eq_true]; intro x hx; simp only [List.mem_range'_1] at hx; simp [List.mem_range'_1]; omega) | (simp [List.mem_range'_1]; omega)))
   refine .seqJ (fun q : E × RS => ⟨[.pt 0 3 0 0, .no, .pt 12 4 0 0, .pt 13 4 0 0, .no, .no, .no, .no, .no, .no, .no, .no, .no, .no, .no, .no, .no, .no, .no, .no, .no, .no, .no, .no, .no, .no, .no, .no, .no, .no, .no, .no, .no, .no, .no, .no, .no, .no, .no, .no, .no, .no, .no, .no, .no, .no, .no, .no, .no, .no, .no, .no, .no, .no, .no, .no, .no, .no, .no, .no, .no, .no, .no, .no, .no, .no, .no, .no, .no, .no, .no, .no, .no, .no, .no, .no, .no, .no, .no, .no], be_ ((0, rsB q.2) :: (12, ⟨48, 4, [[.i .i64 0, .i .i64 0, .s [], .sl true []]]⟩) :: (13, ⟨48, 4, [ttE.O (1000 + s.left.length) q.1]⟩) :: bl_ (1000 + s.left.length) (ttE.B (1000 + s.left.length) q.1)), us (12 :: 13 :: List.range' (1000 + s.left.length) (ttE.N q.1))⟩) (fun q : E × RS => q = HP m s ∧ HX s.left.length q) ?_ (fun q hJ => ?_)
   ·refine .seq (.rgn [] (by simp only [go_sem, seval, bc_, bsN, ao_, ax_, hw, hp, au_, aj_, ae_, ac_, ai_, ag_, ad_, ak_, af_, a7_, a3_, bd_, a8_, al_]; rfl) ?_ ?_)
    ·(first | trivial | (simp; done) | (and_intros <;> first | trivial | rfl | omega | (simp only [TT.len, List.all_eq_true]; intro x hx; simp only [List.mem_range'_1] at hx; simp [List.mem_range'_1]; omega) | (simp [List.mem_range'_1]; omega)))
    refine .condB (by simp only [go_sem, seval, bc_, bsN, ao_, ax_, hw, hp, au_, aj_, ae_, ac_, ai_, ag_, ad_, ak_, af_, a7_, a3_, bd_, a8_, al_]; rfl) (by simp only [go_sem, seval, bc_, bsN, ao_, ax_, hw, hp, au_, aj_, ae_, ac_, ai_, ag_, ad_, ak_, af_, a7_, a3_, bd_, a8_, al_]) (fun h45 => ?_) (fun h45 => ?_)
    ·refine .rgn [bc_ 0 (1000 + s.left.length) (LB (h1_ (by simp at h17; rw [h17]; simp))) (ttE.segP 0 (1000 + s.left.length) _ _ (by omega) (hp _))] (by simp only [go_sem, seval, bc_, bsN, ao_, ax_, hw, hp, au_, aj_, ae_, ac_, ai_, ag_, ad_, ak_, af_, a7_, a3_, bd_, a8_, al_]; rfl) ?_ ?_
     ·have b4 := @aah_ m 1 (HS s) (ke_ hs (h1_ (by simp at h17; rw [h17]; simp))); and_intros <;> first | trivial | rfl | omega | (simp only [TT.len, List.all_eq_true]; intro x hx; simp only [List.mem_range'_1] at hx; simp [List.mem_range'_1]; omega) | (simp [List.mem_range'_1]; omega)
     refine Exists.intro (HP m s) ⟨?_, ?_⟩
     ·exact ⟨rfl, m3_ hs (h1_ (by simp at h17; rw [h17]; simp)) m, hHP.2, hHP.1⟩
     exact Can.weak (Weak.lit (by simp only [go_sem, seval, bc_, bsN, ao_, ax_, hw, hp, au_, aj_, ae_, ac_, ai_, ag_, ad_, ak_, af_, a7_, a3_, bd_, a8_, al_, a2_, leV, az_, a0_, V.inn, us, T9_, Ta_]) (by simp only [go_sem, seval, bc_, bsN, ao_, ax_, hw, hp, au_, aj_, ae_, ac_, ai_, ag_, ad_, ak_, af_, a7_, a3_, bd_, a8_, al_, a2_, leV, az_, a0_, V.inn, us, T9_, Ta_]) (by simp only [go_sem, seval, bc_, bsN, ao_, ax_, hw, hp, au_, aj_, ae_, ac_, ai_, ag_, ad_, ak_, af_, a7_, a3_, bd_, a8_, al_, a2_, leV, az_, a0_, V.inn, us, T9_, Ta_] <;> (first | (rw [rw_ h45]; exact ⟨rfl, rfl, fr_ (cn_ _), dr_ (by decide) (by decide)⟩) | (rw [se_ h45]; exact ⟨rfl, rfl, fr_ (cn_ _), dz_ (by decide) (by decide)⟩))))
    ·refine .skip ?_
     refine Exists.intro (HP m s) ⟨?_, ?_⟩
     ·exact ⟨rfl, m3_ hs (h1_ (by simp at h17; rw [h17]; simp)) m, hHP.2, hHP.1⟩
     refine Can.trans (Can.ownCell 13 3 (1000 + s.left.length) 48 4 (by simp [us, List.mem_range'_1] <;> omega) (by simp only [go_sem, seval, bc_, bsN, ao_, ax_, hw, hp, au_, aj_, ae_, ac_, ai_, ag_, ad_, ak_, af_, a7_, a3_, bd_, a8_, al_] <;> rfl) (by simp only [go_sem, seval, bc_, bsN, ao_, ax_, hw, hp, au_, aj_, ae_, ac_, ai_, ag_, ad_, ak_, af_, a7_, a3_, bd_, a8_, al_] <;> rfl) (by simp only [go_sem, seval, bc_, bsN, ao_, ax_, hw, hp, au_, aj_, ae_, ac_, ai_, ag_, ad_, ak_, af_, a7_, a3_, bd_, a8_, al_] <;> rfl) (by simp only [go_sem, seval, bc_, bsN, ao_, ax_, hw, hp, au_, aj_, ae_, ac_, ai_, ag_, ad_, ak_, af_, a7_, a3_, bd_, a8_, al_] <;> rfl)) ?_
     exact Can.weak (Weak.lit (by simp only [go_sem, seval, bc_, bsN, ao_, ax_, hw, hp, au_, aj_, ae_, ac_, ai_, ag_, ad_, ak_, af_, a7_, a3_, bd_, a8_, al_, a2_, leV, az_, a0_, V.inn, us, T9_, Ta_]) (by simp only [go_sem, seval, bc_, bsN, ao_, ax_, hw, hp, au_, aj_, ae_, ac_, ai_, ag_, ad_, ak_, af_, a7_, a3_, bd_, a8_, al_, a2_, leV, az_, a0_, V.inn, us, T9_, Ta_]) (by simp only [go_sem, seval, bc_, bsN, ao_, ax_, hw, hp, au_, aj_, ae_, ac_, ai_, ag_, ad_, ak_, af_, a7_, a3_, bd_, a8_, al_, a2_, leV, az_, a0_, V.inn, us, T9_, Ta_] <;> (first | (rw [rw_ h45]; exact ⟨rfl, rfl, fr_ (cn_ _), dr_ (by decide) (by decide)⟩) | (rw [se_ h45]; exact ⟨rfl, rfl, fr_ (cn_ _), dz_ (by decide) (by decide)⟩))))
   cases hb : q.2.bad
   ·refine .rgn [cu_ [0] [] (gf_ q.2 (by have := (hJ.2.1 : okS2 q.2).2.2; have := (hJ.2.1 : okS2 q.2).2.1; omega))] (by simp only [go_sem, seval, bc_, bsN, ao_, ax_, hw, hp, au_, aj_, ae_, ac_, ai_, ag_, ad_, ak_, af_, a7_, a3_, bd_, a8_, al_, hb]; rfl) ?_ ?_
    ·(first | trivial | (simp; done) | (simp [hb]; done))
    refine Exists.intro (HQ q) ⟨?_, ?_⟩
    ·first | exact ⟨cc_ (by rw [show b3_ s = [40] from by simpa using h17, e7_, hJ.1]), hJ.2.hq⟩ | exact ⟨cc_ (d9_ (by simpa using h17) (by simpa using h60)), HX.leaf h1⟩ | exact ⟨cc_ (dv_ (by simpa using h17) (by simpa using h60) (by simpa using h64)), HX.leaf h1⟩ | exact ⟨cc_ (ej_ (by simpa using h17) (by simpa using h60) (by simpa using h64)), HX.bad h1⟩
    exact Can.weak (Weak.lit (by simp only [go_sem, seval, bc_, bsN, ao_, ax_, hw, hp, au_, aj_, ae_, ac_, ai_, ag_, ad_, ak_, af_, a7_, a3_, bd_, a8_, al_, a2_, leV, az_, a0_, V.inn, us, T9_, Ta_]) (by simp only [go_sem, seval, bc_, bsN, ao_, ax_, hw, hp, au_, aj_, ae_, ac_, ai_, ag_, ad_, ak_, af_, a7_, a3_, bd_, a8_, al_, a2_, leV, az_, a0_, V.inn, us, T9_, Ta_]) (by simp only [go_sem, seval, bc_, bsN, ao_, ax_, hw, hp, au_, aj_, ae_, ac_, ai_, ag_, ad_, ak_, af_, a7_, a3_, bd_, a8_, al_, a2_, leV, az_, a0_, V.inn, us, T9_, Ta_] <;> (first | (rw [show HQ q = (q.1, { bq_ q.2 with bad := !(b3_ q.2 == [41]) }) from by simp [HQ, hb]]; exact ⟨rfl, rfl, fr_ (cn_ _), dr_ (by decide) (by decide)⟩) | (rw [show HQ q = q from by simp [HQ, hb]]; exact ⟨by simp [hb], rfl, fr_ (cn_ _), dr_ (by decide) (by decide)⟩) | exact ⟨rfl, fr_ (cn_ _), dz_ (by decide) (by decide)⟩ | exact ⟨rfl, rfl, fr_ (cn_ _), dz_ (by decide) (by decide)⟩)))
   ·refine .rgn [cu_ [0] [] (gf_ q.2 (by have := (hJ.2.1 : okS2 q.2).2.2; have := (hJ.2.1 : okS2 q.2).2.1; omega))] (by simp only [go_sem, seval, bc_, bsN, ao_, ax_, hw, hp, au_, aj_, ae_, ac_, ai_, ag_, ad_, ak_, af_, a7_, a3_, bd_, a8_, al_, hb]; rfl) ?_ ?_
    ·(first | trivial | (simp; done) | (simp [hb]; done))
    refine Exists.intro (HQ q) ⟨?_, ?_⟩
    ·first | exact ⟨cc_ (by rw [show b3_ s = [40] from by simpa using h17, e7_, hJ.1]), hJ.2.hq⟩ | exact ⟨cc_ (d9_ (by simpa using h17) (by simpa using h60)), HX.leaf h1⟩ | exact ⟨cc_ (dv_ (by simpa using h17) (by simpa using h60) (by simpa using h64)), HX.leaf h1⟩ | exact ⟨cc_ (ej_ (by simpa using h17) (by simpa using h60) (by simpa using h64)), HX.bad h1⟩
    exact Can.weak (Weak.lit (by simp only [go_sem, seval, bc_, bsN, ao_, ax_, hw, hp, au_, aj_, ae_, ac_, ai_, ag_, ad_, ak_, af_, a7_, a3_, bd_, a8_, al_, a2_, leV, az_, a0_, V.inn, us, T9_, Ta_]) (by simp only [go_sem, seval, bc_, bsN, ao_, ax_, hw, hp, au_, aj_, ae_, ac_, ai_, ag_, ad_, ak_, af_, a7_, a3_, bd_, a8_, al_, a2_, leV, az_, a0_, V.inn, us, T9_, Ta_]) (by simp only [go_sem, seval, bc_, bsN, ao_, ax_, hw, hp, au_, aj_, ae_, ac_, ai_, ag_, ad_, ak_, af_, a7_, a3_, bd_, a8_, al_, a2_, leV, az_, a0_, V.inn, us, T9_, Ta_] <;> (first | (rw [show HQ q = (q.1, { bq_ q.2 with bad := !(b3_ q.2 == [41]) }) from by simp [HQ, hb]]; exact ⟨rfl, rfl, fr_ (cn_ _), dr_ (by decide) (by decide)⟩) | (rw [show HQ q = q from by simp [HQ, hb]]; exact ⟨by simp [hb], rfl, fr_ (cn_ _), dr_ (by decide) (by decide)⟩) | exact ⟨rfl, fr_ (cn_ _), dz_ (by decide) (by decide)⟩ | exact ⟨rfl, rfl, fr_ (cn_ _), dz_ (by decide) (by decide)⟩)))
  ·refine .seq (.rgn [] (by simp only [go_sem, seval, bc_, bsN, ao_, ax_, hw, hp, au_, aj_, ae_, ac_, ai_, ag_, ad_, ak_, af_, a7_, a3_, bd_, a8_, al_]; rfl) ?_ ?_)
   ·(first | trivial | (simp; done) | (and_intros <;> first | trivial | rfl | omega | (simp only [TT.len, List.all_eq_true]; intro x hx; simp only [List.mem_range'_1] at hx; simp [List.mem_range'_1]; omega) | (simp [List.mem_range'_1]; omega)))
   refine .condB (by simp only [go_sem, seval, bc_, bsN, ao_, ax_, hw, hp, au_, aj_, ae_, ac_, ai_, ag_, ad_, ak_, af_, a7_, a3_, bd_, a8_, al_]; rfl) (by simp only [go_sem, seval, bc_, bsN, ao_, ax_, hw, hp, au_, aj_, ae_, ac_, ai_, ag_, ad_, ak_, af_, a7_, a3_, bd_, a8_, al_]) (fun h60 => ?_) (fun h60 => ?_)
   ·refine .rgn [] (by simp only [go_sem, seval, bc_, bsN, ao_, ax_, hw, hp, au_, aj_, ae_, ac_, ai_, ag_, ad_, ak_, af_, a7_, a3_, bd_, a8_, al_, hnv (by simpa using h60)]; rfl) ?_ ?_
    ·(first | trivial | (simp; done) | (and_intros <;> first | trivial | rfl | omega | (simp only [TT.len, List.all_eq_true]; intro x hx; simp only [List.mem_range'_1] at hx; simp [List.mem_range'_1]; omega) | (simp [List.mem_range'_1]; omega)))
    refine Exists.intro ((.mk 1 (b9_ (b3_ s)) [] [], bq_ s)) ⟨?_, ?_⟩
    ·first | exact ⟨cc_ (by rw [show b3_ s = [40] from by simpa using h17, e7_, hJ.1]), hJ.2.hq⟩ | exact ⟨cc_ (d9_ (by simpa using h17) (by simpa using h60)), HX.leaf h1⟩ | exact ⟨cc_ (dv_ (by simpa using h17) (by simpa using h60) (by simpa using h64)), HX.leaf h1⟩ | exact ⟨cc_ (ej_ (by simpa using h17) (by simpa using h60) (by simpa using h64)), HX.bad h1⟩
    refine Can.trans (Can.ownCell 13 3 (1000 + s.left.length) 48 4 (by simp [us, List.mem_range'_1] <;> omega) (by simp only [go_sem, seval, bc_, bsN, ao_, ax_, hw, hp, au_, aj_, ae_, ac_, ai_, ag_, ad_, ak_, af_, a7_, a3_, bd_, a8_, al_] <;> rfl) (by simp only [go_sem, seval, bc_, bsN, ao_, ax_, hw, hp, au_, aj_, ae_, ac_, ai_, ag_, ad_, ak_, af_, a7_, a3_, bd_, a8_, al_] <;> rfl) (by simp only [go_sem, seval, bc_, bsN, ao_, ax_, hw, hp, au_, aj_, ae_, ac_, ai_, ag_, ad_, ak_, af_, a7_, a3_, bd_, a8_, al_] <;> rfl) (by simp only [go_sem, seval, bc_, bsN, ao_, ax_, hw, hp, au_, aj_, ae_, ac_, ai_, ag_, ad_, ak_, af_, a7_, a3_, bd_, a8_, al_] <;> rfl)) ?_
    exact Can.weak (Weak.lit (by simp only [go_sem, seval, bc_, bsN, ao_, ax_, hw, hp, au_, aj_, ae_, ac_, ai_, ag_, ad_, ak_, af_, a7_, a3_, bd_, a8_, al_, a2_, leV, az_, a0_, V.inn, us, T9_, Ta_]) (by simp only [go_sem, seval, bc_, bsN, ao_, ax_, hw, hp, au_, aj_, ae_, ac_, ai_, ag_, ad_, ak_, af_, a7_, a3_, bd_, a8_, al_, a2_, leV, az_, a0_, V.inn, us, T9_, Ta_]) (by simp only [go_sem, seval, bc_, bsN, ao_, ax_, hw, hp, au_, aj_, ae_, ac_, ai_, ag_, ad_, ak_, af_, a7_, a3_, bd_, a8_, al_, a2_, leV, az_, a0_, V.inn, us, T9_, Ta_] <;> (first | (rw [show HQ q = (q.1, { bq_ q.2 with bad := !(b3_ q.2 == [41]) }) from by simp [HQ, hb]]; exact ⟨rfl, rfl, fr_ (cn_ _), dr_ (by decide) (by decide)⟩) | (rw [show HQ q = q from by simp [HQ, hb]]; exact ⟨by simp [hb], rfl, fr_ (cn_ _), dr_ (by decide) (by decide)⟩) | exact ⟨rfl, fr_ (cn_ _), dz_ (by decide) (by decide)⟩ | exact ⟨rfl, rfl, fr_ (cn_ _), dz_ (by decide) (by decide)⟩)))
   ·refine .seq (.rgn [bj_ (ks_ (b3_ s) (by omega))] (by simp only [go_sem, seval, bc_, bsN, ao_, ax_, hw, hp, au_, aj_, ae_, ac_, ai_, ag_, ad_, ak_, af_, a7_, a3_, bd_, a8_, al_]; rfl) ?_ ?_)
    ·(first | trivial | (simp; done) | (and_intros <;> first | trivial | rfl | omega | (simp only [TT.len, List.all_eq_true]; intro x hx; simp only [List.mem_range'_1] at hx; simp [List.mem_range'_1]; omega) | (simp [List.mem_range'_1]; omega)))
    refine .condB (by simp only [go_sem, seval, bc_, bsN, ao_, ax_, hw, hp, au_, aj_, ae_, ac_, ai_, ag_, ad_, ak_, af_, a7_, a3_, bd_, a8_, al_]; rfl) (by simp only [go_sem, seval, bc_, bsN, ao_, ax_, hw, hp, au_, aj_, ae_, ac_, ai_, ag_, ad_, ak_, af_, a7_, a3_, bd_, a8_, al_]) (fun h64 => ?_) (fun h64 => ?_)
    ·refine .rgn [] (by simp only [go_sem, seval, bc_, bsN, ao_, ax_, hw, hp, au_, aj_, ae_, ac_, ai_, ag_, ad_, ak_, af_, a7_, a3_, bd_, a8_, al_]; rfl) ?_ ?_
     ·(first | trivial | (simp; done) | (and_intros <;> first | trivial | rfl | omega | (simp only [TT.len, List.all_eq_true]; intro x hx; simp only [List.mem_range'_1] at hx; simp [List.mem_range'_1]; omega) | (simp [List.mem_range'_1]; omega)))
     refine Exists.intro ((.mk 2 0 (b3_ s) [], bq_ s)) ⟨?_, ?_⟩
     ·first | exact ⟨cc_ (by rw [show b3_ s = [40] from by simpa using h17, e7_, hJ.1]), hJ.2.hq⟩ | exact ⟨cc_ (d9_ (by simpa using h17) (by simpa using h60)), HX.leaf h1⟩ | exact ⟨cc_ (dv_ (by simpa using h17) (by simpa using h60) (by simpa using h64)), HX.leaf h1⟩ | exact ⟨cc_ (ej_ (by simpa using h17) (by simpa using h60) (by simpa using h64)), HX.bad h1⟩
     refine Can.trans (Can.ownCell 13 3 (1000 + s.left.length) 48 4 (by simp [us, List.mem_range'_1] <;> omega) (by simp only [go_sem, seval, bc_, bsN, ao_, ax_, hw, hp, au_, aj_, ae_, ac_, ai_, ag_, ad_, ak_, af_, a7_, a3_, bd_, a8_, al_] <;> rfl) (by simp only [go_sem, seval, bc_, bsN, ao_, ax_, hw, hp, au_, aj_, ae_, ac_, ai_, ag_, ad_, ak_, af_, a7_, a3_, bd_, a8_, al_] <;> rfl) (by simp only [go_sem, seval, bc_, bsN, ao_, ax_, hw, hp, au_, aj_, ae_, ac_, ai_, ag_, ad_, ak_, af_, a7_, a3_, bd_, a8_, al_] <;> rfl) (by simp only [go_sem, seval, bc_, bsN, ao_, ax_, hw, hp, au_, aj_, ae_, ac_, ai_, ag_, ad_, ak_, af_, a7_, a3_, bd_, a8_, al_] <;> rfl)) ?_
     exact Can.weak (Weak.lit (by simp only [go_sem, seval, bc_, bsN, ao_, ax_, hw, hp, au_, aj_, ae_, ac_, ai_, ag_, ad_, ak_, af_, a7_, a3_, bd_, a8_, al_, a2_, leV, az_, a0_, V.inn, us, T9_, Ta_]) (by simp only [go_sem, seval, bc_, bsN, ao_, ax_, hw, hp, au_, aj_, ae_, ac_, ai_, ag_, ad_, ak_, af_, a7_, a3_, bd_, a8_, al_, a2_, leV, az_, a0_, V.inn, us, T9_, Ta_]) (by simp only [go_sem, seval, bc_, bsN, ao_, ax_, hw, hp, au_, aj_, ae_, ac_, ai_, ag_, ad_, ak_, af_, a7_, a3_, bd_, a8_, al_, a2_, leV, az_, a0_, V.inn, us, T9_, Ta_] <;> (first | (rw [show HQ q = (q.1, { bq_ q.2 with bad := !(b3_ q.2 == [41]) }) from by simp [HQ, hb]]; exact ⟨rfl, rfl, fr_ (cn_ _), dr_ (by decide) (by decide)⟩) | (rw [show HQ q = q from by simp [HQ, hb]]; exact ⟨by simp [hb], rfl, fr_ (cn_ _), dr_ (by decide) (by decide)⟩) | exact ⟨rfl, fr_ (cn_ _), dz_ (by decide) (by decide)⟩ | exact ⟨rfl, rfl, fr_ (cn_ _), dz_ (by decide) (by decide)⟩)))
    ·refine .rgn [] (by simp only [go_sem, seval, bc_, bsN, ao_, ax_, hw, hp, au_, aj_, ae_, ac_, ai_, ag_, ad_, ak_, af_, a7_, a3_, bd_, a8_, al_]; rfl) ?_ ?_
     ·(first | trivial | (simp; done) | (and_intros <;> first | trivial | rfl | omega | (simp only [TT.len, List.all_eq_true]; intro x hx; simp only [List.mem_range'_1] at hx; simp [List.mem_range'_1]; omega) | (simp [List.mem_range'_1]; omega)))
     refine Exists.intro ((E0, { bq_ s with bad := true })) ⟨?_, ?_⟩
     ·first | exact ⟨cc_ (by rw [show b3_ s = [40] from by simpa using h17, e7_, hJ.1]), hJ.2.hq⟩ | exact ⟨cc_ (d9_ (by simpa using h17) (by simpa using h60)), HX.leaf h1⟩ | exact ⟨cc_ (dv_ (by simpa using h17) (by simpa using h60) (by simpa using h64)), HX.leaf h1⟩ | exact ⟨cc_ (ej_ (by simpa using h17) (by simpa using h60) (by simpa using h64)), HX.bad h1⟩
     refine Can.trans (Can.ownCell 13 3 (1000 + s.left.length) 48 4 (by simp [us, List.mem_range'_1] <;> omega) (by simp only [go_sem, seval, bc_, bsN, ao_, ax_, hw, hp, au_, aj_, ae_, ac_, ai_, ag_, ad_, ak_, af_, a7_, a3_, bd_, a8_, al_] <;> rfl) (by simp only [go_sem, seval, bc_, bsN, ao_, ax_, hw, hp, au_, aj_, ae_, ac_, ai_, ag_, ad_, ak_, af_, a7_, a3_, bd_, a8_, al_] <;> rfl) (by simp only [go_sem, seval, bc_, bsN, ao_, ax_, hw, hp, au_, aj_, ae_, ac_, ai_, ag_, ad_, ak_, af_, a7_, a3_, bd_, a8_, al_] <;> rfl) (by simp only [go_sem, seval, bc_, bsN, ao_, ax_, hw, hp, au_, aj_, ae_, ac_, ai_, ag_, ad_, ak_, af_, a7_, a3_, bd_, a8_, al_] <;> rfl)) ?_
     exact Can.weak (Weak.lit (by simp only [go_sem, seval, bc_, bsN, ao_, ax_, hw, hp, au_, aj_, ae_, ac_, ai_, ag_, ad_, ak_, af_, a7_, a3_, bd_, a8_, al_, a2_, leV, az_, a0_, V.inn, us, T9_, Ta_]) (by simp only [go_sem, seval, bc_, bsN, ao_, ax_, hw, hp, au_, aj_, ae_, ac_, ai_, ag_, ad_, ak_, af_, a7_, a3_, bd_, a8_, al_, a2_, leV, az_, a0_, V.inn, us, T9_, Ta_]) (by simp only [go_sem, seval, bc_, bsN, ao_, ax_, hw, hp, au_, aj_, ae_, ac_, ai_, ag_, ad_, ak_, af_, a7_, a3_, bd_, a8_, al_, a2_, leV, az_, a0_, V.inn, us, T9_, Ta_] <;> (first | (rw [show HQ q = (q.1, { bq_ q.2 with bad := !(b3_ q.2 == [41]) }) from by simp [HQ, hb]]; exact ⟨rfl, rfl, fr_ (cn_ _), dr_ (by decide) (by decide)⟩) | (rw [show HQ q = q from by simp [HQ, hb]]; exact ⟨by simp [hb], rfl, fr_ (cn_ _), dr_ (by decide) (by decide)⟩) | exact ⟨rfl, fr_ (cn_ _), dz_ (by decide) (by decide)⟩ | exact ⟨rfl, rfl, fr_ (cn_ _), dz_ (by decide) (by decide)⟩)))
 refine .seq (.block (.loopK (fun p : Nat × E × RS => ⟨[.pt 0 3 0 0, .no, .pt 12 4 0 0, .pt 13 4 0 0, .no, .no, .no, .no, .no, .no, .no, .no, .no, .no, .no, .no, .no, .no, .no, .no, .no, .no, .no, .no, .no, .no, .no, .no, .no, .no, .no, .no, .no, .no, .no, .no, .no, .no, .no, .no, .no, .no, .no, .no, .no, .no, .no, .no, .no, .no, .no, .no, .no, .no, .no, .no, .no, .no, .no, .no, .no, .no, .no, .no, .no, .no, .no, .no, .no, .no, .no, .no, .no, .no, .no, .no, .no, .no, .no, .no], be_ ((0, rsB p.2.2) :: (12, ⟨48, 4, [[.i .i64 0, .i .i64 0, .s [], .sl true []]]⟩) :: (13, ⟨48, 4, [ttE.O (1000 + p.1) p.2.1]⟩) :: bl_ (1000 + p.1) (ttE.B (1000 + p.1) p.2.1)), us (12 :: 13 :: List.range' (1000 + p.1) (ttE.N p.2.1))⟩) (fun p : Nat × E × RS => asR q2.2 q2.1 = asR p.2.2 p.2.1 ∧ (okS2 p.2.2 ∧ p.2.2.left.length ≤ p.1 ∧ p.1 ≤ s.left.length ∧ ttE.N p.2.1 + 3 * p.2.2.left.length ≤ 3 * s.left.length + 1)) (fun p : Nat × E × RS => p.2.2.left.length) ((s.left.length, q2.1, q2.2)) ?_ ?_ (fun p hI => ?_)))
 ·exact ⟨rfl, hJ.2.1, hJ.2.2.1, Nat.le_refl _, hJ.2.2.2⟩
 ·exact Can.weak (Weak.lit (by simp only [go_sem, seval, bc_, bsN, ao_, ax_, hw, hp, au_, aj_, ae_, ac_, ai_, ag_, ad_, ak_, af_, a7_, a3_, bd_, a8_, al_, a2_, leV, az_, a0_, V.inn, us, T9_, Ta_]) (by simp only [go_sem, seval, bc_, bsN, ao_, ax_, hw, hp, au_, aj_, ae_, ac_, ai_, ag_, ad_, ak_, af_, a7_, a3_, bd_, a8_, al_, a2_, leV, az_, a0_, V.inn, us, T9_, Ta_]) (by simp only [go_sem, seval, bc_, bsN, ao_, ax_, hw, hp, au_, aj_, ae_, ac_, ai_, ag_, ad_, ak_, af_, a7_, a3_, bd_, a8_, al_, a2_, leV, az_, a0_, V.inn, us, T9_, Ta_] <;> (exact ⟨fr_ (cn_ _), dr_ (by decide) (by decide)⟩)))
 refine .seq (.seq (.rgn [cu_ [0] [] (at_a p.2.2 (by have := hI.2.1.2.2; have := hI.2.1.2.1; omega))] (by simp only [go_sem, seval, bc_, bsN, ao_, ax_, hw, hp, au_, aj_, ae_, ac_, ai_, ag_, ad_, ak_, af_, a7_, a3_, bd_, a8_, al_]; rfl) ?_ ?_))
 ·(first | trivial | (simp; done) | (and_intros <;> first | trivial | rfl | omega | (simp only [TT.len, List.all_eq_true]; intro x hx; simp only [List.mem_range'_1] at hx; simp [List.mem_range'_1]; omega) | (simp [List.mem_range'_1]; omega)))
 refine .condB (by simp only [go_sem, seval, bc_, bsN, ao_, ax_, hw, hp, au_, aj_, ae_, ac_, ai_, ag_, ad_, ak_, af_, a7_, a3_, bd_, a8_, al_]; rfl) (by simp only [go_sem, seval, bc_, bsN, ao_, ax_, hw, hp, au_, aj_, ae_, ac_, ai_, ag_, ad_, ak_, af_, a7_, a3_, bd_, a8_, al_]) (fun h71 => ?_) (fun h71 => ?_)
 ·refine .skip (.block (.seq (.rgn [cu_ [0] [] (gf_ p.2.2 (by have := hI.2.1.2.2; have := hI.2.1.2.1; omega))] (by simp only [go_sem, seval, bc_, bsN, ao_, ax_, hw, hp, au_, aj_, ae_, ac_, ai_, ag_, ad_, ak_, af_, a7_, a3_, bd_, a8_, al_]; rfl) ?_ ?_)))
  ·(first | trivial | (simp; done) | (and_intros <;> first | trivial | rfl | omega | (simp only [TT.len, List.all_eq_true]; intro x hx; simp only [List.mem_range'_1] at hx; simp [List.mem_range'_1]; omega) | (simp [List.mem_range'_1]; omega)))
  refine .rgnDS [77] [cu_ [0] [] (gf_ (bq_ p.2.2) (by have := hI.2.1.2.2; have := hI.2.1.2.1; have := cv_ p.2.2; omega)), bsN En (1000 + (p.1 - 1))] enM (by simp only [go_sem, seval, bc_, bsN, ao_, ax_, hw, hp, au_, aj_, ae_, ac_, ai_, ag_, ad_, ak_, af_, a7_, a3_, bd_, a8_, al_, rh_ (show 1 ≤ p.1 by have := d4_ (jz_ (e := p.2.1) h71).2; have := hI.2.2.1; omega)]; rfl) (by exact w0_ 1000 3 (fun j i hj hi => by (obtain _ | _ | _ | _ | _ | _ | j := j) <;> first | exact absurd rfl hj | (simp at hi; done) | (simp only [List.map, List.getElem?_cons_zero, List.getElem?_cons_succ, Option.some.injEq] at hi; subst hi; refine ⟨?_, ?_⟩ <;> simp [cx_])) (fun i hi => by simp only [List.map, List.getElem?_cons_zero, List.getElem?_cons_succ, Option.some.injEq] at hi; subst hi; refine ⟨?_, ?_⟩ <;> (intro x hx; simp [cx_] at hx; omega)) rfl) ?_ ?_
  ·have b1 := d4_ (jz_ (e := p.2.1) h71).2; have b2 := hI.2.2.1; have b3 := hI.2.2.2.1; have b4 := hI.2.2.2.2; and_intros <;> first | trivial | rfl | omega | (simp only [TT.len, List.all_eq_true]; intro x hx; simp only [List.mem_range'_1] at hx; simp [List.mem_range'_1]; omega) | (simp [List.mem_range'_1]; omega) | (simp; done)
  refine Exists.intro ((p.1 - 1, .mk 4 0 (b3_ (bq_ p.2.2)) [p.2.1], bq_ (bq_ p.2.2))) ⟨?_, ?_, ?_⟩
  ·have q0 := jz_ (e := p.2.1) h71; have q1 := d4_ q0.2; have q2 := cv_ (bq_ p.2.2); exact ⟨by rw [hI.1, q0.1], fa_ (fa_ hI.2.1), by dsimp only; have := hI.2.2.1; omega, by dsimp only; have := hI.2.2.2.1; omega, by dsimp only; rw [p9_]; have := hI.2.2.2.2; omega⟩
  ·have q1 := d4_ (jz_ (e := p.2.1) h71).2; have q2 := cv_ (bq_ p.2.2); dsimp only; omega
  exact Can.weak (Weak.lit (by simp only [go_sem, seval, bc_, bsN, ao_, ax_, hw, hp, au_, aj_, ae_, ac_, ai_, ag_, ad_, ak_, af_, a7_, a3_, bd_, a8_, al_, a2_, leV, az_, a0_, V.inn, us, T9_, Ta_]) (by simp only [go_sem, seval, bc_, bsN, ao_, ax_, hw, hp, au_, aj_, ae_, ac_, ai_, ag_, ad_, ak_, af_, a7_, a3_, bd_, a8_, al_, a2_, leV, az_, a0_, V.inn, us, T9_, Ta_]) (by simp only [go_sem, seval, bc_, bsN, ao_, ax_, hw, hp, au_, aj_, ae_, ac_, ai_, ag_, ad_, ak_, af_, a7_, a3_, bd_, a8_, al_, a2_, leV, az_, a0_, V.inn, us, T9_, Ta_] <;> (exact ⟨rfl, fr_ (cn_ _), yy_ (p := 12) (q := 13) (by decide) (by decide) (by have := d4_ (jz_ (e := p.2.1) h71).2; have := hI.2.2.1; omega)⟩)))
 ·refine .exit (.seq (.rgn [] (by simp only [go_sem, seval, bc_, bsN, ao_, ax_, hw, hp, au_, aj_, ae_, ac_, ai_, ag_, ad_, ak_, af_, a7_, a3_, bd_, a8_, al_]; rfl) ?_ ?_))
  ·(first | trivial | (simp; done) | (and_intros <;> first | trivial | rfl | omega | (simp only [TT.len, List.all_eq_true]; intro x hx; simp only [List.mem_range'_1] at hx; simp [List.mem_range'_1]; omega) | (simp [List.mem_range'_1]; omega)))
  refine .ret ⟨.inr rfl, ?_⟩
  rw [hJ.1, hI.1, ud_ h71]; exact ⟨_, ttE.out_oneP (c := 1000 + p.1) (by simp only [Tryz.results206]; rfl) (by simp only [a4_, bh_, go_sem, seval, bc_, bsN, ao_, ax_, hw, hp, au_, aj_, ae_, ac_, ai_, ag_, ad_, ak_, af_, a7_, a3_, bd_, a8_, al_]) (by simp only [bg_, go_sem, seval, bc_, bsN, ao_, ax_, hw, hp, au_, aj_, ae_, ac_, ai_, ag_, ad_, ak_, af_, a7_, a3_, bd_, a8_, al_] <;> rfl) (by omega) (e8_ _) rfl (fun i b hb => by show be_ _ _ = _; rw [bo_, if_neg (by omega), bo_, if_neg (by omega), bo_, if_neg (by omega)]; exact h3_ hb)⟩
theorem w5_ (n : Nat) : LevO n ∧ z7_ n := by
 induction n using Nat.strongRecOn with
 | ind n ih =>
 refine ⟨?_, ?_⟩
 ·cases n with
  | zero => intro h0 t s ht hs hn; omega
  | succ n => exact ri_ n (fun j hj => (ih j hj).1) (fun j hj => (ih j hj).2)
 ·match n with
  | 0 => intro h0 s hs hn; omega
  | 1 => intro h0 s hs hn; omega
  | m + 2 => exact tx_ m (fun j hj => (ih j hj).1)
end
end Go.Proofs.YtefmbmafdgedmaaGreatDoor
