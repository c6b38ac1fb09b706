/- Lists of pages, marked. Conditions: none. -/
import Derived.Test.YtefmbmafdgedmaaGreatDoorN20
import Derived.Test.YtefmbmafdgedmaaGreatDoorN21
set_option linter.unusedVariables false
set_option linter.unusedSimpArgs false
namespace Go.Proofs.YtefmbmafdgedmaaGreatDoor
section
open Go.RowKit
set_option maxRecDepth 100000
set_option maxHeartbeats 4000000
theorem wa_ (l : List Int) (k : Int) (hl : l.length ≤ 1000000000) (h0 : 0 ≤ k) (h1 : k ≤ 1000000000) : ACall En 75 [.ow 0 1 0 l.length, .i .i64 k] [⟨3, 1, inR l⟩] [.i .i64 (k + l.length)] [⟨3, 1, inR (g8_ k l.length)⟩] := by
 refine ah_ (fn := Tryz.f75) [0] Tryz.func75 rfl rfl (by simp) fun C => ?_
 rw [ar_]
 simp only [Tryz.ntmps75, List.length_cons, List.length_nil, Nat.reduceAdd, Nat.reduceSub, List.replicate_succ, List.replicate_zero, List.cons_append, List.nil_append, bd_]
 refine .seq (.rgn [] (by simp only [go_sem, seval, af_, ac_]; rfl) ?_ ?_)
 ·(first | trivial | (simp; done) | (simp only [decide_eq_true_eq] at h9; simp [af_, by_]; omega))
 refine .seq (.seq (.rgn [] (by simp only [go_sem, seval, af_, ac_]; rfl) ?_ ?_))
 ·(first | trivial | (simp; done) | (simp only [decide_eq_true_eq] at h9; simp [af_, by_]; omega))
 refine .block (.loopK (fun i : Nat => ⟨[.ow 0 1 0 l.length, .i .i64 (k + i), .no, .no, .no, .i .i64 i, .no, .no, .no, .no, .no, .no, .no, .no, .no, .no, .no, .no, .no], aw_ [(0, ⟨3, 1, inR (g8_ k i ++ l.drop i)⟩)], us [0]⟩) (fun i : Nat => i ≤ l.length) (fun i : Nat => l.length - i) (0) ?_ ?_ (fun i hI => ?_))
 ·simp
 ·exact Can.weak (Weak.lit (by simp only [go_sem, seval, af_, ac_, an_, leV, al_, am_, V.inn, us, true_or, or_true] <;> ((try simp))) (by simp only [go_sem, seval, af_, ac_, an_, leV, al_, am_, V.inn, us, true_or, or_true]) (by simp only [go_sem, seval, af_, ac_, an_, leV, al_, am_, V.inn, us, true_or, or_true] <;> ((try simp [g8_]))))
 refine .seq (.seq (.rgn [] (by simp only [go_sem, seval, af_, ac_]; rfl) ?_ ?_))
 ·(first | trivial | (simp; done) | (simp only [decide_eq_true_eq] at h9; simp [af_, by_]; omega))
 refine .condB (by simp only [go_sem, seval, af_, ac_]; rfl) (by simp only [go_sem, seval, af_, ac_]) (fun h9 => ?_) (fun h9 => ?_)
 ·refine .skip (.seq (.block (.seq (.rgn [] (by simp only [go_sem, seval, af_, ac_]; rfl) ?_ ?_))))
  ·(first | trivial | (simp; done) | (simp only [decide_eq_true_eq] at h9; simp [af_, by_]; omega))
  refine .rgn [] (by simp only [go_sem, seval, af_, ac_]; rfl) ?_ ?_
  ·(first | trivial | (simp; done) | (simp only [decide_eq_true_eq] at h9; simp [af_, by_]; omega))
  refine .rgn [] (by simp only [go_sem, seval, af_, ac_]; rfl) ?_ ?_
  ·(first | trivial | (simp; done) | (simp only [decide_eq_true_eq] at h9; simp [af_, by_]; omega))
  refine Exists.intro (i + 1) ⟨?_, ?_, ?_⟩
  ·simp only [decide_eq_true_eq] at h9; omega
  ·simp only [decide_eq_true_eq] at h9; omega
  exact Can.weak (Weak.lit (by simp only [go_sem, seval, af_, ac_, an_, leV, al_, am_, V.inn, us, true_or, or_true] <;> (simp only [decide_eq_true_eq] at h9; exact ⟨by rw [bc_ (by omega) (by omega)]; omega, bc_ (n := ((i + 1 : Nat) : Int)) (by omega) (by omega)⟩)) (by simp only [go_sem, seval, af_, ac_, an_, leV, al_, am_, V.inn, us, true_or, or_true]) (by simp only [go_sem, seval, af_, ac_, an_, leV, al_, am_, V.inn, us, true_or, or_true] <;> (simp only [decide_eq_true_eq] at h9; rw [y6_ (show i < l.length by omega)])))
 ·refine .exit (.seq (.rgn [] (by simp only [go_sem, seval, af_, ac_]; rfl) ?_ ?_))
  ·(first | trivial | (simp; done) | (simp only [decide_eq_true_eq] at h9; simp [af_, by_]; omega))
  refine .ret ⟨.inr rfl, ?_⟩
  exact Out.mem' (by simp only [Tryz.results75]; rfl) (by simp only [aq_, a8_, go_sem, seval, af_, ac_]) (by simp only [a7_, rns, rn, go_sem, seval, af_, ac_] <;> (simp only [decide_eq_false_iff_not] at h9; rw [show (i : Int) = l.length by omega])) (by simp) rfl (by decide) (by simp only [go_sem, seval, af_, ac_]) (by simp only [ay_, go_sem, seval, af_, ac_]) (by simp only [as_, go_sem, seval, af_, ac_] <;> (simp only [decide_eq_false_iff_not] at h9; rw [show i = l.length by omega]; simp))
def fL : List Pg → Nat
 | [] => 0
 | p :: r => p.frm.length + fL r
theorem vh_ : ∀ a b : List Pg, fL (a ++ b) = fL a + fL b
 | [], b => by simp [fL]
 | p :: a, b => by simp only [List.cons_append, fL, vh_ a b, Nat.add_assoc]
theorem rk_ {l : List Pg} {i : Nat} (h : i < l.length) : fL (l.take (i + 1)) = fL (l.take i) + (l.getD i Pg0).frm.length := by
 rw [List.take_add_one, List.getElem?_eq_getElem h, List.getD_eq_getElem?_getD, List.getElem?_eq_getElem h, vh_]
 simp [fL]
theorem agj_ (l : List Pg) (i : Nat) : fL (l.take i) ≤ fL l := by
 have := vh_ (l.take i) (l.drop i)
 rw [List.take_append_drop] at this; omega
def mPS (p : Pg) (k : Int) : Pg × Int := (⟨mkT k, (k + 1).tmod 3 == 0, mkT (k + 2), g8_ (k + 3) p.frm.length⟩, k + 3 + p.frm.length)
theorem aal_ (p : Pg) (k : Int) : ttP.N (mPS p k).1 = ttP.N p := rfl
theorem r3_ (l : List Pg) (k : Int) : ∀ i, i ≤ l.length → mkK mPS l k i = k + 3 * (i : Int) + (fL (l.take i) : Int)
 | 0, _ => by simp [or_, fL]
 | i + 1, h => by
  rw [nt_ mPS (d := Pg0) (by omega), rk_ (by omega)]
  show mkK mPS l k i + 3 + _ = _
  rw [r3_ l k i (by omega)]; omega
theorem u0_ (l : List Pg) (k : Int) (h0 : 0 ≤ k) (h1 : k + 3 * (l.length : Int) + (fL l : Int) ≤ 100000000) : ACall En 27 [.ow 0 4 0 l.length, .i .i64 k] (ttP.lst 99 4 0 l) [.i .i64 (cr_ mPS l k).2] (ttP.lst 99 4 0 (cr_ mPS l k).1) := by
 have hm := aal_
 have hNL : ttP.NL (cr_ mPS l k).1 = ttP.NL l := ttP.mk_NL hm l k
 have hL : (ttP.lst 99 4 0 (cr_ mPS l k).1).length = (ttP.lst 99 4 0 l).length := by rw [TT.lst_len, TT.lst_len, hNL]
 have hK := r3_ l k
 have hKb : ∀ i, i < l.length → 0 ≤ mkK mPS l k i ∧ mkK mPS l k i + 3 + ((l.getD i Pg0).frm.length : Int) ≤ 100000000 := fun i h => by
  have q1 := hK i (by omega)
  have q2 := rk_ h
  have q3 := agj_ l (i + 1)
  exact ⟨by omega, by omega⟩
 have hrow := fun i (h : i < l.length) => ttP.mkP_row (b := 1000000000) (k := k) (d := Pg0) hm h
 have hset := fun i (h : i < l.length) => ttP.mkP_set (b := 1000000000) (k := k) (d := Pg0) hm h
 have hpl : ∀ i, i ≤ l.length → (ttP.OR 1000000000 (mkP mPS l k i)).length = l.length := fun i h => by rw [ttP.OR_len, af1_ mPS h]
 have hO : ∀ b (p : Pg), ttP.O b p = [.s p.line, .b p.good, .s p.text, .ow b 1 0 p.frm.length] := fun _ _ => rfl
 have hB0 : ∀ i : Nat, ttP.B (1000000000 + ttP.NL (l.take i)) (l.getD i Pg0) = [] ++ [⟨3, 1, inR (l.getD i Pg0).frm⟩] ++ [] := fun _ => rfl
 have hB1 : ∀ i : Nat, ttP.B (1000000000 + ttP.NL (l.take i)) (mPS (l.getD i Pg0) (mkK mPS l k i)).1 = [] ++ [⟨3, 1, inR (g8_ (mkK mPS l k i + 3) (l.getD i Pg0).frm.length)⟩] ++ [] := fun _ => rfl
 have hW : ∀ i, i < l.length → wrL (bd_ 1000000000 (ttP.BL 1000000000 (mkP mPS l k i))) (e3_ (1000000000 + ttP.NL (l.take i)) [⟨3, 1, inR (g8_ (mkK mPS l k i + 3) (l.getD i Pg0).frm.length)⟩]) = bd_ 1000000000 (ttP.BL 1000000000 (mkP mPS l k (i + 1))) := fun i h =>
  ttP.mk_wr hm h rfl (hB0 i) (hB1 i) rfl
 have hset' : ∀ i, i < l.length → (ttP.OR 1000000000 (mkP mPS l k i)).set i [.s (mkT (mkK mPS l k i)), .b ((mkK mPS l k i + 1).tmod 3 == 0), .s (mkT (mkK mPS l k i + 2)), .ow (1000000000 + ttP.NL (l.take i)) 1 0 (l.getD i Pg0).frm.length] = ttP.OR 1000000000 (mkP mPS l k (i + 1)) := fun i h => by
  rw [← hset i h, hO]
  show _ = (ttP.OR 1000000000 (mkP mPS l k i)).set i [_, _, _, .ow _ 1 0 (g8_ _ (l.getD i Pg0).frm.length).length]
  rw [by_]; rfl
 have hw1 : ∀ i, i < l.length → IntKind.i64.wrap (mkK mPS l k i + 1) = mkK mPS l k i + 1 := fun i h => by have := hKb i h; exact bc_ (by omega) (by omega)
 have hw2 : ∀ i, i < l.length → IntKind.i64.wrap (mkK mPS l k i + 1 + 1) = mkK mPS l k i + 2 := fun i h => by have := hKb i h; rw [bc_ (by omega) (by omega)]; omega
 have hw3 : ∀ i, i < l.length → IntKind.i64.wrap (mkK mPS l k i + 2 + 1) = mkK mPS l k i + 3 := fun i h => by have := hKb i h; rw [bc_ (by omega) (by omega)]; omega
 refine pn_ (fn := Tryz.f27) 1 (by decide) Tryz.func27 rfl rfl hL (by rw [TT.lst_len]; simp [cls, V.cl]) (ttP.lst_rcl _ _ _) (by simp only [cls, V.cl, Bool.and_self]) (hL ▸ ttP.lst_rcl _ _ _) (show _ = [.ow 0 4 0 l.length, .i .i64 k] by simp only [rns, rn, ly_ (show 0 < (ttP.lst 99 4 0 l).length by rw [TT.lst_len]; omega)]; rfl) (ttP.deep_lst1 _ _ _) (show rns _ _ = [.i .i64 (cr_ mPS l k).2] by simp only [rns, rn]) (Eq.trans (congrArg (fun n => List.map (rnB (ηD 1 n)) _) hL.symm) (ttP.deep_lst1 _ _ _)) fun C => ?_
 simp only [Tryz.ntmps27, List.length_cons, List.length_nil, Nat.reduceAdd, Nat.reduceSub, List.replicate_succ, List.replicate_zero, List.cons_append, List.nil_append, yi_, cm_]
 refine .seq (.rgn [] (by simp only [go_sem, seval, cd_, hO, List.length_set, List.set_set, cm_, bs_, bg_, List.range'_one, List.length_singleton, ac_]; rfl) ?_ ?_)
 ·(first | trivial | (simp; done) | (simp only [decide_eq_true_eq] at h9; have hi : i < l.length := (by omega); and_intros <;> first | omega | trivial | (intro j x hx; rw [if_neg (by omega)]; exact ttP.mk_rd hm hi rfl (hB0 i) hx) | (simp; done)))
 refine .seq (.seq (.rgn [] (by simp only [go_sem, seval, cd_, hO, List.length_set, List.set_set, cm_, bs_, bg_, List.range'_one, List.length_singleton, ac_]; rfl) ?_ ?_))
 ·(first | trivial | (simp; done) | (simp only [decide_eq_true_eq] at h9; have hi : i < l.length := (by omega); and_intros <;> first | omega | trivial | (intro j x hx; rw [if_neg (by omega)]; exact ttP.mk_rd hm hi rfl (hB0 i) hx) | (simp; done)))
 refine .block (.loopK (fun i : Nat => ⟨[.ow 0 4 0 l.length, .i .i64 (mkK mPS l k i), .no, .no, .no, .i .i64 i, .no, .no, .no, .no, .no, .no, .no, .no, .no, .no, .no, .no, .no, .no, .no, .no, .no, .no, .no, .no, .no, .no, .no, .no, .no, .no, .no, .no, .no, .no, .no, .no, .no, .no, .no, .no, .no, .no, .no], aw_ ((0, ⟨99, 4, ttP.OR 1000000000 (mkP mPS l k i)⟩) :: bd_ 1000000000 (ttP.BL 1000000000 (mkP mPS l k i))), us []⟩) (fun i : Nat => i ≤ l.length) (fun i : Nat => l.length - i) (0) ?_ ?_ (fun i hI => ?_))
 ·simp
 ·exact Can.weak (Weak.lit (by simp only [go_sem, seval, cd_, hO, List.length_set, List.set_set, cm_, bs_, bg_, List.range'_one, List.length_singleton, ac_, an_, leV, al_, am_, V.inn, us, true_or, or_true] <;> (simp [or_])) (by simp only [go_sem, seval, cd_, hO, List.length_set, List.set_set, cm_, bs_, bg_, List.range'_one, List.length_singleton, ac_, an_, leV, al_, am_, V.inn, us, true_or, or_true]) (by simp only [go_sem, seval, cd_, hO, List.length_set, List.set_set, cm_, bs_, bg_, List.range'_one, List.length_singleton, ac_, an_, leV, al_, am_, V.inn, us, true_or, or_true] <;> (rw [aau_]; exact ⟨rfl, ttP.hi_keep _ _⟩)))
 refine .seq (.seq (.rgn [] (by simp only [go_sem, seval, cd_, hO, List.length_set, List.set_set, cm_, bs_, bg_, List.range'_one, List.length_singleton, ac_, hpl i hI]; rfl) ?_ ?_))
 ·(first | trivial | (simp; done) | (simp only [decide_eq_true_eq] at h9; have hi : i < l.length := (by omega); and_intros <;> first | omega | trivial | (intro j x hx; rw [if_neg (by omega)]; exact ttP.mk_rd hm hi rfl (hB0 i) hx) | (simp; done)))
 refine .condB (by simp only [go_sem, seval, cd_, hO, List.length_set, List.set_set, cm_, bs_, bg_, List.range'_one, List.length_singleton, ac_]; rfl) (by simp only [go_sem, seval, cd_, hO, List.length_set, List.set_set, cm_, bs_, bg_, List.range'_one, List.length_singleton, ac_]) (fun h9 => ?_) (fun h9 => ?_)
 ·refine .skip (.seq (.block (.seq (.rgn [a2_ (ib_ (mkK mPS l k i) (by have := hKb i (by simpa using h9); omega) (by have := hKb i (by simpa using h9); omega))] (by simp only [go_sem, seval, cd_, hO, List.length_set, List.set_set, cm_, bs_, bg_, List.range'_one, List.length_singleton, ac_, hrow i (by simpa using h9), hpl i hI]; rfl) ?_ ?_))))
  ·(first | trivial | (simp; done) | (simp only [decide_eq_true_eq] at h9; have hi : i < l.length := (by omega); and_intros <;> first | omega | trivial | (intro j x hx; rw [if_neg (by omega)]; exact ttP.mk_rd hm hi rfl (hB0 i) hx) | (simp; done)))
  refine .seq (.rgn [] (by simp only [go_sem, seval, cd_, hO, List.length_set, List.set_set, cm_, bs_, bg_, List.range'_one, List.length_singleton, ac_, hw1 i (show i < l.length by simpa using h9)]; rfl) ?_ ?_)
  ·(first | trivial | (simp; done) | (simp only [decide_eq_true_eq] at h9; have hi : i < l.length := (by omega); and_intros <;> first | omega | trivial | (intro j x hx; rw [if_neg (by omega)]; exact ttP.mk_rd hm hi rfl (hB0 i) hx) | (simp; done)))
  refine .seq (.rgn [] (by simp only [go_sem, seval, cd_, hO, List.length_set, List.set_set, cm_, bs_, bg_, List.range'_one, List.length_singleton, ac_, setD (show i < (ttP.OR 1000000000 (mkP mPS l k i)).length by rw [hpl i hI]; simpa using h9), hpl i hI, hw1 i (show i < l.length by simpa using h9)]; rfl) ?_ ?_)
  ·(first | trivial | (simp; done) | (simp only [decide_eq_true_eq] at h9; have hi : i < l.length := (by omega); and_intros <;> first | omega | trivial | (intro j x hx; rw [if_neg (by omega)]; exact ttP.mk_rd hm hi rfl (hB0 i) hx) | (simp; done)))
  refine .seq (.rgn [] (by simp only [go_sem, seval, cd_, hO, List.length_set, List.set_set, cm_, bs_, bg_, List.range'_one, List.length_singleton, ac_, hw1 i (show i < l.length by simpa using h9), hw2 i (show i < l.length by simpa using h9)]; rfl) ?_ ?_)
  ·(first | trivial | (simp; done) | (simp only [decide_eq_true_eq] at h9; have hi : i < l.length := (by omega); and_intros <;> first | omega | trivial | (intro j x hx; rw [if_neg (by omega)]; exact ttP.mk_rd hm hi rfl (hB0 i) hx) | (simp; done)))
  refine .seq (.rgn [a2_ (ib_ (mkK mPS l k i + 2) (by have := hKb i (by simpa using h9); omega) (by have := hKb i (by simpa using h9); omega))] (by simp only [go_sem, seval, cd_, hO, List.length_set, List.set_set, cm_, bs_, bg_, List.range'_one, List.length_singleton, ac_, setD (show i < (ttP.OR 1000000000 (mkP mPS l k i)).length by rw [hpl i hI]; simpa using h9), hpl i hI, hw1 i (show i < l.length by simpa using h9), hw2 i (show i < l.length by simpa using h9)]; rfl) ?_ ?_)
  ·(first | trivial | (simp; done) | (simp only [decide_eq_true_eq] at h9; have hi : i < l.length := (by omega); and_intros <;> first | omega | trivial | (intro j x hx; rw [if_neg (by omega)]; exact ttP.mk_rd hm hi rfl (hB0 i) hx) | (simp; done)))
  refine .seq (.rgn [] (by simp only [go_sem, seval, cd_, hO, List.length_set, List.set_set, cm_, bs_, bg_, List.range'_one, List.length_singleton, ac_, hw3 i (show i < l.length by simpa using h9)]; rfl) ?_ ?_)
  ·(first | trivial | (simp; done) | (simp only [decide_eq_true_eq] at h9; have hi : i < l.length := (by omega); and_intros <;> first | omega | trivial | (intro j x hx; rw [if_neg (by omega)]; exact ttP.mk_rd hm hi rfl (hB0 i) hx) | (simp; done)))
  refine .rgn [cd_ (1000000000 + ttP.NL (l.take i)) (wa_ (l.getD i Pg0).frm (mkK mPS l k i + 3) (by have := hKb i (by simpa using h9); omega) (by have := hKb i (by simpa using h9); omega) (by have := hKb i (by simpa using h9); omega)) (kSeg (v0_ (1000000000 + ttP.NL (l.take i)) _).map (v0_ (1000000000 + ttP.NL (l.take i)) _).clr) (v0_ (1000000000 + ttP.NL (l.take i)) _).map rfl] (by simp only [go_sem, seval, cd_, hO, List.length_set, List.set_set, cm_, bs_, bg_, List.range'_one, List.length_singleton, ac_, setD (show i < (ttP.OR 1000000000 (mkP mPS l k i)).length by rw [hpl i hI]; simpa using h9), hpl i hI, hw1 i (show i < l.length by simpa using h9), hw2 i (show i < l.length by simpa using h9), hw3 i (show i < l.length by simpa using h9), hW i (show i < l.length by simpa using h9)]; rfl) ?_ ?_
  ·(first | trivial | (simp; done) | (simp only [decide_eq_true_eq] at h9; have hi : i < l.length := (by omega); and_intros <;> first | omega | trivial | (intro j x hx; rw [if_neg (by omega)]; exact ttP.mk_rd hm hi rfl (hB0 i) hx) | (simp; done)))
  refine .rgn [] (by simp only [go_sem, seval, cd_, hO, List.length_set, List.set_set, cm_, bs_, bg_, List.range'_one, List.length_singleton, ac_]; rfl) ?_ ?_
  ·(first | trivial | (simp; done) | (simp only [decide_eq_true_eq] at h9; have hi : i < l.length := (by omega); and_intros <;> first | omega | trivial | (intro j x hx; rw [if_neg (by omega)]; exact ttP.mk_rd hm hi rfl (hB0 i) hx) | (simp; done)))
  refine Exists.intro (i + 1) ⟨?_, ?_, ?_⟩
  ·simp at h9; omega
  ·simp at h9; omega
  exact Can.weak (Weak.lit (by simp only [go_sem, seval, cd_, hO, List.length_set, List.set_set, cm_, bs_, bg_, List.range'_one, List.length_singleton, ac_, an_, leV, al_, am_, V.inn, us, true_or, or_true] <;> (exact ⟨by rw [nt_ mPS (d := Pg0) (by simpa using h9)]; rfl, bc_ (by simp at h9; omega) (by simp at h9; omega)⟩)) (by simp only [go_sem, seval, cd_, hO, List.length_set, List.set_set, cm_, bs_, bg_, List.range'_one, List.length_singleton, ac_, an_, leV, al_, am_, V.inn, us, true_or, or_true]) (by simp only [go_sem, seval, cd_, hO, List.length_set, List.set_set, cm_, bs_, bg_, List.range'_one, List.length_singleton, ac_, an_, leV, al_, am_, V.inn, us, true_or, or_true] <;> (rw [hset' i (by simpa using h9)]; exact ⟨rfl, ttP.hi_keep _ _⟩)))
 ·refine .exit (.seq (.rgn [] (by simp only [go_sem, seval, cd_, hO, List.length_set, List.set_set, cm_, bs_, bg_, List.range'_one, List.length_singleton, ac_]; rfl) ?_ ?_))
  ·(first | trivial | (simp; done) | (simp only [decide_eq_true_eq] at h9; have hi : i < l.length := (by omega); and_intros <;> first | omega | trivial | (intro j x hx; rw [if_neg (by omega)]; exact ttP.mk_rd hm hi rfl (hB0 i) hx) | (simp; done)))
  refine .ret ⟨.inr rfl, ?_⟩
  exact abq_ (by decide) (by simp only [Tryz.results27]; rfl) (by simp only [aq_, a8_, go_sem, seval, cd_, hO, List.length_set, List.set_set, cm_, bs_, bg_, List.range'_one, List.length_singleton, ac_]) (by simp only [a7_, go_sem, seval, cd_, hO, List.length_set, List.set_set, cm_, bs_, bg_, List.range'_one, List.length_singleton, ac_] <;> (simp at h9; rw [ri_ mPS h9])) (by simp at h9; show aw_ _ = aw_ _; rw [cm_, ad0_ mPS h9])
end
end Go.Proofs.YtefmbmafdgedmaaGreatDoor
