/- Two rows of places in one memory. Conditions: none. -/
import Derived.Test.YtefmbmafdgedmaaGreatDoorN20
import Derived.Test.YtefmbmafdgedmaaGreatDoorN30
import Derived.Test.YtefmbmafdgedmaaGreatDoorN31
set_option linter.unusedVariables false
set_option linter.unusedSimpArgs false
namespace Go.Proofs.YtefmbmafdgedmaaGreatDoor
section
open Go.RowKit
set_option maxRecDepth 100000
theorem agp_ (c : Nat) (k : Int) : SegOk c [.i .i64 k] [.i .i64 k] [] [] := kSeg rfl (fun x hx => by cases hx)
end
section
open Go.RowKit
set_option maxRecDepth 100000
set_option maxHeartbeats 4000000
theorem ai9_ (p : Pg) (k : Int) : pgC (mPS p k).1 = [.s (mkT k), .b ((k + 1).tmod 3 == 0), .s (mkT (k + 2)), .sl false (inR (g8_ (k + 3) p.frm.length))] := rfl
theorem mq_ (l : List Pg) (k : Int) (h0 : 0 ≤ k) (h1 : k + 3 * (l.length : Int) + (fL l : Int) ≤ 1000000) : ACall En 28 [.sl false (pgR (cr_ mPS l k).1), .i .i64 k] [] [.i .i64 (cr_ mPS l k).2] [] := by
 have hlen : (pgR (cr_ mPS l k).1).length = l.length := by rw [a1_, fa_]
 have hK := r3_ l k
 have hbd : ∀ i, i < l.length → 0 ≤ mkK mPS l k i ∧ mkK mPS l k i + 3 + ((l.getD i Pg0).frm.length : Int) ≤ 1000000 := fun i h => by
  have q1 := hK i (by omega)
  have q2 := rk_ h
  have q3 := agj_ l (i + 1)
  exact ⟨by omega, by omega⟩
 have hrow : ∀ i, i < l.length → (pgR (cr_ mPS l k).1).getD i [] = [.s (mkT (mkK mPS l k i)), .b ((mkK mPS l k i + 1).tmod 3 == 0), .s (mkT (mkK mPS l k i + 2)), .sl false (inR (g8_ (mkK mPS l k i + 3) (l.getD i Pg0).frm.length))] := fun i h => by
  rw [nh_ (by rw [fa_]; exact h), y3_ mPS (d := Pg0) h, ai9_]
 have hnx : ∀ i, i < l.length → mkK mPS l k (i + 1) = mkK mPS l k i + 3 + (l.getD i Pg0).frm.length := fun i h => by rw [nt_ mPS (d := Pg0) h]; rfl
 have hend := ri_ mPS (k := k) (Nat.le_refl l.length)
 have hw1 : ∀ i, i < l.length → IntKind.i64.wrap (mkK mPS l k i + 1) = mkK mPS l k i + 1 := fun i h => by have := hbd i h; exact bc_ (by omega) (by omega)
 have hw2 : ∀ i, i < l.length → IntKind.i64.wrap (mkK mPS l k i + 1 + 1) = mkK mPS l k i + 2 := fun i h => by have := hbd i h; rw [bc_ (by omega) (by omega)]; omega
 have hw3 : ∀ i, i < l.length → IntKind.i64.wrap (mkK mPS l k i + 2 + 1) = mkK mPS l k i + 3 := fun i h => by have := hbd i h; rw [bc_ (by omega) (by omega)]; omega
 refine ah_ (fn := Tryz.f28) [] Tryz.func28 rfl rfl (by simp) fun C => ?_
 rw [ar_]
 simp only [Tryz.ntmps28, List.length_cons, List.length_nil, Nat.reduceAdd, Nat.reduceSub, List.replicate_succ, List.replicate_zero, List.cons_append, List.nil_append, bd_]
 refine .seq (.rgn [] (by simp only [go_sem, seval, hlen, ac_, ak_]; rfl) ?_ ?_)
 ·(first | trivial | (simp; done) | (simp only [decide_eq_true_eq] at h9; and_intros <;> first | omega | (simp [hlen]; omega)))
 refine .seq (.seq (.rgn [] (by simp only [go_sem, seval, hlen, ac_, ak_]; rfl) ?_ ?_))
 ·(first | trivial | (simp; done) | (simp only [decide_eq_true_eq] at h9; and_intros <;> first | omega | (simp [hlen]; omega)))
 refine .block (.loopK (fun i : Nat => ⟨[.sl false (pgR (cr_ mPS l k).1), .i .i64 (mkK mPS l k i), .no, .no, .no, .i .i64 i, .no, .no, .no, .no, .no, .no, .no, .no, .no, .no, .no, .no, .no, .no, .no, .no, .no, .no, .no, .no, .no, .no, .no, .no, .no, .no, .no, .no, .no, .no, .no, .no, .no, .no, .no, .no, .no, .no, .no, .no, .no, .no, .no, .no, .no, .no, .no], aw_ [], us []⟩) (fun i : Nat => i ≤ l.length) (fun i : Nat => l.length - i) (0) ?_ ?_ (fun i hI => ?_))
 ·simp
 ·exact Can.weak (Weak.lit (by simp only [go_sem, seval, hlen, ac_, ak_, an_, leV, al_, am_, V.inn, us, true_or, or_true] <;> (simp [or_])) (by simp only [go_sem, seval, hlen, ac_, ak_, an_, leV, al_, am_, V.inn, us, true_or, or_true]) (by simp only [go_sem, seval, hlen, ac_, ak_, an_, leV, al_, am_, V.inn, us, true_or, or_true]))
 refine .seq (.seq (.rgn [] (by simp only [go_sem, seval, hlen, ac_, ak_]; rfl) ?_ ?_))
 ·(first | trivial | (simp; done) | (simp only [decide_eq_true_eq] at h9; and_intros <;> first | omega | (simp [hlen]; omega)))
 refine .condB (by simp only [go_sem, seval, hlen, ac_, ak_]; rfl) (by simp only [go_sem, seval, hlen, ac_, ak_]) (fun h9 => ?_) (fun h9 => ?_)
 ·refine .skip (.seq (.block (.seq (.seq (.rgnD [a2_ (ib_ (mkK mPS l k i) (by have := hbd i (by simpa using h9); omega) (by have := hbd i (by simpa using h9); omega))] enM (by simp only [go_sem, seval, hlen, ac_, ak_, hrow i (by simpa using h9)]; rfl) (by rfl) ?_ ?_)))))
  ·(first | trivial | (simp; done) | (simp only [decide_eq_true_eq] at h9; and_intros <;> first | omega | (simp [hlen]; omega)))
  refine .condB (by simp only [go_sem, seval, hlen, ac_, ak_]; rfl) (by simp only [go_sem, seval, hlen, ac_, ak_]) (fun h19 => ?_) (fun h19 => ?_)
  ·simp at h19
  ·refine .skip (.seq (.rgn [] (by simp only [go_sem, seval, hlen, ac_, ak_, hw1 i (show i < l.length by simpa using h9)]; rfl) ?_ ?_))
   ·(first | trivial | (simp; done) | (simp only [decide_eq_true_eq] at h9; and_intros <;> first | omega | (simp [hlen]; omega)))
   refine .seq (.seq (.rgn [] (by simp only [go_sem, seval, hlen, ac_, ak_, hrow i (by simpa using h9), hw1 i (show i < l.length by simpa using h9)]; rfl) ?_ ?_))
   ·(first | trivial | (simp; done) | (simp only [decide_eq_true_eq] at h9; and_intros <;> first | omega | (simp [hlen]; omega)))
   refine .condB (by simp only [go_sem, seval, hlen, ac_, ak_]; rfl) (by simp only [go_sem, seval, hlen, ac_, ak_]) (fun h30 => ?_) (fun h30 => ?_)
   ·simp at h30
   ·refine .skip (.seq (.rgn [] (by simp only [go_sem, seval, hlen, ac_, ak_, hw1 i (show i < l.length by simpa using h9), hw2 i (show i < l.length by simpa using h9)]; rfl) ?_ ?_))
    ·(first | trivial | (simp; done) | (simp only [decide_eq_true_eq] at h9; and_intros <;> first | omega | (simp [hlen]; omega)))
    refine .seq (.seq (.rgnD [a2_ (ib_ (mkK mPS l k i + 2) (by have := hbd i (by simpa using h9); omega) (by have := hbd i (by simpa using h9); omega))] enM (by simp only [go_sem, seval, hlen, ac_, ak_, hrow i (by simpa using h9), hw1 i (show i < l.length by simpa using h9), hw2 i (show i < l.length by simpa using h9)]; rfl) (by rfl) ?_ ?_))
    ·(first | trivial | (simp; done) | (simp only [decide_eq_true_eq] at h9; and_intros <;> first | omega | (simp [hlen]; omega)))
    refine .condB (by simp only [go_sem, seval, hlen, ac_, ak_]; rfl) (by simp only [go_sem, seval, hlen, ac_, ak_]) (fun h40 => ?_) (fun h40 => ?_)
    ·simp at h40
    ·refine .skip (.seq (.rgn [] (by simp only [go_sem, seval, hlen, ac_, ak_, hw3 i (show i < l.length by simpa using h9)]; rfl) ?_ ?_))
     ·(first | trivial | (simp; done) | (simp only [decide_eq_true_eq] at h9; and_intros <;> first | omega | (simp [hlen]; omega)))
     refine .seq (.rgn [a2_ (vt_ (l.getD i Pg0).frm.length (mkK mPS l k i + 3) (by have := hbd i (by simpa using h9); omega) (by have := hbd i (by simpa using h9); omega) (by have := hbd i (by simpa using h9); omega))] (by simp only [go_sem, seval, hlen, ac_, ak_, hrow i (by simpa using h9), hw3 i (show i < l.length by simpa using h9)]; rfl) ?_ ?_)
     ·(first | trivial | (simp; done) | (simp only [decide_eq_true_eq] at h9; and_intros <;> first | omega | (simp [hlen]; omega)))
     refine .seq (.rgn [] (by simp only [go_sem, seval, hlen, ac_, ak_]; rfl) ?_ ?_)
     ·(first | trivial | (simp; done) | (simp only [decide_eq_true_eq] at h9; and_intros <;> first | omega | (simp [hlen]; omega)))
     refine .condB (by simp only [go_sem, seval, hlen, ac_, ak_]; rfl) (by simp only [go_sem, seval, hlen, ac_, ak_]) (fun h51 => ?_) (fun h51 => ?_)
     ·simp only [decide_eq_true_eq] at h51; have := (hbd i (by simpa using h9)).1; omega
     ·refine .skip (.rgn [] (by simp only [go_sem, seval, hlen, ac_, ak_]; rfl) ?_ ?_)
      ·(first | trivial | (simp; done) | (simp only [decide_eq_true_eq] at h9; and_intros <;> first | omega | (simp [hlen]; omega)))
      refine Exists.intro (i + 1) ⟨?_, ?_, ?_⟩
      ·simp at h9; omega
      ·simp at h9; omega
      exact Can.weak (Weak.lit (by simp only [go_sem, seval, hlen, ac_, ak_, an_, leV, al_, am_, V.inn, us, true_or, or_true] <;> (exact ⟨(hnx i (by simpa using h9)).symm, bc_ (by simp at h9; omega) (by simp at h9; omega)⟩)) (by simp only [go_sem, seval, hlen, ac_, ak_, an_, leV, al_, am_, V.inn, us, true_or, or_true]) (by simp only [go_sem, seval, hlen, ac_, ak_, an_, leV, al_, am_, V.inn, us, true_or, or_true]))
 ·refine .exit (.seq (.rgn [] (by simp only [go_sem, seval, hlen, ac_, ak_]; rfl) ?_ ?_))
  ·(first | trivial | (simp; done) | (simp only [decide_eq_true_eq] at h9; and_intros <;> first | omega | (simp [hlen]; omega)))
  refine .ret ⟨.inr rfl, ?_⟩
  exact Out.plain (by simp only [Tryz.results28]; rfl) (by simp only [aq_, a8_, go_sem, seval, hlen, ac_, ak_] <;> (split <;> rfl)) (by simp only [a7_, go_sem, seval, hlen, ac_, ak_] <;> (simp at h9; rw [show i = l.length by omega, hend])) (by simp only [go_sem, seval, hlen, ac_, ak_])
section
open TT
variable {α : Type} (t : TT α)
variable {E : Env} {fn : Func} {s : St} {lr : List ResultVar}
end
theorem ck_ (l : List Pg) {T c : Nat} {m : Mem} (h : ∀ i x, (ttP.lst T 4 c (cr_ mPS l 1).1)[i]? = some x → m (c + i) = some x) : LD m (.ow c 4 0 l.length) (.sl false (pgR (cr_ mPS l 1).1)) := by
 have := b2_ (cr_ mPS l 1).1 h
 rwa [fa_] at this
theorem x9_ (s : Str) (hs : s.length ≤ 281474976710656) : ACall En 25 [.s s] [] [.ow 0 4 0 (hk_ s).length] (ttP.lst 99 4 0 (hk_ s)) := by
 have hL := j1_ s
 have hM := h9_ s
 have hb : hk_ s = if (dx_ s).length ≤ 16 then (dx_ s).map e4_ else [] := rfl
 have T := lf_ s hs
 generalize dx_ s = ls at *
 have hP : ∀ k, k < ls.length → ACall En 72 [.s (ls.getD k [])] [] [.ag (ttP.O 0 ((ls.map e4_).getD k Pg0))] (ttP.B 0 ((ls.map e4_).getD k Pg0)) := fun k h => by
  have e : (ls.map e4_).getD k Pg0 = e4_ (ls.getD k []) := by simp [List.getD_eq_getElem?_getD, List.getElem?_eq_getElem h]
  rw [e]
  exact v1_ (ls.getD k []) (by have := hM _ (bo_ (d := []) h); omega)
 have hxl : (ls.map e4_).length = ls.length := by simp
 generalize ls.map e4_ = xs at *
 have hN := fun k => ttP.NL_le xs k
 have hO : ∀ b a, (ttP.O b a).length = 4 := fun _ _ => rfl
 have hz4 : ∀ u, al_ u zPg = true := fun u => rfl
 have hNL := v7_ xs
 refine ah_ (fn := Tryz.f25) (24 :: List.range' 1000 (ttP.NL (hk_ s))) Tryz.func25 rfl rfl (by simp) fun C => ?_
 rw [ar_]
 simp only [Tryz.ntmps25, List.length_cons, List.length_nil, Nat.reduceAdd, Nat.reduceSub, List.replicate_succ, List.replicate_zero, List.cons_append, List.nil_append, bd_]
 refine .seq (.rgn [] (by simp only [go_sem, seval, ab_, aa_, ai_, ttP.OR_len, b4_, bl_, bs_, hxl]; rfl) ?_ ?_)
 ·(first | trivial | (simp; done) | (simp only [decide_eq_false_iff_not] at h11; and_intros <;> omega))
 refine .seq (.rgn [a2_ T] (by simp only [go_sem, seval, ab_, aa_, ai_, ttP.OR_len, b4_, bl_, bs_, hxl]; rfl) ?_ ?_)
 ·(first | trivial | (simp; done) | (simp only [decide_eq_false_iff_not] at h11; and_intros <;> omega))
 refine .seq (.seq (.rgn [] (by simp only [go_sem, seval, ab_, aa_, ai_, ttP.OR_len, b4_, bl_, bs_, hxl]; rfl) ?_ ?_))
 ·(first | trivial | (simp; done) | (simp only [decide_eq_false_iff_not] at h11; and_intros <;> omega))
 refine .condB (by simp only [go_sem, seval, ab_, aa_, ai_, ttP.OR_len, b4_, bl_, bs_, hxl]; rfl) (by simp only [go_sem, seval, ab_, aa_, ai_, ttP.OR_len, b4_, bl_, bs_, hxl]) (fun h11 => ?_) (fun h11 => ?_)
 ·refine .seq (.rgn [] (by simp only [go_sem, seval, ab_, aa_, ai_, ttP.OR_len, b4_, bl_, bs_, hxl]; rfl) ?_ ?_)
  ·(first | trivial | (simp; done) | (simp only [decide_eq_false_iff_not] at h11; and_intros <;> omega))
  refine .can (Can.ownSlot 2 24 99 4 (by simp only [go_sem, seval, ab_, aa_, ai_, ttP.OR_len, b4_, bl_, bs_, hxl] <;> rfl) (by simp only [go_sem, seval, ab_, aa_, ai_, ttP.OR_len, b4_, bl_, bs_, hxl]) (by simp only [go_sem, seval, ab_, aa_, ai_, ttP.OR_len, b4_, bl_, bs_, hxl] <;> rfl)) ?_
  refine .ret ⟨.inr rfl, ?_⟩
  first | (simp only [decide_eq_true_eq] at h11; rw [hb, if_neg (by omega)]; exact ttP.out_lst (by simp only [Tryz.results25]; rfl) (by simp only [aq_, a8_, go_sem, seval, ab_, aa_, ai_, ttP.OR_len, b4_, bl_, bs_, hxl]) (by simp only [a7_, go_sem, seval, ab_, aa_, ai_, ttP.OR_len, b4_, bl_, bs_, hxl] <;> rfl) (by decide) rfl) | (simp only [decide_eq_false_iff_not] at h11 h18; rw [hb, if_pos (by omega)]; exact ttP.out_lst (by simp only [Tryz.results25]; rfl) (by simp only [aq_, a8_, go_sem, seval, ab_, aa_, ai_, ttP.OR_len, b4_, bl_, bs_, hxl]) (by simp only [a7_, go_sem, seval, ab_, aa_, ai_, ttP.OR_len, b4_, bl_, bs_, hxl] <;> rw [hxl]) (by decide) (by show aw_ _ = aw_ _; rw [gu_ (by rw [ttP.OR_len]; omega), List.take_of_length_le (by omega)]))
 ·refine .skip (.seq (.rgn [] (by simp only [go_sem, seval, ab_, aa_, ai_, ttP.OR_len, b4_, bl_, bs_, hxl]; rfl) ?_ ?_))
  ·(first | trivial | (simp; done) | (simp only [decide_eq_false_iff_not] at h11; and_intros <;> omega))
  refine .seq (.seq (.rgn [] (by simp only [go_sem, seval, ab_, aa_, ai_, ttP.OR_len, b4_, bl_, bs_, hxl]; rfl) ?_ ?_))
  ·(first | trivial | (simp; done) | (simp only [decide_eq_false_iff_not] at h11; and_intros <;> omega))
  refine .block (.loopK (fun k : Nat => ⟨[.no, .no, .no, .no, .ow 24 4 0 ls.length, .no, .no, .no, .no, .no, .no, .no, .no, .no, .no, .sl false (bm_ ls), .i .i64 ls.length, .i .i64 k, .no, .no, .no, .no, .no, .no, .no, .no, .no, .no, .no], aw_ ((24, ⟨99, 4, dj_ (ttP.OR 1000 xs) zPg k⟩) :: bd_ 1000 (ttP.BL 1000 (xs.take k))), us (24 :: List.range' 1000 (ttP.NL (xs.take k)))⟩) (fun k : Nat => k ≤ ls.length) (fun k : Nat => ls.length - k) (0) ?_ ?_ (fun k hI => ?_))
  ·simp
  ·exact Can.weak (Weak.lit (by simp only [go_sem, seval, ab_, aa_, ai_, ttP.OR_len, b4_, bl_, bs_, hxl, an_, leV, al_, am_, V.inn, us, true_or, or_true] <;> ((try simp))) (by simp only [go_sem, seval, ab_, aa_, ai_, ttP.OR_len, b4_, bl_, bs_, hxl, an_, leV, al_, am_, V.inn, us, true_or, or_true]) (by simp only [go_sem, seval, ab_, aa_, ai_, ttP.OR_len, b4_, bl_, bs_, hxl, an_, leV, al_, am_, V.inn, us, true_or, or_true] <;> (exact ttP.wk0 hxl.symm hz4)))
  refine .seq (.rgn [] (by simp only [go_sem, seval, ab_, aa_, ai_, ttP.OR_len, b4_, bl_, bs_, hxl]; rfl) ?_ ?_)
  ·(first | trivial | (simp; done) | (simp only [decide_eq_false_iff_not] at h11; and_intros <;> omega))
  refine .seq (.condB (by simp only [go_sem, seval, ab_, aa_, ai_, ttP.OR_len, b4_, bl_, bs_, hxl]; rfl) (by simp only [go_sem, seval, ab_, aa_, ai_, ttP.OR_len, b4_, bl_, bs_, hxl]) (fun h18 => ?_) (fun h18 => ?_))
  ·refine .skip (.seq (.block (.seq (.rgn [] (by simp only [go_sem, seval, ab_, aa_, ai_, ttP.OR_len, b4_, bl_, bs_, hxl, co_ (show k < ls.length by simpa using h18)]; rfl) ?_ ?_))))
   ·simp only [decide_eq_true_eq] at h18; simp; omega
   refine .rgn [b4_ [] (1000 + ttP.NL (xs.take k)) (hP k (by simpa using h18)) (ttP.seg (1000 + ttP.NL (xs.take k)) (xs.getD k Pg0))] (by simp only [go_sem, seval, ab_, aa_, ai_, ttP.OR_len, b4_, bl_, bs_, hxl, ae0_ (show 1000 + ttP.NL (xs.take k) = 1000 + (ttP.BL 1000 (xs.take k)).length by rw [ttP.BL_len]), ← ttP.BL_take (d := Pg0) (show k < xs.length by rw [hxl]; simpa using h18)]; rfl) ?_ ?_
   ·simp only [decide_eq_true_eq, decide_eq_false_iff_not] at h11 h18; have hk : k < ls.length := (by omega); have q := hN (k + 1); rw [ttP.NL_take (d := Pg0) (by omega)] at q; and_intros <;> first | omega | exact ax_ _ _ | rfl | exact (ttP.own _ _).2 | (rw [ttP.len]; exact ahz_ (by decide) (by decide) (by omega)) | exact hO _ _
   refine .rgn [] (by simp only [go_sem, seval, ab_, aa_, ai_, ttP.OR_len, b4_, bl_, bs_, hxl]; rfl) ?_ ?_
   ·(first | trivial | (simp; done) | (simp only [decide_eq_false_iff_not] at h11; and_intros <;> omega))
   refine Exists.intro (k + 1) ⟨?_, ?_, ?_⟩
   ·simp at h18; omega
   ·simp at h18; omega
   exact Can.weak (Weak.lit (by simp only [go_sem, seval, ab_, aa_, ai_, ttP.OR_len, b4_, bl_, bs_, hxl, an_, leV, al_, am_, V.inn, us, true_or, or_true] <;> (rw [bc_ (by simp at h18; omega) (by simp at h18; omega)]; (try simp))) (by simp only [go_sem, seval, ab_, aa_, ai_, ttP.OR_len, b4_, bl_, bs_, hxl, an_, leV, al_, am_, V.inn, us, true_or, or_true]) (by simp only [go_sem, seval, ab_, aa_, ai_, ttP.OR_len, b4_, bl_, bs_, hxl, an_, leV, al_, am_, V.inn, us, true_or, or_true] <;> (exact ttP.wkS (by rw [hxl]; simpa using h18) (by decide) hO hz4 rfl)))
  ·refine .exit (.seq (.rgn [] (by simp only [go_sem, seval, ab_, aa_, ai_, ttP.OR_len, b4_, bl_, bs_, hxl]; rfl) ?_ ?_))
   ·(first | trivial | (simp; done) | (simp only [decide_eq_false_iff_not] at h11; and_intros <;> omega))
   refine .ret ⟨.inr rfl, ?_⟩
   first | (simp only [decide_eq_true_eq] at h11; rw [hb, if_neg (by omega)]; exact ttP.out_lst (by simp only [Tryz.results25]; rfl) (by simp only [aq_, a8_, go_sem, seval, ab_, aa_, ai_, ttP.OR_len, b4_, bl_, bs_, hxl]) (by simp only [a7_, go_sem, seval, ab_, aa_, ai_, ttP.OR_len, b4_, bl_, bs_, hxl] <;> rfl) (by decide) rfl) | (simp only [decide_eq_false_iff_not] at h11 h18; rw [hb, if_pos (by omega)]; exact ttP.out_lst (by simp only [Tryz.results25]; rfl) (by simp only [aq_, a8_, go_sem, seval, ab_, aa_, ai_, ttP.OR_len, b4_, bl_, bs_, hxl]) (by simp only [a7_, go_sem, seval, ab_, aa_, ai_, ttP.OR_len, b4_, bl_, bs_, hxl] <;> rw [hxl]) (by decide) (by show aw_ _ = aw_ _; rw [gu_ (by rw [ttP.OR_len]; omega), List.take_of_length_le (by omega)]))
end
end Go.Proofs.YtefmbmafdgedmaaGreatDoor
