/- Two rows of places in one memory. Conditions: none. -/
import Derived.Test.YtefmbmafdgedmaaGreatDoorK20
import Derived.Test.YtefmbmafdgedmaaGreatDoorK30
import Derived.Test.YtefmbmafdgedmaaGreatDoorK31
set_option linter.unusedVariables false
set_option linter.unusedSimpArgs false
namespace Go.Proofs.YtefmbmafdgedmaaGreatDoor
section
open Go.RowKit
set_option maxRecDepth 100000
theorem al_ {c' : Nat} {bs : List Blk} {R : List (Nat × Blk)} : ∀ {X : List Blk} {c : Nat}, c + X.length ≤ c' → wrL (bu_ c X ++ R) (es_ c' bs) = bu_ c X ++ wrL R (es_ c' bs)
 | [], _, _ => rfl
 | x :: X, c, h => by
  simp only [T7_] at h
  simp only [bu_, List.cons_append]
  rw [g6_ bs c' _ (.inl (by omega)), al_ (X := X) (by omega)]
theorem az_ {c' : Nat} {bs X : List Blk} {c : Nat} (h : c + X.length ≤ c') : wrL (bu_ c X) (es_ c' bs) = bu_ c X ++ bu_ c' bs := by
 have := al_ (bs := bs) (R := []) h
 rw [List.append_nil, ak_] at this
 exact this
theorem y2_ {c c' i : Nat} {X : List Blk} {R : List (Nat × Blk)} (h : c + X.length ≤ c') : bk_ (bu_ c X ++ R) (c' + i) = bk_ R (c' + i) := by rw [fl_, ei_ (.inr (by omega))]; rfl
theorem a0_ {c0 d x : Nat} {X : List Blk} {R : List (Nat × Blk)} (h : x < c0) : bk_ (bu_ (c0 + d) X ++ R) x = bk_ R x := a4_ (by omega)
theorem at_ {c0 d x : Nat} {X : List Blk} (h : x < c0) : bk_ (bu_ (c0 + d) X) x = none := au_ (by omega)
theorem ba_ {c0 d x : Nat} {X : List Blk} {R : List (Nat × Blk)} {b : Blk} (h : x < c0) : hl_ (bu_ (c0 + d) X ++ R) x b = bu_ (c0 + d) X ++ hl_ R x b := bc_ (by omega)
theorem a1_ {c0 d x : Nat} {X : List Blk} {b : Blk} (h : x < c0) : hl_ (bu_ (c0 + d) X) x b = bu_ (c0 + d) X ++ [(x, b)] := a5_ (by omega)
theorem sg_ (c : Nat) (k : Int) : SegOk c [.i .i64 k] [.i .i64 k] [] [] := vm_ rfl (fun x hx => by cases hx)
end
section
open Go.RowKit
set_option maxRecDepth 100000
set_option maxHeartbeats 4000000
theorem aom_ (p : Pg) (k : Int) : pgC (mPS p k).1 = [.s (mkT k), .b ((k + 1).tmod 3 == 0), .s (mkT (k + 2)), .sl false (inR (h6_ (k + 3) p.frm.length))] := rfl
theorem f7_ (l : List Pg) (k : Int) (h0 : 0 ≤ k) (h1 : k + 3 * (l.length : Int) + (fL l : Int) ≤ 1000000) : ACall En 28 [.sl false (pgR (bl_ mPS l k).1), .i .i64 k] [] [.i .i64 (bl_ mPS l k).2] [] := by
 have hlen : (pgR (bl_ mPS l k).1).length = l.length := by rw [ae_, fj_]
 have hK := ur_ l k
 have hbd : ∀ i, i < l.length → 0 ≤ mkK mPS l k i ∧ mkK mPS l k i + 3 + ((l.getD i Pg0).frm.length : Int) ≤ 1000000 := fun i h => by
  have q1 := hK i (by omega)
  have q2 := tl_ h
  have q3 := akq_ l (i + 1)
  exact ⟨by omega, by omega⟩
 have hrow : ∀ i, i < l.length → (pgR (bl_ mPS l k).1).getD i [] = [.s (mkT (mkK mPS l k i)), .b ((mkK mPS l k i + 1).tmod 3 == 0), .s (mkT (mkK mPS l k i + 2)), .sl false (inR (h6_ (mkK mPS l k i + 3) (l.getD i Pg0).frm.length))] := fun i h => by
  rw [eg_ (by rw [fj_]; exact h), abd_ mPS (d := Pg0) h, aom_]
 have hnx : ∀ i, i < l.length → mkK mPS l k (i + 1) = mkK mPS l k i + 3 + (l.getD i Pg0).frm.length := fun i h => by rw [qs_ mPS (d := Pg0) h]; rfl
 have hend := tj_ mPS (k := k) (Nat.le_refl l.length)
 have hw1 : ∀ i, i < l.length → IntKind.i64.wrap (mkK mPS l k i + 1) = mkK mPS l k i + 1 := fun i h => by have := hbd i h; exact bx_ (by omega) (by omega)
 have hw2 : ∀ i, i < l.length → IntKind.i64.wrap (mkK mPS l k i + 1 + 1) = mkK mPS l k i + 2 := fun i h => by have := hbd i h; rw [bx_ (by omega) (by omega)]; omega
 have hw3 : ∀ i, i < l.length → IntKind.i64.wrap (mkK mPS l k i + 2 + 1) = mkK mPS l k i + 3 := fun i h => by have := hbd i h; rw [bx_ (by omega) (by omega)]; omega
 refine ao_ (fn := Tryz.f28) [] Tryz.func28 rfl rfl (by simp) fun C => ?_
 rw [bb_]
 simp only [Tryz.ntmps28, T7_, List.length_nil, Nat.reduceAdd, Nat.reduceSub, List.replicate_succ, List.replicate_zero, List.cons_append, List.nil_append, bu_]
 refine .seq (.rgn [] (by simp only [go_sem, seval, hlen, ac_, ad_]; rfl) ?_ ?_)
 ·(first | trivial | (simp; done) | (simp only [T3_] at h9; and_intros <;> first | omega | (simp [hlen]; omega)))
 refine .seq (.seq (.rgn [] (by simp only [go_sem, seval, hlen, ac_, ad_]; rfl) ?_ ?_))
 ·(first | trivial | (simp; done) | (simp only [T3_] at h9; and_intros <;> first | omega | (simp [hlen]; omega)))
 refine .block (.loopK (fun i : Nat => ⟨[.sl false (pgR (bl_ mPS l k).1), .i .i64 (mkK mPS l k i), .no, .no, .no, .i .i64 i, .no, .no, .no, .no, .no, .no, .no, .no, .no, .no, .no, .no, .no, .no, .no, .no, .no, .no, .no, .no, .no, .no, .no, .no, .no, .no, .no, .no, .no, .no, .no, .no, .no, .no, .no, .no, .no, .no, .no, .no, .no, .no, .no, .no, .no, .no, .no], bk_ [], us []⟩) (fun i : Nat => i ≤ l.length) (fun i : Nat => l.length - i) (0) ?_ ?_ (fun i hI => ?_))
 ·simp
 ·exact Can.weak (Weak.lit (by simp only [go_sem, seval, hlen, ac_, ad_, ay_, leV, aw_, ax_, V.inn, us, T9_, Ta_] <;> (simp [p3_])) (by simp only [go_sem, seval, hlen, ac_, ad_, ay_, leV, aw_, ax_, V.inn, us, T9_, Ta_]) (by simp only [go_sem, seval, hlen, ac_, ad_, ay_, leV, aw_, ax_, V.inn, us, T9_, Ta_]))
 refine .seq (.seq (.rgn [] (by simp only [go_sem, seval, hlen, ac_, ad_]; rfl) ?_ ?_))
 ·(first | trivial | (simp; done) | (simp only [T3_] at h9; and_intros <;> first | omega | (simp [hlen]; omega)))
 refine .condB (by simp only [go_sem, seval, hlen, ac_, ad_]; rfl) (by simp only [go_sem, seval, hlen, ac_, ad_]) (fun h9 => ?_) (fun h9 => ?_)
 ·refine .skip (.seq (.block (.seq (.seq (.rgnD [bj_ (jh_ (mkK mPS l k i) (by have := hbd i (by simpa using h9); omega) (by have := hbd i (by simpa using h9); omega))] enM (by simp only [go_sem, seval, hlen, ac_, ad_, hrow i (by simpa using h9)]; rfl) (by rfl) ?_ ?_)))))
  ·(first | trivial | (simp; done) | (simp only [T3_] at h9; and_intros <;> first | omega | (simp [hlen]; omega)))
  refine .condB (by simp only [go_sem, seval, hlen, ac_, ad_]; rfl) (by simp only [go_sem, seval, hlen, ac_, ad_]) (fun h19 => ?_) (fun h19 => ?_)
  ·simp at h19
  ·refine .skip (.seq (.rgn [] (by simp only [go_sem, seval, hlen, ac_, ad_, hw1 i (show i < l.length by simpa using h9)]; rfl) ?_ ?_))
   ·(first | trivial | (simp; done) | (simp only [T3_] at h9; and_intros <;> first | omega | (simp [hlen]; omega)))
   refine .seq (.seq (.rgn [] (by simp only [go_sem, seval, hlen, ac_, ad_, hrow i (by simpa using h9), hw1 i (show i < l.length by simpa using h9)]; rfl) ?_ ?_))
   ·(first | trivial | (simp; done) | (simp only [T3_] at h9; and_intros <;> first | omega | (simp [hlen]; omega)))
   refine .condB (by simp only [go_sem, seval, hlen, ac_, ad_]; rfl) (by simp only [go_sem, seval, hlen, ac_, ad_]) (fun h30 => ?_) (fun h30 => ?_)
   ·simp at h30
   ·refine .skip (.seq (.rgn [] (by simp only [go_sem, seval, hlen, ac_, ad_, hw1 i (show i < l.length by simpa using h9), hw2 i (show i < l.length by simpa using h9)]; rfl) ?_ ?_))
    ·(first | trivial | (simp; done) | (simp only [T3_] at h9; and_intros <;> first | omega | (simp [hlen]; omega)))
    refine .seq (.seq (.rgnD [bj_ (jh_ (mkK mPS l k i + 2) (by have := hbd i (by simpa using h9); omega) (by have := hbd i (by simpa using h9); omega))] enM (by simp only [go_sem, seval, hlen, ac_, ad_, hrow i (by simpa using h9), hw1 i (show i < l.length by simpa using h9), hw2 i (show i < l.length by simpa using h9)]; rfl) (by rfl) ?_ ?_))
    ·(first | trivial | (simp; done) | (simp only [T3_] at h9; and_intros <;> first | omega | (simp [hlen]; omega)))
    refine .condB (by simp only [go_sem, seval, hlen, ac_, ad_]; rfl) (by simp only [go_sem, seval, hlen, ac_, ad_]) (fun h40 => ?_) (fun h40 => ?_)
    ·simp at h40
    ·refine .skip (.seq (.rgn [] (by simp only [go_sem, seval, hlen, ac_, ad_, hw3 i (show i < l.length by simpa using h9)]; rfl) ?_ ?_))
     ·(first | trivial | (simp; done) | (simp only [T3_] at h9; and_intros <;> first | omega | (simp [hlen]; omega)))
     refine .seq (.rgn [bj_ (x4_ (l.getD i Pg0).frm.length (mkK mPS l k i + 3) (by have := hbd i (by simpa using h9); omega) (by have := hbd i (by simpa using h9); omega) (by have := hbd i (by simpa using h9); omega))] (by simp only [go_sem, seval, hlen, ac_, ad_, hrow i (by simpa using h9), hw3 i (show i < l.length by simpa using h9)]; rfl) ?_ ?_)
     ·(first | trivial | (simp; done) | (simp only [T3_] at h9; and_intros <;> first | omega | (simp [hlen]; omega)))
     refine .seq (.rgn [] (by simp only [go_sem, seval, hlen, ac_, ad_]; rfl) ?_ ?_)
     ·(first | trivial | (simp; done) | (simp only [T3_] at h9; and_intros <;> first | omega | (simp [hlen]; omega)))
     refine .condB (by simp only [go_sem, seval, hlen, ac_, ad_]; rfl) (by simp only [go_sem, seval, hlen, ac_, ad_]) (fun h51 => ?_) (fun h51 => ?_)
     ·simp only [T3_] at h51; have := (hbd i (by simpa using h9)).1; omega
     ·refine .skip (.rgn [] (by simp only [go_sem, seval, hlen, ac_, ad_]; rfl) ?_ ?_)
      ·(first | trivial | (simp; done) | (simp only [T3_] at h9; and_intros <;> first | omega | (simp [hlen]; omega)))
      refine Exists.intro (i + 1) ⟨?_, ?_, ?_⟩
      ·simp at h9; omega
      ·simp at h9; omega
      exact Can.weak (Weak.lit (by simp only [go_sem, seval, hlen, ac_, ad_, ay_, leV, aw_, ax_, V.inn, us, T9_, Ta_] <;> (exact ⟨(hnx i (by simpa using h9)).symm, bx_ (by simp at h9; omega) (by simp at h9; omega)⟩)) (by simp only [go_sem, seval, hlen, ac_, ad_, ay_, leV, aw_, ax_, V.inn, us, T9_, Ta_]) (by simp only [go_sem, seval, hlen, ac_, ad_, ay_, leV, aw_, ax_, V.inn, us, T9_, Ta_]))
 ·refine .exit (.seq (.rgn [] (by simp only [go_sem, seval, hlen, ac_, ad_]; rfl) ?_ ?_))
  ·(first | trivial | (simp; done) | (simp only [T3_] at h9; and_intros <;> first | omega | (simp [hlen]; omega)))
  refine .ret ⟨.inr rfl, ?_⟩
  exact Out.plain (by simp only [Tryz.results28]; rfl) (by simp only [bd_, bo_, go_sem, seval, hlen, ac_, ad_] <;> (split <;> rfl)) (by simp only [bn_, go_sem, seval, hlen, ac_, ad_] <;> (simp at h9; rw [show i = l.length by omega, hend])) (by simp only [go_sem, seval, hlen, ac_, ad_])
section
open TT
variable {α : Type} (t : TT α)
theorem TT.lst_segB (T z c : Nat) (l : List α) (o : Bool) : SegOk c [.ow 0 z 0 l.length, .b o] [.ow c z 0 l.length, .b o] (t.lst T z 0 l) (t.lst T z c l) := by
 obtain ⟨h1, h2, h3, h4, h5⟩ := t.lst_seg T z c l
 refine ⟨h1, h2, ?_, ?_, h5⟩
 ·simp only [rns, rn, List.cons.injEq, and_true] at h3 ⊢; exact h3
 ·simp only [cls, V.cl, Bool.and_true] at h4 ⊢; exact h4
variable {E : Env} {fn : Func} {s : St} {lr : List ResultVar}
theorem TT.out_lstB {T z c : Nat} {xs : List α} {o : Bool} (hl : fn.results.toList = lr) (h1 : bd_ E.P s lr) (h2 : lr.map (bn_ E.P s) = [.ow c z 0 xs.length, .b o]) (hm : ∀ i b, (t.lst T z c xs)[i]? = some b → s.m (c + i) = some b) : Out E fn 0 [.ow 0 z 0 xs.length, .b o] (t.lst T z 0 xs) (List.range' c (t.NL xs + 1)) s := by
 subst hl
 obtain ⟨g1, g2, g3, g4, g5⟩ := t.lst_segB T z c xs o
 rw [lst_len] at g2 g3 g4 g5
 refine ⟨h1, ?_, by rw [lst_len]; simp, Nat.zero_le _, rfl, List.nodup_range', ?_, fun b hb => ?_, fun i b hb => ?_⟩
 ·rw [h2, g3]; exact e3_ _
 ·rw [lst_len]; exact g4
 ·rw [lst_len]; exact g5 b hb
 ·have hi : i < t.NL xs + 1 := by rw [← t.lst_len T z 0 xs]; exact (List.getElem?_eq_some_iff.1 hb).1
  rw [eh_ hi]
  refine hm i _ ?_
  rw [← g2, List.getElem?_map, hb]; rfl
end
theorem ak6_ (l : List Pg) {T c : Nat} {m : Mem} (h : ∀ i x, (ttP.lst T 4 c (bl_ mPS l 1).1)[i]? = some x → m (c + i) = some x) : LD m (.ow c 4 0 l.length) (.sl false (pgR (bl_ mPS l 1).1)) := by
 have := l5_ (bl_ mPS l 1).1 h
 rwa [fj_] at this
end
end Go.Proofs.YtefmbmafdgedmaaGreatDoor
