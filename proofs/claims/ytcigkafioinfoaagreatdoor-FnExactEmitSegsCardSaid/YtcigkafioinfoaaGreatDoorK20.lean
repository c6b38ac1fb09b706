/- Rows of places, written anew one after another. Conditions: none. -/
import Derived.Test.YtcigkafioinfoaaGreatDoorK18
import Derived.Test.YtcigkafioinfoaaGreatDoorKb
import Derived.Test.YtcigkafioinfoaaGreatDoorK8
import Derived.Test.YtcigkafioinfoaaGreatDoorK19
set_option linter.unusedVariables false
set_option linter.unusedSimpArgs false
namespace Go.Proofs.YtcigkafioinfoaaGreatDoor
section
open Go.RowKit
set_option maxRecDepth 100000
def c4_ {α : Type} (m : α → Int → α × Int) : List α → Int → List α × Int
 | [], k => ([], k)
 | a :: r, k => ((m a k).1 :: (c4_ m r (m a k).2).1, (c4_ m r (m a k).2).2)
section
variable {α : Type} (m : α → Int → α × Int)
theorem i8_ : ∀ (a b : List α) (k : Int), c4_ m (a ++ b) k = ((c4_ m a k).1 ++ (c4_ m b (c4_ m a k).2).1, (c4_ m b (c4_ m a k).2).2)
 | [], b, k => rfl
 | e :: a, b, k => by simp only [List.cons_append, c4_, i8_ a b]
theorem gz_ : ∀ (l : List α) (k : Int), (c4_ m l k).1.length = l.length
 | [], k => rfl
 | e :: r, k => by simp only [c4_, T7_, gz_ r]
def mkP (l : List α) (k : Int) (i : Nat) : List α := (c4_ m (l.take i) k).1 ++ l.drop i
def mkK (l : List α) (k : Int) (i : Nat) : Int := (c4_ m (l.take i) k).2
theorem tu_ (l : List α) (k : Int) : mkP m l k 0 = l := by simp [mkP, c4_]
theorem kn_ (l : List α) (k : Int) : mkK m l k 0 = k := by simp [mkK, c4_]
theorem wz_ {l : List α} {k : Int} {i : Nat} (h : l.length ≤ i) : mkP m l k i = (c4_ m l k).1 := by
 unfold mkP; rw [T1_ h, List.drop_of_length_le h, List.append_nil]
theorem na_ {l : List α} {k : Int} {i : Nat} (h : l.length ≤ i) : mkK m l k i = (c4_ m l k).2 := by
 unfold mkK; rw [T1_ h]
theorem xe_ {l : List α} {k : Int} {i : Nat} (h : i ≤ l.length) : (mkP m l k i).length = l.length := by
 unfold mkP; rw [T2_, gz_, List.length_take, List.length_drop]; omega
theorem gy_ {l : List α} {k : Int} {i : Nat} {d : α} (h : i < l.length) : mkP m l k i = (c4_ m (l.take i) k).1 ++ l.getD i d :: l.drop (i + 1) := by
 unfold mkP
 congr 1
 rw [T8_, T6_ h, Option.getD_some, ← List.drop_eq_getElem_cons h]
theorem o3_ {l : List α} {k : Int} {i : Nat} {d : α} (h : i < l.length) : mkP m l k (i + 1) = (c4_ m (l.take i) k).1 ++ (m (l.getD i d) (mkK m l k i)).1 :: l.drop (i + 1) := by
 have e : l.take (i + 1) = l.take i ++ [l.getD i d] := by
  rw [List.take_add_one, T6_ h, T8_, T6_ h]; rfl
 unfold mkP mkK
 rw [e, i8_]
 simp [c4_]
theorem on_ {l : List α} {k : Int} {i : Nat} (e' : α) (h : i < l.length) : (mkP m l k i).set i e' = (c4_ m (l.take i) k).1 ++ e' :: l.drop (i + 1) := by
 have hl : (c4_ m (l.take i) k).1.length = i := by rw [gz_, List.length_take]; omega
 rw [gy_ m (d := l[i]) h, List.set_append_right _ _ (by omega), hl, Nat.sub_self]; rfl
theorem io_ {l : List α} {k : Int} {i : Nat} {d : α} (h : i < l.length) : mkK m l k (i + 1) = (m (l.getD i d) (mkK m l k i)).2 := by
 have e : l.take (i + 1) = l.take i ++ [l.getD i d] := by
  rw [List.take_add_one, T6_ h, T8_, T6_ h]; rfl
 unfold mkK
 rw [e, i8_]
 simp [c4_]
end
theorem bg_ {k : Nat} : ∀ {L : List Blk}, (∀ b ∈ L, clr k b.rows = true) → bt_ k L = true
 | [], _ => rfl
 | b :: L, h => by simp only [bt_, T5_]; exact ⟨h b List.mem_cons_self, bg_ fun c hc => h c (List.mem_cons_of_mem _ hc)⟩
theorem hw_ (X : List Blk) : i1_ 0 X = bu_ 1000000000 X := by simp [i1_, bu_]
theorem b1_ (b : Blk) (X : List Blk) : i1_ 1 (b :: X) = (0, b) :: bu_ 1000000000 X := by simp [i1_, bu_]
theorem sw_ {E : Env} {fn : Func} {s : St} {lr : List ResultVar} {rs' : List V} {Lr' : List Blk} {h : Nat} (hh : h ≤ 10) (hl : fn.results.toList = lr) (h1 : ba_ E.P s lr) (h2 : les (lr.map (bq_ E.P s)) rs') (h3 : s.m = bf_ (i1_ h Lr')) :
  ba_ E.P s fn.results.toList ∧ les (fn.results.toList.map (bq_ E.P s)) rs' ∧ ∀ i b, Lr'[i]? = some b → s.m (nmD h i) = some b := by
 subst hl
 exact ⟨h1, h2, fun i b hb => by rw [h3, kk_ hh]; exact hb⟩
theorem lz_ {E : Env} {fn : Func} {s : St} {lr : List ResultVar} {rs' : List V} {Lr' : List Blk} {R : List (Nat × Blk)} (hl : fn.results.toList = lr) (h1 : ba_ E.P s lr) (h2 : les (lr.map (bq_ E.P s)) rs') (h3 : s.m = bf_ (bu_ 1000000000 Lr' ++ R)) :
  ba_ E.P s fn.results.toList ∧ les (fn.results.toList.map (bq_ E.P s)) rs' ∧ ∀ i b, Lr'[i]? = some b → s.m (nmD 0 i) = some b := by
 subst hl
 refine ⟨h1, h2, fun i b hb => ?_⟩
 rw [h3, db_, show nmD 0 i = 1000000000 + i by simp [nmD], at_, hb]; rfl
theorem a4_ {c n : Nat} (h : 0 < n) : (List.range' c n).getD 0 0 = c := by have := bp_ (c := c) h; simpa using this
theorem jq_ {L : List (List V)} {i : Nat} (h : i < L.length) (r : List V) : (L.set i r).getD i [] = r := by simp [T8_, List.getElem?_set, h]
namespace TT
variable {α : Type} (t : TT α)
theorem deep_lst1 (T z : Nat) (l : List α) : (t.lst T z 0 l).map (rnB (ηD 1 (t.lst T z 0 l).length)) = ⟨T, z, t.OR 1000000000 l⟩ :: t.BL 1000000000 l := by
 have hη : ∀ i, i < t.NL l → (ηD 1 (t.lst T z 0 l).length).getD (1 + i) 0 = 1000000000 + i := fun i hi => by
  rw [i3_ (by rw [lst_len]; omega)]; unfold nmD; rw [if_neg (by omega)]; omega
 obtain ⟨q1, q2⟩ := t.BL_map l (ηD 1 (t.lst T z 0 l).length) 1 1000000000 hη
 simp only [lst, Nat.zero_add, List.map_cons, rnB] at q1 q2 ⊢
 rw [q1, q2]
theorem deep_one (a : α) : rns (ηD 0 (t.B 0 a).length) (t.O 0 a) = t.O 1000000000 a ∧ (t.B 0 a).map (rnB (ηD 0 (t.B 0 a).length)) = t.B 1000000000 a := by
 refine t.map a _ 0 1000000000 fun i hi => ?_
 rw [i3_ (by rw [t.len]; omega)]; unfold nmD; rw [if_neg (by omega)]; omega
theorem d_cv (a : α) (k : Int) : cls (t.B 0 a).length [.ag (t.O 0 a), .i .i64 k] = true := by
 rw [t.len]; simp only [cls, V.cl, (t.cl a 0 _ (Nat.le_of_eq (Nat.zero_add _))).1, Bool.and_self]
theorem d_c0 (a : α) : ∀ b ∈ t.B 0 a, clr (t.B 0 a).length b.rows = true := by
 rw [t.len]; exact (t.cl a 0 _ (Nat.le_of_eq (Nat.zero_add _))).2
theorem d_e1 (a : α) (k : Int) : rns (ηD 0 (t.B 0 a).length) [.ag (t.O 0 a), .i .i64 k] = [.ag (t.O 1000000000 a), .i .i64 k] := by
 simp only [rns, rn, (t.deep_one a).1]
theorem lst_rmap (T z c : Nat) (l : List α) : (t.lst T z 0 l).map (rnB (List.range' c (t.lst T z 0 l).length)) = t.lst T z c l :=
 t.lst_map T z l _ 0 c fun i hi => by rw [Nat.zero_add]; exact bp_ (by rw [lst_len]; exact hi)
theorem lst_rcl (T z : Nat) (l : List α) : ∀ b ∈ t.lst T z 0 l, clr (t.lst T z 0 l).length b.rows = true := t.lst_cl T z l 0 _ (by rw [lst_len]; omega)
theorem mk_NL {m : α → Int → α × Int} (hm : ∀ a k, t.N (m a k).1 = t.N a) : ∀ (l : List α) (k : Int), t.NL (c4_ m l k).1 = t.NL l
 | [], k => rfl
 | e :: r, k => by simp only [c4_, NL, hm, mk_NL hm r]
theorem OR_mid (b : Nat) (A Z : List α) (e : α) : (t.OR b (A ++ e :: Z)).getD A.length [] = t.O (b + t.NL A) e := by
 rw [ok_, T8_, List.getElem?_append_right (by rw [OR_len]; exact Nat.le_refl _), OR_len, Nat.sub_self]; rfl
theorem OR_mid_set (b : Nat) (A Z : List α) (e e' : α) (h : t.N e' = t.N e) : (t.OR b (A ++ e :: Z)).set A.length (t.O (b + t.NL A) e') = t.OR b (A ++ e' :: Z) := by
 rw [ok_, ok_, List.set_append_right _ _ (by rw [OR_len]; exact Nat.le_refl _), OR_len, Nat.sub_self]
 simp only [OR, List.set_cons_zero, h]
theorem BL_wr {b c : Nat} {A Z : List α} {e e' : α} {F os bs G : List Blk} (hc : c = b + t.NL A + F.length) (h1 : t.B (b + t.NL A) e = F ++ os ++ G) (h2 : t.B (b + t.NL A) e' = F ++ bs ++ G) (hl : os.length = bs.length) (hn : t.N e' = t.N e) :
  wrL (bu_ b (t.BL b (A ++ e :: Z))) (dx_ c bs) = bu_ b (t.BL b (A ++ e' :: Z)) := by
 rw [og_, og_]
 simp only [BL, h1, h2, hn]
 have := f9_ (k := b) bs os (t.BL b A ++ F) (G ++ t.BL (b + t.NL A + t.N e) Z) [] hl
 simp only [List.append_nil, T2_, BL_len, List.append_assoc, Nat.add_assoc] at this ⊢
 rw [hc]; simp only [Nat.add_assoc]; exact this
theorem BL_rd {b c j : Nat} {A Z : List α} {e : α} {F bs G : List Blk} {x : Blk} (hc : c = b + t.NL A + F.length) (h1 : t.B (b + t.NL A) e = F ++ bs ++ G) (hx : bs[j]? = some x) : bf_ (bu_ b (t.BL b (A ++ e :: Z))) (c + j) = some x := by
 rw [hc, show b + t.NL A + F.length + j = b + (t.NL A + F.length + j) by omega, at_, og_]
 simp only [BL, h1]
 have hj := (List.getElem?_eq_some_iff.1 hx).1
 rw [List.getElem?_append_right (by rw [BL_len]; omega), BL_len, List.getElem?_append_left (by simp only [T2_]; omega), List.getElem?_append_left (by simp only [T2_]; omega), List.getElem?_append_right (by omega)]
 rw [← hx]; congr 1; omega
theorem hi_keep (l : List α) (b0 : Blk) : ay_ (us []) (t.OR 1000000000 l) = true ∧ a2_ ((0, b0) :: bu_ 1000000000 (t.BL 1000000000 l)) [] (bu_ 1000000000 (t.BL 1000000000 l)) := by
 have hU : ∀ i, us [] (1000000000 + i) = true := fun i => by simp [us]
 obtain ⟨q1, q2⟩ := t.BL_inn l 1000000000 (us []) fun i _ => hU i
 refine ⟨q1, k3_ fun i b hb => ⟨?_, hU i, q2 b (List.mem_of_getElem? hb)⟩⟩
 rw [as_, if_neg (by omega), at_]; exact hb
section
variable {m : α → Int → α × Int} (hm : ∀ a k, t.N (m a k).1 = t.N a)
include hm
theorem mk_wr {l : List α} {k : Int} {i : Nat} {d : α} {c : Nat} {F os bs G : List Blk} (h : i < l.length) (hc : c = 1000000000 + t.NL (l.take i) + F.length) (h1 : t.B (1000000000 + t.NL (l.take i)) (l.getD i d) = F ++ os ++ G) (h2 : t.B (1000000000 + t.NL (l.take i)) (m (l.getD i d) (mkK m l k i)).1 = F ++ bs ++ G) (hl : os.length = bs.length) :
  wrL (bu_ 1000000000 (t.BL 1000000000 (mkP m l k i))) (dx_ c bs) = bu_ 1000000000 (t.BL 1000000000 (mkP m l k (i + 1))) := by
 rw [gy_ m (d := d) h, o3_ m (d := d) h]
 have e := t.mk_NL hm (l.take i) k
 exact t.BL_wr (by rw [e]; exact hc) (by rw [e]; exact h1) (by rw [e]; exact h2) hl (hm _ _)
theorem mk_rd {l : List α} {k : Int} {i j c : Nat} {d : α} {F bs G : List Blk} {x : Blk} (h : i < l.length) (hc : c = 1000000000 + t.NL (l.take i) + F.length) (h1 : t.B (1000000000 + t.NL (l.take i)) (l.getD i d) = F ++ bs ++ G) (hx : bs[j]? = some x) : bf_ (bu_ 1000000000 (t.BL 1000000000 (mkP m l k i))) (c + j) = some x := by
 rw [gy_ m (d := d) h]
 have e := t.mk_NL hm (l.take i) k
 exact t.BL_rd (by rw [e]; exact hc) (by rw [e]; exact h1) hx
theorem mk_wr1 {l : List α} {k : Int} {i : Nat} {d e' : α} {c : Nat} {F os bs G : List Blk} (h : i < l.length) (hc : c = 1000000000 + t.NL (l.take i) + F.length) (h1 : t.B (1000000000 + t.NL (l.take i)) (l.getD i d) = F ++ os ++ G) (h2 : t.B (1000000000 + t.NL (l.take i)) e' = F ++ bs ++ G) (hl : os.length = bs.length) (hn : t.N e' = t.N (l.getD i d)) :
  wrL (bu_ 1000000000 (t.BL 1000000000 (mkP m l k i))) (dx_ c bs) = bu_ 1000000000 (t.BL 1000000000 ((mkP m l k i).set i e')) := by
 rw [on_ m e' h, gy_ m (d := d) h]
 have e := t.mk_NL hm (l.take i) k
 exact t.BL_wr (by rw [e]; exact hc) (by rw [e]; exact h1) (by rw [e]; exact h2) hl hn
theorem mk_wr2 {l : List α} {k : Int} {i : Nat} {d e' : α} {c : Nat} {F os bs G : List Blk} (h : i < l.length) (hc : c = 1000000000 + t.NL (l.take i) + F.length) (h1 : t.B (1000000000 + t.NL (l.take i)) e' = F ++ os ++ G) (h2 : t.B (1000000000 + t.NL (l.take i)) (m (l.getD i d) (mkK m l k i)).1 = F ++ bs ++ G) (hl : os.length = bs.length) (hn : t.N e' = t.N (l.getD i d)) :
  wrL (bu_ 1000000000 (t.BL 1000000000 ((mkP m l k i).set i e'))) (dx_ c bs) = bu_ 1000000000 (t.BL 1000000000 (mkP m l k (i + 1))) := by
 rw [on_ m e' h, o3_ m (d := d) h]
 have e := t.mk_NL hm (l.take i) k
 exact t.BL_wr (by rw [e]; exact hc) (by rw [e]; exact h1) (by rw [e]; exact h2) hl ((hm _ _).trans hn.symm)
theorem mk_rd2 {l : List α} {k : Int} {i j c : Nat} {e' : α} {F bs G : List Blk} {x : Blk} (h : i < l.length) (hc : c = 1000000000 + t.NL (l.take i) + F.length) (h1 : t.B (1000000000 + t.NL (l.take i)) e' = F ++ bs ++ G) (hx : bs[j]? = some x) : bf_ (bu_ 1000000000 (t.BL 1000000000 ((mkP m l k i).set i e'))) (c + j) = some x := by
 rw [on_ m e' h]
 have e := t.mk_NL hm (l.take i) k
 exact t.BL_rd (by rw [e]; exact hc) (by rw [e]; exact h1) hx
theorem mkP_row {b : Nat} {l : List α} {k : Int} {i : Nat} {d : α} (h : i < l.length) : (t.OR b (mkP m l k i)).getD i [] = t.O (b + t.NL (l.take i)) (l.getD i d) := by
 have hl : (c4_ m (l.take i) k).1.length = i := by rw [gz_, List.length_take]; omega
 have := t.OR_mid b (c4_ m (l.take i) k).1 (l.drop (i + 1)) (l.getD i d)
 rw [hl, ← gy_ m h, t.mk_NL hm] at this
 exact this
theorem mkP_set {b : Nat} {l : List α} {k : Int} {i : Nat} {d : α} (h : i < l.length) : (t.OR b (mkP m l k i)).set i (t.O (b + t.NL (l.take i)) (m (l.getD i d) (mkK m l k i)).1) = t.OR b (mkP m l k (i + 1)) := by
 have hl : (c4_ m (l.take i) k).1.length = i := by rw [gz_, List.length_take]; omega
 have := t.OR_mid_set b (c4_ m (l.take i) k).1 (l.drop (i + 1)) (l.getD i d) (m (l.getD i d) (mkK m l k i)).1 (hm _ _)
 rw [hl, ← gy_ m h, ← o3_ m h, t.mk_NL hm] at this
 exact this
end
end TT
end
section
open Go.RowKit
set_option maxRecDepth 100000
theorem q5_ (c : Nat) (b : Bool) : SegOk c [.b b] [.b b] [] [] := ⟨rfl, rfl, by simp only [rns, rn], rfl, fun x hx => by cases hx⟩
theorem mp_ {c : Nat} {k : Int} {Lr bs : List Blk} (h : Lr.map (rnB (List.range' c Lr.length)) = bs) (hc : ∀ b ∈ Lr, clr Lr.length b.rows = true) : SegOk c [.i .i64 k] [.i .i64 k] Lr bs :=
 ⟨by rw [← h]; simp, h, by simp only [rns, rn], by simp only [cls, V.cl, Bool.and_self], hc⟩
theorem a6_ {c x : Nat} {X : List Blk} {R : List (Nat × Blk)} (h : x < c) : bf_ (bu_ c X ++ R) x = bf_ R x := by rw [db_, d3_ (.inl h)]; simp
theorem ax_ {c x : Nat} {X : List Blk} (h : x < c) : bf_ (bu_ c X) x = none := d3_ (.inl h)
theorem bc_ {c x : Nat} {X : List Blk} {R : List (Nat × Blk)} {b : Blk} (h : x < c) : e8_ (bu_ c X ++ R) x b = bu_ c X ++ e8_ R x b := kh_ X R b (.inl h)
theorem a7_ {c x : Nat} {X : List Blk} {b : Blk} (h : x < c) : e8_ (bu_ c X) x b = bu_ c X ++ [(x, b)] := by
 have := kh_ (k := c) (x := x) X [] b (.inl h)
 simpa [e8_] using this
theorem bl_ (c : Nat) (b : Blk) : dx_ c [b] = [(c, some b)] := by simp [dx_, List.range']
theorem bk_ (c : Nat) : dx_ c [] = [] := by simp [dx_]
theorem a5_ {c : Nat} {os bs : List Blk} {R : List (Nat × Blk)} (h : os.length = bs.length) : wrL (bu_ c os ++ R) (dx_ c bs) = bu_ c bs ++ R := by
 have := f9_ (k := c) bs os [] [] R h
 simpa using this
theorem b3_ {c : Nat} {os bs : List Blk} (h : os.length = bs.length) : wrL (bu_ c os) (dx_ c bs) = bu_ c bs := by
 have := a5_ (c := c) (R := []) h
 simpa using this
theorem e4_ {c : Nat} {os bs Z : List Blk} {R : List (Nat × Blk)} (h : os.length = bs.length) : wrL (bu_ c (os ++ Z) ++ R) (dx_ c bs) = bu_ c (bs ++ Z) ++ R := by
 have := f9_ (k := c) bs os [] Z R h
 simpa using this
theorem e6_ {k c : Nat} {A os bs : List Blk} {R : List (Nat × Blk)} (hc : c = k + A.length) (h : os.length = bs.length) : wrL (bu_ k (A ++ os) ++ R) (dx_ c bs) = bu_ k (A ++ bs) ++ R := by
 subst hc
 have := f9_ (k := k) bs os A [] R h
 simpa using this
theorem ff_ {c j : Nat} {A Z : List Blk} {R : List (Nat × Blk)} {x : Blk} (h : A[j]? = some x) : bf_ (bu_ c (A ++ Z) ++ R) (c + j) = some x := by
 rw [db_, at_, List.getElem?_append_left (List.getElem?_eq_some_iff.1 h).1, h]; rfl
theorem fa_ {k c j : Nat} {A X : List Blk} {R : List (Nat × Blk)} {x : Blk} (hc : c = k + A.length) (h : X[j]? = some x) : bf_ (bu_ k (A ++ X) ++ R) (c + j) = some x := by
 rw [hc, Nat.add_assoc, db_, at_, List.getElem?_append_right (by omega), Nat.add_sub_cancel_left, h]; rfl
theorem sm_ {c : Nat} {X : List Blk} {R : List (Nat × Blk)} {i : Nat} {x : Blk} (h : X[i]? = some x) : pb_ (List.range' c X.length) (bf_ (bu_ c X ++ R)) (c + i) = some x := by
 have hi := (List.getElem?_eq_some_iff.1 h).1
 rw [be_ (by rw [List.mem_range'_1]; omega), db_, at_, h]; rfl
theorem xm_ {c : Nat} {X : List Blk} {i : Nat} {x : Blk} (h : X[i]? = some x) : pb_ (List.range' c X.length) (bf_ (bu_ c X)) (c + i) = some x := by
 have := sm_ (R := []) (c := c) h
 simpa using this
end
section
open Go.RowKit
set_option maxRecDepth 100000
set_option maxHeartbeats 4000000
def mkD : Nat → Nat → Str → Str
 | 0, _, a => a
 | f + 1, n, a => if n = 0 then a else mkD f (n / 10) (UInt8.ofNat (48 + n % 10) :: a)
def mkT (k : Int) : Str := if k ≤ 0 then [109, 48] else 109 :: mkD 20 k.toNat []
theorem ac7_ (f : Nat) (a : Str) : mkD f 0 a = a := by cases f <;> simp [mkD]
theorem adb_ {f n : Nat} (h : 0 < n) (hf : 0 < f) (a : Str) : mkD f n a = mkD (f - 1) (n / 10) (UInt8.ofNat (48 + n % 10) :: a) := by
 cases f with
 | zero => omega
 | succ f => rw [mkD, if_neg (by omega)]; rfl
theorem ac5_ {f n : Nat} (h : 0 < n) (h1 : n < 10 ^ f) (a : Str) : 0 < f ∧ n / 10 < 10 ^ (f - 1) ∧ mkD (f - 1) (n / 10) (UInt8.ofNat (48 + n % 10) :: a) = mkD f n a := by
 cases f with
 | zero => simp at h1; omega
 | succ f =>
  refine ⟨by omega, ?_, (adb_ h (by omega) a).symm⟩
  rw [Nat.pow_succ] at h1
  show n / 10 < 10 ^ f
  omega
theorem p20 : (10 : Nat) ^ 20 = 100000000000000000000 := by decide
theorem xo_ {n : Nat} (h : n ≤ 1000000000) : IntKind.i64.wrap ((n : Int).tdiv 10) = ((n / 10 : Nat) : Int) := by
 have e : (n : Int).tdiv 10 = ((n / 10 : Nat) : Int) := by rw [Int.tdiv_eq_ediv_of_nonneg (by omega)]; rfl
 rw [e, bv_ (by omega) (by omega)]
theorem agp_ (n : Nat) : UInt8.ofNat (IntKind.u8.wrap (IntKind.i64.wrap (48 + (n : Int).tmod 10))).toNat = UInt8.ofNat (48 + n % 10) := by
 have e : (n : Int).tmod 10 = ((n % 10 : Nat) : Int) := by rw [Int.tmod_eq_emod_of_nonneg (by omega)]; rfl
 have h := Nat.mod_lt n (show 0 < 10 by decide)
 rw [e, bv_ (by omega) (by omega)]
 generalize n % 10 = d at *
 have : d = 0 ∨ d = 1 ∨ d = 2 ∨ d = 3 ∨ d = 4 ∨ d = 5 ∨ d = 6 ∨ d = 7 ∨ d = 8 ∨ d = 9 := by omega
 rcases this with rfl | rfl | rfl | rfl | rfl | rfl | rfl | rfl | rfl | rfl <;> rfl
theorem ft_ (k : Int) (h0 : 0 ≤ k) (h1 : k ≤ 1000000000) : ACall En 98 [.i .i64 k] [] [.s (mkT k)] [] := by
 refine an_ (fn := Tryz.f98) [] Tryz.func98 rfl rfl (by simp) fun C => ?_
 rw [bb_]
 simp only [Tryz.ntmps98, T7_, List.length_nil, Nat.reduceAdd, Nat.reduceSub, List.replicate_succ, List.replicate_zero, List.cons_append, List.nil_append, bu_]
 refine .seq (.rgn [] (by simp only [go_sem, seval]; rfl) ?_ ?_)
 ·(first | trivial | (simp; done) | (simp; omega) | (have := hI.2.2.2.1; simp; omega))
 refine .seq (.seq (.rgn [] (by simp only [go_sem, seval]; rfl) ?_ ?_))
 ·(first | trivial | (simp; done) | (simp; omega) | (have := hI.2.2.2.1; simp; omega))
 refine .condB (by simp only [go_sem, seval]; rfl) (by simp only [go_sem, seval]) (fun h5 => ?_) (fun h5 => ?_)
 ·refine .seq (.rgn [] (by simp only [go_sem, seval]; rfl) ?_ ?_)
  ·(first | trivial | (simp; done) | (simp; omega) | (have := hI.2.2.2.1; simp; omega))
  refine .ret ⟨.inr rfl, ?_⟩
  exact Out.plain (by simp only [Tryz.results98]; rfl) (by simp only [ba_, bs_, go_sem, seval] <;> (split <;> rfl)) (by simp only [bq_, go_sem, seval] <;> (simp only [T3_] at h5; simp [mkT, h5])) (by simp only [go_sem, seval])
 ·refine .skip (.seq (.rgn [] (by simp only [go_sem, seval]; rfl) ?_ ?_))
  ·(first | trivial | (simp; done) | (simp; omega) | (have := hI.2.2.2.1; simp; omega))
  refine .seq (.block (.loopK (fun q : Nat × Nat × Str => ⟨[.i .i64 q.2.1, .no, .no, .s q.2.2, .no, .no, .no, .no, .no, .no, .no, .no, .no, .no, .no, .no, .no, .no, .no, .no], bf_ [], us []⟩) (fun q : Nat × Nat × Str => q.2.1 < 10 ^ q.1 ∧ q.1 ≤ 20 ∧ q.2.1 ≤ 1000000000 ∧ q.2.2.length ≤ 20 - q.1 ∧ mkD q.1 q.2.1 q.2.2 = mkD 20 k.toNat []) (fun q : Nat × Nat × Str => q.2.1) ((20, k.toNat, [])) ?_ ?_ (fun q hI => ?_)))
  ·have := p20; exact ⟨by dsimp only; omega, Nat.le_refl _, by dsimp only; omega, by simp, rfl⟩
  ·exact Can.weak (Weak.lit (by simp only [go_sem, seval, a2_, leV, az_, ay_, V.inn, us, T9_, Ta_] <;> (omega)) (by simp only [go_sem, seval, a2_, leV, az_, ay_, V.inn, us, T9_, Ta_]) (by simp only [go_sem, seval, a2_, leV, az_, ay_, V.inn, us, T9_, Ta_]))
  refine .seq (.seq (.rgn [] (by simp only [go_sem, seval]; rfl) ?_ ?_))
  ·(first | trivial | (simp; done) | (simp; omega) | (have := hI.2.2.2.1; simp; omega))
  refine .condB (by simp only [go_sem, seval]; rfl) (by simp only [go_sem, seval]) (fun h7 => ?_) (fun h7 => ?_)
  ·refine .skip (.block (.seq (.rgnS [13] [cvO En] (by simp only [go_sem, seval]; rfl) ?_ ?_)))
   ·(first | trivial | (simp; done) | (simp; omega) | (have := hI.2.2.2.1; simp; omega))
   refine .rgn [] (by simp only [go_sem, seval]; rfl) ?_ ?_
   ·(first | trivial | (simp; done) | (simp; omega) | (have := hI.2.2.2.1; simp; omega))
   refine Exists.intro ((q.1 - 1, q.2.1 / 10, UInt8.ofNat (48 + q.2.1 % 10) :: q.2.2)) ⟨?_, ?_, ?_⟩
   ·simp only [T3_] at h7; obtain ⟨s1, s2, s3⟩ := ac5_ (show 0 < q.2.1 by omega) hI.1 q.2.2; exact ⟨s2, by dsimp only; omega, by dsimp only; omega, by simp only [T7_]; omega, s3.trans hI.2.2.2.2⟩
   ·simp only [T3_] at h7; dsimp only; omega
   exact Can.weak (Weak.lit (by simp only [go_sem, seval, a2_, leV, az_, ay_, V.inn, us, T9_, Ta_] <;> (simp only [T3_] at h7; exact ⟨xo_ (by omega), by rw [agp_]⟩)) (by simp only [go_sem, seval, a2_, leV, az_, ay_, V.inn, us, T9_, Ta_]) (by simp only [go_sem, seval, a2_, leV, az_, ay_, V.inn, us, T9_, Ta_]))
  ·refine .exit (.seq (.rgn [] (by simp only [go_sem, seval]; rfl) ?_ ?_))
   ·(first | trivial | (simp; done) | (simp; omega) | (have := hI.2.2.2.1; simp; omega))
   refine .ret ⟨.inr rfl, ?_⟩
   exact Out.plain (by simp only [Tryz.results98]; rfl) (by simp only [ba_, bs_, go_sem, seval] <;> (split <;> rfl)) (by simp only [bq_, go_sem, seval] <;> (simp only [T4_] at h5 h7; have q0 := hI.2.2.2.2; rw [show q.2.1 = 0 by omega, ac7_] at q0; simp [mkT, h5, q0])) (by simp only [go_sem, seval])
/-! ### marks of expressions -/
mutual
def ph_ : E → Int → List E × Int
 | .mk _ _ _ kids, k => mkL kids k
def mkL : List E → Int → List E × Int
 | [], k => ([], k)
 | e :: r, k => (.mk k (k + 1) (mkT (k + 2)) (ph_ e (k + 3)).1 :: (mkL r (ph_ e (k + 3)).2).1, (mkL r (ph_ e (k + 3)).2).2)
end
theorem ae4_ (e : E) (k : Int) : ph_ e k = mkL e.kids k := by cases e; simp only [ph_, E.kids]
def mE (e : E) (k : Int) : E × Int := (.mk k (k + 1) (mkT (k + 2)) (mkL e.kids (k + 3)).1, (mkL e.kids (k + 3)).2)
theorem jf_ : ∀ (l : List E) (k : Int), mkL l k = c4_ mE l k
 | [], k => by simp only [mkL, c4_]
 | e :: r, k => by simp only [mkL, c4_, mE, ae4_, jf_ r]
mutual
theorem aha_ : ∀ (e : E) (k : Int), (ph_ e k).2 = k + 3 * (lN e.kids : Int) ∧ (ph_ e k).1.length = e.kids.length ∧ lN (ph_ e k).1 = lN e.kids
 | .mk _ _ _ kids, k => by simp only [ph_, E.kids]; exact d8_ kids k
theorem d8_ : ∀ (l : List E) (k : Int), (mkL l k).2 = k + 3 * (lN l : Int) ∧ (mkL l k).1.length = l.length ∧ lN (mkL l k).1 = lN l
 | [], k => by simp [mkL, lN]
 | e :: r, k => by
  obtain ⟨h1, h2, h3⟩ := aha_ e (k + 3)
  obtain ⟨h4, h5, h6⟩ := d8_ r (ph_ e (k + 3)).2
  simp only [mkL, lN, eN, T7_, iq_ e]
  exact ⟨by rw [h4, h1]; omega, by rw [h5], by rw [h3, h6]⟩
end
theorem mE_N (e : E) (k : Int) : ttE.N (mE e k).1 = ttE.N e := by
 rw [dz_, dz_, ← em_, ← em_]
 show lN (mkL e.kids (k + 3)).1 + 1 = _
 rw [(d8_ _ _).2.2]
theorem af4_ (l : List E) (k : Int) (i : Nat) : mkK mE l k i = k + 3 * (ttE.NL (l.take i) : Int) := by
 unfold mkK; rw [← jf_, (d8_ _ _).1, em_]
theorem MBnd {l : List E} {k K : Int} {i : Nat} (h1 : k + 3 * (ttE.NL l : Int) ≤ 100000000) (hK : K = k + 3 * (ttE.NL (l.take i) : Int)) (h : i < l.length) : K + 3 + 3 * (ttE.NL (l.getD i E0).kids : Int) ≤ 100000000 := by
 have := ttE.NL_take (d := E0) h
 have := ttE.NL_le l (i + 1)
 have := dz_ (l.getD i E0)
 omega
def ais_ (e : E) : Prop := ∀ k : Int, 0 ≤ k → k + 3 * (ttE.NL e.kids : Int) ≤ 100000000 → ACall En 99 [.ow 0 4 0 e.kids.length, .i .i64 k] (ttE.lst 33 4 0 e.kids) [.i .i64 (mkL e.kids k).2] (ttE.lst 33 4 0 (mkL e.kids k).1)
theorem ix_ (e0 : E) : ais_ e0 := by
 induction e0 using E.ind' with
 | h e0 ih =>
 intro k h0 h1
 have hm := mE_N
 have hlen : (mkL e0.kids k).1.length = e0.kids.length := (d8_ _ _).2.1
 have hNL : ttE.NL (mkL e0.kids k).1 = ttE.NL e0.kids := by rw [← em_, ← em_]; exact (d8_ _ _).2.2
 have hK := fun i => af4_ e0.kids k i
 have hN := fun i => ttE.NL_le e0.kids i
 generalize e0.kids = l at *
 have hL : (ttE.lst 33 4 0 (mkL l k).1).length = (ttE.lst 33 4 0 l).length := by rw [TT.lst_len, TT.lst_len, hNL]
 have hrow := fun i (h : i < l.length) => ttE.mkP_row (b := 1000000000) (k := k) (d := E0) hm h
 have hset := fun i (h : i < l.length) => ttE.mkP_set (b := 1000000000) (k := k) (d := E0) hm h
 have hpl : ∀ i, i ≤ l.length → (ttE.OR 1000000000 (mkP mE l k i)).length = l.length := fun i h => by rw [ttE.OR_len, xe_ mE h]
 have hset' : ∀ i, i < l.length → (ttE.OR 1000000000 (mkP mE l k i)).set i [.i .i64 (mkK mE l k i), .i .i64 (mkK mE l k i + 1), .s (mkT (mkK mE l k i + 2)), .ow (1000000000 + ttE.NL (l.take i)) 4 0 (l.getD i E0).kids.length] = ttE.OR 1000000000 (mkP mE l k (i + 1)) := fun i h => by
  rw [← hset i h, bz_]
  show _ = (ttE.OR 1000000000 (mkP mE l k i)).set i [_, _, _, .ow _ 4 0 (mkL (l.getD i E0).kids (mkK mE l k i + 3)).1.length]
  rw [(d8_ _ _).2.1]; rfl
 have hB0 : ∀ i : Nat, ttE.B (1000000000 + ttE.NL (l.take i)) (l.getD i E0) = [] ++ ttE.lst 33 4 (1000000000 + ttE.NL (l.take i)) (l.getD i E0).kids ++ [] := fun i => by rw [kw_]; simp
 have hB1 : ∀ i : Nat, ttE.B (1000000000 + ttE.NL (l.take i)) (mE (l.getD i E0) (mkK mE l k i)).1 = [] ++ ttE.lst 33 4 (1000000000 + ttE.NL (l.take i)) (mkL (l.getD i E0).kids (mkK mE l k i + 3)).1 ++ [] := fun i => by rw [kw_]; simp; rfl
 have hW : ∀ i, i < l.length → wrL (bu_ 1000000000 (ttE.BL 1000000000 (mkP mE l k i))) (dx_ (1000000000 + ttE.NL (l.take i)) (ttE.lst 33 4 (1000000000 + ttE.NL (l.take i)) (mkL (l.getD i E0).kids (mkK mE l k i + 3)).1)) = bu_ 1000000000 (ttE.BL 1000000000 (mkP mE l k (i + 1))) := fun i h =>
  ttE.mk_wr hm h rfl (hB0 i) (hB1 i) (by rw [TT.lst_len, TT.lst_len, ← em_, ← em_, (d8_ _ _).2.2])
 have hll := nd_ l
 have hw1 : ∀ i, IntKind.i64.wrap (mkK mE l k i + 1) = mkK mE l k i + 1 := fun i => bv_ (by rw [hK]; omega) (by rw [hK]; have := hN i; omega)
 have hw2 : ∀ i, IntKind.i64.wrap (mkK mE l k i + 1 + 1) = mkK mE l k i + 2 := fun i => by rw [bv_ (by rw [hK]; omega) (by rw [hK]; have := hN i; omega)]; omega
 have hw3 : ∀ i, IntKind.i64.wrap (mkK mE l k i + 2 + 1) = mkK mE l k i + 3 := fun i => by rw [bv_ (by rw [hK]; omega) (by rw [hK]; have := hN i; omega)]; omega
 refine ez_ (fn := Tryz.f99) 1 (by decide) Tryz.func99 rfl rfl hL (by rw [TT.lst_len]; simp [cls, V.cl]) (ttE.lst_rcl _ _ _) (by simp only [cls, V.cl, Bool.and_self]) (hL ▸ ttE.lst_rcl _ _ _) (show _ = [.ow 0 4 0 l.length, .i .i64 k] by simp only [rns, rn, i3_ (show 0 < (ttE.lst 33 4 0 l).length by rw [TT.lst_len]; omega)]; rfl) (ttE.deep_lst1 _ _ _) (show _ = [.i .i64 (mkL l k).2] by simp only [rns, rn]) (Eq.trans (congrArg (fun n => List.map (rnB (ηD 1 n)) _) hL.symm) (ttE.deep_lst1 _ _ _)) fun C => ?_
 simp only [Tryz.ntmps99, T7_, List.length_nil, Nat.reduceAdd, Nat.reduceSub, List.replicate_succ, List.replicate_zero, List.cons_append, List.nil_append, hw_, b1_]
 refine .seq (.rgn [] (by simp only [go_sem, seval, hw1, hw2, hw3, List.length_set, bo_, bz_, List.set_set, b1_, ap_, aj_]; rfl) ?_ ?_)
 ·(first | trivial | (simp; done) | (simp only [T3_] at h9; and_intros <;> first | omega | (intro j x hx; rw [if_neg (by omega)]; exact ttE.mk_rd hm (show i < l.length by omega) rfl (hB0 i) hx) | (rw [TT.lst_len]; simp; done) | exact bg_ (ttE.lst_rcl _ _ _)))
 refine .seq (.seq (.rgn [] (by simp only [go_sem, seval, hw1, hw2, hw3, List.length_set, bo_, bz_, List.set_set, b1_, ap_, aj_]; rfl) ?_ ?_))
 ·(first | trivial | (simp; done) | (simp only [T3_] at h9; and_intros <;> first | omega | (intro j x hx; rw [if_neg (by omega)]; exact ttE.mk_rd hm (show i < l.length by omega) rfl (hB0 i) hx) | (rw [TT.lst_len]; simp; done) | exact bg_ (ttE.lst_rcl _ _ _)))
 refine .block (.loopK (fun i : Nat => ⟨[.ow 0 4 0 l.length, .i .i64 (mkK mE l k i), .no, .no, .no, .i .i64 i, .no, .no, .no, .no, .no, .no, .no, .no, .no, .no, .no, .no, .no, .no, .no, .no, .no, .no, .no, .no, .no, .no, .no, .no, .no, .no, .no, .no, .no, .no, .no, .no, .no, .no, .no, .no], bf_ ((0, ⟨33, 4, ttE.OR 1000000000 (mkP mE l k i)⟩) :: bu_ 1000000000 (ttE.BL 1000000000 (mkP mE l k i))), us []⟩) (fun i : Nat => i ≤ l.length) (fun i : Nat => l.length - i) (0) ?_ ?_ (fun i hI => ?_))
 ·simp
 ·exact Can.weak (Weak.lit (by simp only [go_sem, seval, hw1, hw2, hw3, List.length_set, bo_, bz_, List.set_set, b1_, ap_, aj_, a2_, leV, az_, ay_, V.inn, us, T9_, Ta_] <;> (simp [kn_])) (by simp only [go_sem, seval, hw1, hw2, hw3, List.length_set, bo_, bz_, List.set_set, b1_, ap_, aj_, a2_, leV, az_, ay_, V.inn, us, T9_, Ta_]) (by simp only [go_sem, seval, hw1, hw2, hw3, List.length_set, bo_, bz_, List.set_set, b1_, ap_, aj_, a2_, leV, az_, ay_, V.inn, us, T9_, Ta_] <;> (rw [tu_]; exact ⟨rfl, ttE.hi_keep _ _⟩)))
 refine .seq (.seq (.rgn [] (by simp only [go_sem, seval, hw1, hw2, hw3, List.length_set, bo_, bz_, List.set_set, b1_, ap_, aj_, hpl i hI]; rfl) ?_ ?_))
 ·(first | trivial | (simp; done) | (simp only [T3_] at h9; and_intros <;> first | omega | (intro j x hx; rw [if_neg (by omega)]; exact ttE.mk_rd hm (show i < l.length by omega) rfl (hB0 i) hx) | (rw [TT.lst_len]; simp; done) | exact bg_ (ttE.lst_rcl _ _ _)))
 refine .condB (by simp only [go_sem, seval, hw1, hw2, hw3, List.length_set, bo_, bz_, List.set_set, b1_, ap_, aj_]; rfl) (by simp only [go_sem, seval, hw1, hw2, hw3, List.length_set, bo_, bz_, List.set_set, b1_, ap_, aj_]) (fun h9 => ?_) (fun h9 => ?_)
 ·refine .skip (.seq (.block (.seq (.rgn [] (by simp only [go_sem, seval, hw1, hw2, hw3, List.length_set, bo_, bz_, List.set_set, b1_, ap_, aj_, hrow i (by simpa using h9), hpl i hI]; rfl) ?_ ?_))))
  ·(first | trivial | (simp; done) | (simp only [T3_] at h9; and_intros <;> first | omega | (intro j x hx; rw [if_neg (by omega)]; exact ttE.mk_rd hm (show i < l.length by omega) rfl (hB0 i) hx) | (rw [TT.lst_len]; simp; done) | exact bg_ (ttE.lst_rcl _ _ _)))
  refine .seq (.rgn [] (by simp only [go_sem, seval, hw1, hw2, hw3, List.length_set, bo_, bz_, List.set_set, b1_, ap_, aj_]; rfl) ?_ ?_)
  ·(first | trivial | (simp; done) | (simp only [T3_] at h9; and_intros <;> first | omega | (intro j x hx; rw [if_neg (by omega)]; exact ttE.mk_rd hm (show i < l.length by omega) rfl (hB0 i) hx) | (rw [TT.lst_len]; simp; done) | exact bg_ (ttE.lst_rcl _ _ _)))
  refine .seq (.rgn [] (by simp only [go_sem, seval, hw1, hw2, hw3, List.length_set, bo_, bz_, List.set_set, b1_, ap_, aj_, jq_ (show i < (ttE.OR 1000000000 (mkP mE l k i)).length by rw [hpl i hI]; simpa using h9), hpl i hI]; rfl) ?_ ?_)
  ·(first | trivial | (simp; done) | (simp only [T3_] at h9; and_intros <;> first | omega | (intro j x hx; rw [if_neg (by omega)]; exact ttE.mk_rd hm (show i < l.length by omega) rfl (hB0 i) hx) | (rw [TT.lst_len]; simp; done) | exact bg_ (ttE.lst_rcl _ _ _)))
  refine .seq (.rgn [] (by simp only [go_sem, seval, hw1, hw2, hw3, List.length_set, bo_, bz_, List.set_set, b1_, ap_, aj_]; rfl) ?_ ?_)
  ·(first | trivial | (simp; done) | (simp only [T3_] at h9; and_intros <;> first | omega | (intro j x hx; rw [if_neg (by omega)]; exact ttE.mk_rd hm (show i < l.length by omega) rfl (hB0 i) hx) | (rw [TT.lst_len]; simp; done) | exact bg_ (ttE.lst_rcl _ _ _)))
  refine .seq (.rgn [br_ (ft_ (mkK mE l k i + 2) (by rw [hK]; omega) (by rw [hK]; have := hN i; omega))] (by simp only [go_sem, seval, hw1, hw2, hw3, List.length_set, bo_, bz_, List.set_set, b1_, ap_, aj_, jq_ (show i < (ttE.OR 1000000000 (mkP mE l k i)).length by rw [hpl i hI]; simpa using h9), hpl i hI]; rfl) ?_ ?_)
  ·(first | trivial | (simp; done) | (simp only [T3_] at h9; and_intros <;> first | omega | (intro j x hx; rw [if_neg (by omega)]; exact ttE.mk_rd hm (show i < l.length by omega) rfl (hB0 i) hx) | (rw [TT.lst_len]; simp; done) | exact bg_ (ttE.lst_rcl _ _ _)))
  refine .seq (.rgn [] (by simp only [go_sem, seval, hw1, hw2, hw3, List.length_set, bo_, bz_, List.set_set, b1_, ap_, aj_]; rfl) ?_ ?_)
  ·(first | trivial | (simp; done) | (simp only [T3_] at h9; and_intros <;> first | omega | (intro j x hx; rw [if_neg (by omega)]; exact ttE.mk_rd hm (show i < l.length by omega) rfl (hB0 i) hx) | (rw [TT.lst_len]; simp; done) | exact bg_ (ttE.lst_rcl _ _ _)))
  refine .rgn [bo_ (1000000000 + ttE.NL (l.take i)) (ih (l.getD i E0) (b2_ (by simpa using h9)) (mkK mE l k i + 3) (by rw [hK]; omega) (MBnd h1 (hK i) (by simpa using h9))) (mp_ (ttE.lst_rmap _ _ _ _) (ttE.lst_rcl _ _ _)) (ttE.lst_rmap _ _ _ _) (by rw [TT.lst_len, TT.lst_len, ← em_, ← em_, (d8_ _ _).2.2])] (by simp only [go_sem, seval, hw1, hw2, hw3, List.length_set, bo_, bz_, List.set_set, b1_, ap_, aj_, jq_ (show i < (ttE.OR 1000000000 (mkP mE l k i)).length by rw [hpl i hI]; simpa using h9), hpl i hI, a4_ (c := 1000000000 + ttE.NL (l.take i)) (show 0 < (ttE.lst 33 4 0 (l.getD i E0).kids).length by rw [TT.lst_len]; omega)]; rfl) ?_ ?_
  ·(first | trivial | (simp; done) | (simp only [T3_] at h9; and_intros <;> first | omega | (intro j x hx; rw [if_neg (by omega)]; exact ttE.mk_rd hm (show i < l.length by omega) rfl (hB0 i) hx) | (rw [TT.lst_len]; simp; done) | exact bg_ (ttE.lst_rcl _ _ _)))
  refine .rgn [] (by simp only [go_sem, seval, hw1, hw2, hw3, List.length_set, bo_, bz_, List.set_set, b1_, ap_, aj_]; rfl) ?_ ?_
  ·(first | trivial | (simp; done) | (simp only [T3_] at h9; and_intros <;> first | omega | (intro j x hx; rw [if_neg (by omega)]; exact ttE.mk_rd hm (show i < l.length by omega) rfl (hB0 i) hx) | (rw [TT.lst_len]; simp; done) | exact bg_ (ttE.lst_rcl _ _ _)))
  refine Exists.intro (i + 1) ⟨?_, ?_, ?_⟩
  ·simp at h9; omega
  ·simp at h9; omega
  exact Can.weak (Weak.lit (by simp only [go_sem, seval, hw1, hw2, hw3, List.length_set, bo_, bz_, List.set_set, b1_, ap_, aj_, a2_, leV, az_, ay_, V.inn, us, T9_, Ta_] <;> (exact ⟨by rw [io_ mE (d := E0) (by simpa using h9)]; rfl, bv_ (by simp at h9; omega) (by simp at h9; omega)⟩)) (by simp only [go_sem, seval, hw1, hw2, hw3, List.length_set, bo_, bz_, List.set_set, b1_, ap_, aj_, a2_, leV, az_, ay_, V.inn, us, T9_, Ta_]) (by simp only [go_sem, seval, hw1, hw2, hw3, List.length_set, bo_, bz_, List.set_set, b1_, ap_, aj_, a2_, leV, az_, ay_, V.inn, us, T9_, Ta_] <;> (rw [hset' i (by simpa using h9), hW i (by simpa using h9)]; exact ⟨rfl, ttE.hi_keep _ _⟩)))
 ·refine .exit (.seq (.rgn [] (by simp only [go_sem, seval, hw1, hw2, hw3, List.length_set, bo_, bz_, List.set_set, b1_, ap_, aj_]; rfl) ?_ ?_))
  ·(first | trivial | (simp; done) | (simp only [T3_] at h9; and_intros <;> first | omega | (intro j x hx; rw [if_neg (by omega)]; exact ttE.mk_rd hm (show i < l.length by omega) rfl (hB0 i) hx) | (rw [TT.lst_len]; simp; done) | exact bg_ (ttE.lst_rcl _ _ _)))
  refine .ret ⟨.inr rfl, ?_⟩
  exact sw_ (by decide) (by simp only [Tryz.results99]; rfl) (by simp only [ba_, bs_, go_sem, seval, hw1, hw2, hw3, List.length_set, bo_, bz_, List.set_set, b1_, ap_, aj_]) (by simp only [bq_, go_sem, seval, hw1, hw2, hw3, List.length_set, bo_, bz_, List.set_set, b1_, ap_, aj_] <;> (simp at h9; rw [na_ mE h9, jf_])) (by simp at h9; show bf_ _ = bf_ _; rw [b1_, wz_ mE h9, jf_])
end
section
open Go.RowKit
set_option maxRecDepth 100000
set_option maxHeartbeats 4000000
def mX (e : E) (k : Int) : E := .mk e.kind e.n e.s (mkL e.kids k).1
theorem hb_ (e : E) (k : Int) : ttE.N (mX e k) = ttE.N e := by
 rw [dz_, dz_, ← em_, ← em_]
 show lN (mkL e.kids k).1 + 1 = _
 rw [(d8_ _ _).2.2]
theorem mX_B (b : Nat) (e : E) (k : Int) : ttE.B b (mX e k) = ttE.lst 33 4 b (mkL e.kids k).1 := kw_ b _
theorem qy_ (l : List E) (k : Int) : (mkL l k).1.length = l.length := (d8_ l k).2.1
theorem kind_mk (a b : Int) (s : Str) (ks : List E) : E.kind (.mk a b s ks) = a := rfl
theorem n_mk (a b : Int) (s : Str) (ks : List E) : E.n (.mk a b s ks) = b := rfl
theorem s_mk (a b : Int) (s : Str) (ks : List E) : E.s (.mk a b s ks) = s := rfl
theorem kids_mk (a b : Int) (s : Str) (ks : List E) : E.kids (.mk a b s ks) = ks := rfl
theorem acq_ (a b : Int) (s : Str) (e : E) (K : Int) : eN (.mk a b s (mkL e.kids K).1) = eN e := by rw [iq_, iq_]; show lN (mkL e.kids K).1 + 1 = _; rw [(d8_ _ _).2.2]
theorem ai2_ (a b : Int) (s : Str) (e : E) (K : Int) : ttE.N (.mk a b s (mkL e.kids K).1) = eN e := acq_ a b s e K
theorem afk_ (x : Nat) (a b : Int) (s : Str) (ks : List E) : ttE.B x (.mk a b s ks) = ttE.lst 33 4 x ks := kw_ x _
theorem g3_ (b c : Nat) (e : E) (k : Int) : (ttE.lst 33 4 b e.kids).length = (ttE.lst 33 4 c (mkL e.kids k).1).length := by rw [TT.lst_len, TT.lst_len, ← em_, ← em_, (d8_ _ _).2.2]
theorem ig_ (e : E) (k : Int) (h0 : 0 ≤ k) (h1 : k + 3 * (ttE.NL e.kids : Int) ≤ 100000000) : ACall En 89 [.ag (ttE.O 0 e), .i .i64 k] (ttE.B 0 e) [.i .i64 (mkL e.kids k).2] (ttE.B 0 (mX e k)) := by
 have hL : (ttE.B 0 (mX e k)).length = (ttE.B 0 e).length := by rw [ttE.len, ttE.len, hb_]
 have hB := kw_ 1000000000 e
 refine ez_ (fn := Tryz.f89) 0 (by decide) Tryz.func89 rfl rfl hL (ttE.d_cv e k) (ttE.d_c0 e) (by simp only [cls, V.cl, Bool.and_self]) (hL ▸ ttE.d_c0 (mX e k)) (ttE.d_e1 e k) (ttE.deep_one e).2 (show rns _ _ = [.i .i64 (mkL e.kids k).2] by simp only [rns, rn]) (Eq.trans (congrArg (fun n => List.map (rnB (ηD 0 n)) _) hL.symm) (ttE.deep_one (mX e k)).2) fun C => ?_
 simp only [Tryz.ntmps89, T7_, List.length_nil, Nat.reduceAdd, Nat.reduceSub, List.replicate_succ, List.replicate_zero, List.cons_append, List.nil_append, hw_, b1_]
 refine .seq (.rgn [] (by simp only [go_sem, seval, bo_, bz_, hB, a6_, ax_, bc_, a7_, a5_ (g3_ 1000000000 1000000000 e k), a4_ (c := 1000000000) (show 0 < (ttE.lst 33 4 0 e.kids).length by rw [TT.lst_len]; omega)]; rfl) ?_ ?_)
 ·(first | trivial | (simp; done) | (and_intros <;> first | trivial | (intro j x hx; rw [db_, at_, hx]; rfl) | (rw [TT.lst_len]; simp; done) | exact bg_ (ttE.lst_rcl _ _ _)))
 refine .seq (.rgn [bo_ 1000000000 (ix_ e k h0 h1) (mp_ (ttE.lst_rmap _ _ _ _) (ttE.lst_rcl _ _ _)) (ttE.lst_rmap _ _ _ _) (g3_ 0 0 e k)] (by simp only [go_sem, seval, bo_, bz_, hB, a6_, ax_, bc_, a7_, a5_ (g3_ 1000000000 1000000000 e k), a4_ (c := 1000000000) (show 0 < (ttE.lst 33 4 0 e.kids).length by rw [TT.lst_len]; omega)]; rfl) ?_ ?_)
 ·(first | trivial | (simp; done) | (and_intros <;> first | trivial | (intro j x hx; rw [db_, at_, hx]; rfl) | (rw [TT.lst_len]; simp; done) | exact bg_ (ttE.lst_rcl _ _ _)))
 refine .seq (.rgn [] (by simp only [go_sem, seval, bo_, bz_, hB, a6_, ax_, bc_, a7_, a5_ (g3_ 1000000000 1000000000 e k), a4_ (c := 1000000000) (show 0 < (ttE.lst 33 4 0 e.kids).length by rw [TT.lst_len]; omega)]; rfl) ?_ ?_)
 ·(first | trivial | (simp; done) | (and_intros <;> first | trivial | (intro j x hx; rw [db_, at_, hx]; rfl) | (rw [TT.lst_len]; simp; done) | exact bg_ (ttE.lst_rcl _ _ _)))
 refine .ret ⟨.inr rfl, ?_⟩
 exact lz_ (by simp only [Tryz.results89]; rfl) (by simp only [ba_, bs_, go_sem, seval, bo_, bz_, hB, a6_, ax_, bc_, a7_, a5_ (g3_ 1000000000 1000000000 e k), a4_ (c := 1000000000) (show 0 < (ttE.lst 33 4 0 e.kids).length by rw [TT.lst_len]; omega)]) (by simp only [bq_, go_sem, seval, bo_, bz_, hB, a6_, ax_, bc_, a7_, a5_ (g3_ 1000000000 1000000000 e k), a4_ (c := 1000000000) (show 0 < (ttE.lst 33 4 0 e.kids).length by rw [TT.lst_len]; omega)]) (by rw [mX_B])
def mS (s : Sl) (k : Int) : Sl := ⟨s.kind, s.name, s.type, mX s.expr k, mX s.thn (mkL s.expr.kids k).2⟩
def mSK (s : Sl) (k : Int) : Int := (mkL s.thn.kids (mkL s.expr.kids k).2).2
theorem mS_N (s : Sl) (k : Int) : ttS.N (mS s k) = ttS.N s := by
 show ttE.N (mX _ _) + ttE.N (mX _ _) = ttE.N _ + ttE.N _
 rw [hb_, hb_]
theorem u7_ (s : Sl) (k : Int) (h0 : 0 ≤ k) (h1 : k + 3 * (ttS.N s : Int) ≤ 100000000) : ACall En 24 [.ag (ttS.O 0 s), .i .i64 k] (ttS.B 0 s) [.i .i64 (mSK s k)] (ttS.B 0 (mS s k)) := by
 have hL : (ttS.B 0 (mS s k)).length = (ttS.B 0 s).length := by rw [TT.len, TT.len, mS_N]
 have e1 := dz_ s.expr
 have e2 := dz_ s.thn
 have h2 : k + 3 * (ttE.N s.expr + ttE.N s.thn : Int) ≤ 100000000 := h1
 have hk := (d8_ s.expr.kids k).1
 rw [em_] at hk
 have hB' : ttS.B 1000000000 (mS s k) = ttE.B 1000000000 (mX s.expr k) ++ ttE.B (1000000000 + eN s.expr) (mX s.thn (mkL s.expr.kids k).2) := by
  show _ ++ ttE.B (1000000000 + ttE.N (mX s.expr k)) _ = _
  rw [hb_]; rfl
 have hB : ttS.B 1000000000 s = ttE.B 1000000000 s.expr ++ ttE.B (1000000000 + eN s.expr) s.thn := rfl
 have l1 : (ttE.B 1000000000 s.expr).length = (ttE.B 1000000000 (mX s.expr k)).length := by rw [TT.len, TT.len, hb_]
 have l2 : (ttE.B (1000000000 + eN s.expr) s.thn).length = (ttE.B (1000000000 + eN s.expr) (mX s.thn (mkL s.expr.kids k).2)).length := by rw [TT.len, TT.len, hb_]
 have c2 : 1000000000 + eN s.expr = 1000000000 + (ttE.B 1000000000 (mX s.expr k)).length := by rw [TT.len, hb_]; rfl
 have n1 : 0 < (ttE.B 0 s.expr).length := by rw [TT.len]; omega
 have n2 : 0 < (ttE.B 0 s.thn).length := by rw [TT.len]; omega
 refine ez_ (fn := Tryz.f24) 0 (by decide) Tryz.func24 rfl rfl hL (ttS.d_cv s k) (ttS.d_c0 s) (by simp only [cls, V.cl, Bool.and_self]) (hL ▸ ttS.d_c0 (mS s k)) (ttS.d_e1 s k) (ttS.deep_one s).2 (show rns _ _ = [.i .i64 (mSK s k)] by simp only [rns, rn]) (Eq.trans (congrArg (fun n => List.map (rnB (ηD 0 n)) _) hL.symm) (ttS.deep_one (mS s k)).2) fun C => ?_
 simp only [Tryz.ntmps24, T7_, List.length_nil, Nat.reduceAdd, Nat.reduceSub, List.replicate_succ, List.replicate_zero, List.cons_append, List.nil_append, hw_, b1_]
 refine .seq (.rgn [] (by simp only [go_sem, seval, bo_, ce_, bz_, hB, a6_, ax_, bc_, a7_, e4_ l1, e6_ c2 l2, a4_ n1, a4_ n2]; rfl) ?_ ?_)
 ·(first | trivial | (simp; done) | (and_intros <;> first | trivial | (intro j x hx; exact ff_ hx) | (intro j x hx; exact fa_ c2 hx) | (simpa using n1) | (simpa using n2) | exact bg_ (ttE.d_c0 _)))
 refine .seq (.rgn [bo_ 1000000000 (ig_ s.expr k h0 (by omega)) (mp_ (ttE.seg 1000000000 _).map (ttE.seg 1000000000 _).clr) (ttE.seg 1000000000 _).map (by rw [TT.len, TT.len, hb_])] (by simp only [go_sem, seval, bo_, ce_, bz_, hB, a6_, ax_, bc_, a7_, e4_ l1, e6_ c2 l2, a4_ n1, a4_ n2]; rfl) ?_ ?_)
 ·(first | trivial | (simp; done) | (and_intros <;> first | trivial | (intro j x hx; exact ff_ hx) | (intro j x hx; exact fa_ c2 hx) | (simpa using n1) | (simpa using n2) | exact bg_ (ttE.d_c0 _)))
 refine .seq (.rgn [bo_ (1000000000 + eN s.expr) (ig_ s.thn (mkL s.expr.kids k).2 (by omega) (by omega)) (mp_ (ttE.seg (1000000000 + eN s.expr) _).map (ttE.seg (1000000000 + eN s.expr) _).clr) (ttE.seg (1000000000 + eN s.expr) _).map (by rw [TT.len, TT.len, hb_])] (by simp only [go_sem, seval, bo_, ce_, bz_, hB, a6_, ax_, bc_, a7_, e4_ l1, e6_ c2 l2, a4_ n1, a4_ n2]; rfl) ?_ ?_)
 ·(first | trivial | (simp; done) | (and_intros <;> first | trivial | (intro j x hx; exact ff_ hx) | (intro j x hx; exact fa_ c2 hx) | (simpa using n1) | (simpa using n2) | exact bg_ (ttE.d_c0 _)))
 refine .seq (.rgn [] (by simp only [go_sem, seval, bo_, ce_, bz_, hB, a6_, ax_, bc_, a7_, e4_ l1, e6_ c2 l2, a4_ n1, a4_ n2]; rfl) ?_ ?_)
 ·(first | trivial | (simp; done) | (and_intros <;> first | trivial | (intro j x hx; exact ff_ hx) | (intro j x hx; exact fa_ c2 hx) | (simpa using n1) | (simpa using n2) | exact bg_ (ttE.d_c0 _)))
 refine .ret ⟨.inr rfl, ?_⟩
 exact lz_ (by simp only [Tryz.results24]; rfl) (by simp only [ba_, bs_, go_sem, seval, bo_, ce_, bz_, hB, a6_, ax_, bc_, a7_, e4_ l1, e6_ c2 l2, a4_ n1, a4_ n2]) (by simp only [bq_, go_sem, seval, bo_, ce_, bz_, hB, a6_, ax_, bc_, a7_, e4_ l1, e6_ c2 l2, a4_ n1, a4_ n2] <;> first | rfl | trivial) (by rw [hB'])
def mB (s : Bl) (k : Int) : Bl := ⟨s.kind, s.name, mX s.expr k, mX s.thn (mkL s.expr.kids k).2⟩
def mBK (s : Bl) (k : Int) : Int := (mkL s.thn.kids (mkL s.expr.kids k).2).2
theorem mB_N (s : Bl) (k : Int) : ttB.N (mB s k) = ttB.N s := by
 show ttE.N (mX _ _) + ttE.N (mX _ _) = ttE.N _ + ttE.N _
 rw [hb_, hb_]
theorem u8_ (s : Bl) (k : Int) (h0 : 0 ≤ k) (h1 : k + 3 * (ttB.N s : Int) ≤ 100000000) : ACall En 53 [.ag (ttB.O 0 s), .i .i64 k] (ttB.B 0 s) [.i .i64 (mBK s k)] (ttB.B 0 (mB s k)) := by
 have hL : (ttB.B 0 (mB s k)).length = (ttB.B 0 s).length := by rw [TT.len, TT.len, mB_N]
 have e1 := dz_ s.expr
 have e2 := dz_ s.thn
 have h2 : k + 3 * (ttE.N s.expr + ttE.N s.thn : Int) ≤ 100000000 := h1
 have hk := (d8_ s.expr.kids k).1
 rw [em_] at hk
 have hB' : ttB.B 1000000000 (mB s k) = ttE.B 1000000000 (mX s.expr k) ++ ttE.B (1000000000 + eN s.expr) (mX s.thn (mkL s.expr.kids k).2) := by
  show _ ++ ttE.B (1000000000 + ttE.N (mX s.expr k)) _ = _
  rw [hb_]; rfl
 have hB : ttB.B 1000000000 s = ttE.B 1000000000 s.expr ++ ttE.B (1000000000 + eN s.expr) s.thn := rfl
 have l1 : (ttE.B 1000000000 s.expr).length = (ttE.B 1000000000 (mX s.expr k)).length := by rw [TT.len, TT.len, hb_]
 have l2 : (ttE.B (1000000000 + eN s.expr) s.thn).length = (ttE.B (1000000000 + eN s.expr) (mX s.thn (mkL s.expr.kids k).2)).length := by rw [TT.len, TT.len, hb_]
 have c2 : 1000000000 + eN s.expr = 1000000000 + (ttE.B 1000000000 (mX s.expr k)).length := by rw [TT.len, hb_]; rfl
 have n1 : 0 < (ttE.B 0 s.expr).length := by rw [TT.len]; omega
 have n2 : 0 < (ttE.B 0 s.thn).length := by rw [TT.len]; omega
 refine ez_ (fn := Tryz.f53) 0 (by decide) Tryz.func53 rfl rfl hL (ttB.d_cv s k) (ttB.d_c0 s) (by simp only [cls, V.cl, Bool.and_self]) (hL ▸ ttB.d_c0 (mB s k)) (ttB.d_e1 s k) (ttB.deep_one s).2 (show rns _ _ = [.i .i64 (mBK s k)] by simp only [rns, rn]) (Eq.trans (congrArg (fun n => List.map (rnB (ηD 0 n)) _) hL.symm) (ttB.deep_one (mB s k)).2) fun C => ?_
 simp only [Tryz.ntmps53, T7_, List.length_nil, Nat.reduceAdd, Nat.reduceSub, List.replicate_succ, List.replicate_zero, List.cons_append, List.nil_append, hw_, b1_]
 refine .seq (.rgn [] (by simp only [go_sem, seval, bo_, ch_, bz_, hB, a6_, ax_, bc_, a7_, e4_ l1, e6_ c2 l2, a4_ n1, a4_ n2]; rfl) ?_ ?_)
 ·(first | trivial | (simp; done) | (and_intros <;> first | trivial | (intro j x hx; exact ff_ hx) | (intro j x hx; exact fa_ c2 hx) | (simpa using n1) | (simpa using n2) | exact bg_ (ttE.d_c0 _)))
 refine .seq (.rgn [bo_ 1000000000 (ig_ s.expr k h0 (by omega)) (mp_ (ttE.seg 1000000000 _).map (ttE.seg 1000000000 _).clr) (ttE.seg 1000000000 _).map (by rw [TT.len, TT.len, hb_])] (by simp only [go_sem, seval, bo_, ch_, bz_, hB, a6_, ax_, bc_, a7_, e4_ l1, e6_ c2 l2, a4_ n1, a4_ n2]; rfl) ?_ ?_)
 ·(first | trivial | (simp; done) | (and_intros <;> first | trivial | (intro j x hx; exact ff_ hx) | (intro j x hx; exact fa_ c2 hx) | (simpa using n1) | (simpa using n2) | exact bg_ (ttE.d_c0 _)))
 refine .seq (.rgn [bo_ (1000000000 + eN s.expr) (ig_ s.thn (mkL s.expr.kids k).2 (by omega) (by omega)) (mp_ (ttE.seg (1000000000 + eN s.expr) _).map (ttE.seg (1000000000 + eN s.expr) _).clr) (ttE.seg (1000000000 + eN s.expr) _).map (by rw [TT.len, TT.len, hb_])] (by simp only [go_sem, seval, bo_, ch_, bz_, hB, a6_, ax_, bc_, a7_, e4_ l1, e6_ c2 l2, a4_ n1, a4_ n2]; rfl) ?_ ?_)
 ·(first | trivial | (simp; done) | (and_intros <;> first | trivial | (intro j x hx; exact ff_ hx) | (intro j x hx; exact fa_ c2 hx) | (simpa using n1) | (simpa using n2) | exact bg_ (ttE.d_c0 _)))
 refine .seq (.rgn [] (by simp only [go_sem, seval, bo_, ch_, bz_, hB, a6_, ax_, bc_, a7_, e4_ l1, e6_ c2 l2, a4_ n1, a4_ n2]; rfl) ?_ ?_)
 ·(first | trivial | (simp; done) | (and_intros <;> first | trivial | (intro j x hx; exact ff_ hx) | (intro j x hx; exact fa_ c2 hx) | (simpa using n1) | (simpa using n2) | exact bg_ (ttE.d_c0 _)))
 refine .ret ⟨.inr rfl, ?_⟩
 exact lz_ (by simp only [Tryz.results53]; rfl) (by simp only [ba_, bs_, go_sem, seval, bo_, ch_, bz_, hB, a6_, ax_, bc_, a7_, e4_ l1, e6_ c2 l2, a4_ n1, a4_ n2]) (by simp only [bq_, go_sem, seval, bo_, ch_, bz_, hB, a6_, ax_, bc_, a7_, e4_ l1, e6_ c2 l2, a4_ n1, a4_ n2] <;> first | rfl | trivial) (by rw [hB'])
end
section
open Go.RowKit
set_option maxRecDepth 100000
mutual
theorem r4_ : ∀ (e : E) (l : Int), 0 ≤ szE e l → szE e l + (lN e.kids : Int) ≤ l
 | .mk k n s kids, l, h => by
  simp only [szE] at h ⊢
  split at h
  ·omega
  ·rename_i h1
   split at h
   ·omega
   ·rename_i h2
    rw [if_neg h1, if_neg h2]
    have := af1_ kids (l - s.length - kids.length) h
    simp only [E.kids]; omega
theorem af1_ : ∀ (r : List E) (l : Int), 0 ≤ szL r l → szL r l + (lN r : Int) ≤ l + r.length
 | [], l, h => by simp only [szL, lN, List.length_nil] at h ⊢; omega
 | e :: r, l, h => by
  simp only [szL] at h ⊢
  split at h
  ·omega
  ·rename_i h1
   rw [if_neg h1]
   have q1 := r4_ e l (by omega)
   have q2 := af1_ r (szE e l) h
   have q3 := iq_ e
   simp only [lN, T7_, q3]; omega
end
theorem ahl_ {s : Sl} {l : Int} (h0 : l ≤ 1048576) (h : 0 ≤ szS s l) : (ttS.N s : Int) ≤ 2 * 1048576 + 2 := by
 show ((ttE.N s.expr + ttE.N s.thn : Nat) : Int) ≤ _
 have e1 := dz_ s.expr
 have e2 := dz_ s.thn
 rw [← em_] at e1 e2
 unfold szS at h
 split at h
 ·omega
 ·split at h
  ·omega
  ·split at h
   ·omega
   ·have q1 := r4_ s.expr (l - s.name.length - s.type.length) (by omega)
    have q2 := r4_ s.thn _ h
    omega
theorem aek_ (s : Sl) {k : Int} (h : 0 ≤ k) : 0 ≤ mSK s k := by
 unfold mSK
 rw [(d8_ _ _).1, (d8_ _ _).1]; omega
theorem f8_ (s : Sl) {c : Nat} {m : Mem} (h : ∀ i x, (ttS.B c s)[i]? = some x → m (c + i) = some x) : LDs m [.ag (ttS.O c s)] [.ag (sC s)] := by
 have := ttS.ld s c m h
 rw [abr_] at this
 exact .cons (.ag this) .nil
theorem ee_ (s : Sl) {c : Nat} {m : Mem} (h : ∀ i x, (ttS.B c s)[i]? = some x → m (c + i) = some x) : LD m (.ag (ttS.O c s)) (.ag (sC s)) := by
 have := ttS.ld s c m h
 rw [abr_] at this
 exact .ag this
theorem al_ {c i : Nat} {X : List Blk} {R : List (Nat × Blk)} {x : Blk} (h : X[i]? = some x) : bf_ (bu_ c X ++ R) (c + i) = some x := by rw [db_, at_, h]; rfl
end
end Go.Proofs.YtcigkafioinfoaaGreatDoor
