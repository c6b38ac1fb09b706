/- Rows of places, written anew one after another. Conditions: none. -/
import Derived.Test.YtcigkafioinfoaaGreatDoorK18
import Derived.Test.YtcigkafioinfoaaGreatDoorKb
import Derived.Test.YtcigkafioinfoaaGreatDoorK8
import Derived.Test.YtcigkafioinfoaaGreatDoorK19
set_option linter.unusedVariables false
set_option linter.unusedSimpArgs false
namespace Go.Proofs.YtcigkafioinfoaaGreatDoor
section
open Go.RowKit
set_option maxRecDepth 100000
def c6_ {α : Type} (m : α → Int → α × Int) : List α → Int → List α × Int
 | [], k => ([], k)
 | a :: r, k => ((m a k).1 :: (c6_ m r (m a k).2).1, (c6_ m r (m a k).2).2)
section
variable {α : Type} (m : α → Int → α × Int)
theorem mu_ : ∀ (a b : List α) (k : Int), c6_ m (a ++ b) k = ((c6_ m a k).1 ++ (c6_ m b (c6_ m a k).2).1, (c6_ m b (c6_ m a k).2).2)
 | [], b, k => rfl
 | e :: a, b, k => by simp only [List.cons_append, c6_, mu_ a b]
theorem jw_ : ∀ (l : List α) (k : Int), (c6_ m l k).1.length = l.length
 | [], k => rfl
 | e :: r, k => by simp only [c6_, T7_, jw_ r]
def mkP (l : List α) (k : Int) (i : Nat) : List α := (c6_ m (l.take i) k).1 ++ l.drop i
def mkK (l : List α) (k : Int) (i : Nat) : Int := (c6_ m (l.take i) k).2
theorem ach_ (l : List α) (k : Int) : mkP m l k 0 = l := by simp [mkP, c6_]
theorem v7_ (l : List α) (k : Int) : mkK m l k 0 = k := by simp [mkK, c6_]
theorem ai4_ {l : List α} {k : Int} {i : Nat} (h : l.length ≤ i) : mkP m l k i = (c6_ m l k).1 := by
 unfold mkP; rw [T1_ h, List.drop_of_length_le h, List.append_nil]
theorem tt_ {l : List α} {k : Int} {i : Nat} (h : l.length ≤ i) : mkK m l k i = (c6_ m l k).2 := by
 unfold mkK; rw [T1_ h]
theorem ah4_ {l : List α} {k : Int} {i : Nat} (h : i ≤ l.length) : (mkP m l k i).length = l.length := by
 unfold mkP; rw [T2_, jw_, List.length_take, List.length_drop]; omega
theorem jx_ {l : List α} {k : Int} {i : Nat} {d : α} (h : i < l.length) : mkP m l k i = (c6_ m (l.take i) k).1 ++ l.getD i d :: l.drop (i + 1) := by
 unfold mkP
 congr 1
 rw [T8_, T6_ h, Option.getD_some, ← List.drop_eq_getElem_cons h]
theorem t8_ {l : List α} {k : Int} {i : Nat} {d : α} (h : i < l.length) : mkP m l k (i + 1) = (c6_ m (l.take i) k).1 ++ (m (l.getD i d) (mkK m l k i)).1 :: l.drop (i + 1) := by
 have e : l.take (i + 1) = l.take i ++ [l.getD i d] := by
  rw [List.take_add_one, T6_ h, T8_, T6_ h]; rfl
 unfold mkP mkK
 rw [e, mu_]
 simp [c6_]
theorem v5_ {l : List α} {k : Int} {i : Nat} {d : α} (h : i < l.length) : mkK m l k (i + 1) = (m (l.getD i d) (mkK m l k i)).2 := by
 have e : l.take (i + 1) = l.take i ++ [l.getD i d] := by
  rw [List.take_add_one, T6_ h, T8_, T6_ h]; rfl
 unfold mkK
 rw [e, mu_]
 simp [c6_]
end
theorem b7_ {k : Nat} : ∀ {L : List Blk}, (∀ b ∈ L, clr k b.rows = true) → av_ k L = true
 | [], _ => rfl
 | b :: L, h => by simp only [av_, T5_]; exact ⟨h b List.mem_cons_self, b7_ fun c hc => h c (List.mem_cons_of_mem _ hc)⟩
theorem aax_ (X : List Blk) : je_ 0 X = bs_ 1000000000 X := by simp [je_, bs_]
theorem cn_ (b : Blk) (X : List Blk) : je_ 1 (b :: X) = (0, b) :: bs_ 1000000000 X := by simp [je_, bs_]
theorem ael_ {E : Env} {fn : Func} {s : St} {lr : List ResultVar} {rs' : List V} {Lr' : List Blk} {h : Nat} (hh : h ≤ 10) (hl : fn.results.toList = lr) (h1 : az_ E.P s lr) (h2 : les (lr.map (bg_ E.P s)) rs') (h3 : s.m = a7_ (je_ h Lr')) :
  az_ E.P s fn.results.toList ∧ les (fn.results.toList.map (bg_ E.P s)) rs' ∧ ∀ i b, Lr'[i]? = some b → s.m (nmD h i) = some b := by
 subst hl
 exact ⟨h1, h2, fun i b hb => by rw [h3, l1_ hh]; exact hb⟩
theorem a3_ {c n : Nat} (h : 0 < n) : (List.range' c n).getD 0 0 = c := by have := ee_ (c := c) h; simpa using this
theorem setD {L : List (List V)} {i : Nat} (h : i < L.length) (r : List V) : (L.set i r).getD i [] = r := by simp [T8_, List.getElem?_set, h]
namespace TT
variable {α : Type} (t : TT α)
theorem deep_lst1 (T z : Nat) (l : List α) : (t.lst T z 0 l).map (rnB (ηD 1 (t.lst T z 0 l).length)) = ⟨T, z, t.OR 1000000000 l⟩ :: t.BL 1000000000 l := by
 have hη : ∀ i, i < t.NL l → (ηD 1 (t.lst T z 0 l).length).getD (1 + i) 0 = 1000000000 + i := fun i hi => by
  rw [mt_ (by rw [lst_len]; omega)]; unfold nmD; rw [if_neg (by omega)]; omega
 obtain ⟨q1, q2⟩ := t.BL_map l (ηD 1 (t.lst T z 0 l).length) 1 1000000000 hη
 simp only [lst, Nat.zero_add, List.map_cons, rnB] at q1 q2 ⊢
 rw [q1, q2]
theorem lst_rmap (T z c : Nat) (l : List α) : (t.lst T z 0 l).map (rnB (List.range' c (t.lst T z 0 l).length)) = t.lst T z c l :=
 t.lst_map T z l _ 0 c fun i hi => by rw [Nat.zero_add]; exact ee_ (by rw [lst_len]; exact hi)
theorem lst_rcl (T z : Nat) (l : List α) : ∀ b ∈ t.lst T z 0 l, clr (t.lst T z 0 l).length b.rows = true := t.lst_cl T z l 0 _ (by rw [lst_len]; omega)
theorem mk_NL {m : α → Int → α × Int} (hm : ∀ a k, t.N (m a k).1 = t.N a) : ∀ (l : List α) (k : Int), t.NL (c6_ m l k).1 = t.NL l
 | [], k => rfl
 | e :: r, k => by simp only [c6_, NL, hm, mk_NL hm r]
theorem OR_mid (b : Nat) (A Z : List α) (e : α) : (t.OR b (A ++ e :: Z)).getD A.length [] = t.O (b + t.NL A) e := by
 rw [o6_, T8_, List.getElem?_append_right (by rw [OR_len]; exact Nat.le_refl _), OR_len, Nat.sub_self]; rfl
theorem OR_mid_set (b : Nat) (A Z : List α) (e e' : α) (h : t.N e' = t.N e) : (t.OR b (A ++ e :: Z)).set A.length (t.O (b + t.NL A) e') = t.OR b (A ++ e' :: Z) := by
 rw [o6_, o6_, List.set_append_right _ _ (by rw [OR_len]; exact Nat.le_refl _), OR_len, Nat.sub_self]
 simp only [OR, List.set_cons_zero, h]
theorem BL_wr {b c : Nat} {A Z : List α} {e e' : α} {F os bs G : List Blk} (hc : c = b + t.NL A + F.length) (h1 : t.B (b + t.NL A) e = F ++ os ++ G) (h2 : t.B (b + t.NL A) e' = F ++ bs ++ G) (hl : os.length = bs.length) (hn : t.N e' = t.N e) :
  wrL (bs_ b (t.BL b (A ++ e :: Z))) (fi_ c bs) = bs_ b (t.BL b (A ++ e' :: Z)) := by
 rw [on_, on_]
 simp only [BL, h1, h2, hn]
 have := jd_ (k := b) bs os (t.BL b A ++ F) (G ++ t.BL (b + t.NL A + t.N e) Z) [] hl
 simp only [List.append_nil, T2_, BL_len, List.append_assoc, Nat.add_assoc] at this ⊢
 rw [hc]; simp only [Nat.add_assoc]; exact this
theorem BL_rd {b c j : Nat} {A Z : List α} {e : α} {F bs G : List Blk} {x : Blk} (hc : c = b + t.NL A + F.length) (h1 : t.B (b + t.NL A) e = F ++ bs ++ G) (hx : bs[j]? = some x) : a7_ (bs_ b (t.BL b (A ++ e :: Z))) (c + j) = some x := by
 rw [hc, show b + t.NL A + F.length + j = b + (t.NL A + F.length + j) by omega, fq_, on_]
 simp only [BL, h1]
 have hj := (List.getElem?_eq_some_iff.1 hx).1
 rw [List.getElem?_append_right (by rw [BL_len]; omega), BL_len, List.getElem?_append_left (by simp only [T2_]; omega), List.getElem?_append_left (by simp only [T2_]; omega), List.getElem?_append_right (by omega)]
 rw [← hx]; congr 1; omega
theorem hi_keep (l : List α) (b0 : Blk) : ar_ (us []) (t.OR 1000000000 l) = true ∧ at_ ((0, b0) :: bs_ 1000000000 (t.BL 1000000000 l)) [] (bs_ 1000000000 (t.BL 1000000000 l)) := by
 have hU : ∀ i, us [] (1000000000 + i) = true := fun i => by simp [us]
 obtain ⟨q1, q2⟩ := t.BL_inn l 1000000000 (us []) fun i _ => hU i
 refine ⟨q1, o8_ fun i b hb => ⟨?_, hU i, q2 b (List.mem_of_getElem? hb)⟩⟩
 rw [g9_, if_neg (by omega), fq_]; exact hb
section
variable {m : α → Int → α × Int} (hm : ∀ a k, t.N (m a k).1 = t.N a)
include hm
theorem mk_wr {l : List α} {k : Int} {i : Nat} {d : α} {c : Nat} {F os bs G : List Blk} (h : i < l.length) (hc : c = 1000000000 + t.NL (l.take i) + F.length) (h1 : t.B (1000000000 + t.NL (l.take i)) (l.getD i d) = F ++ os ++ G) (h2 : t.B (1000000000 + t.NL (l.take i)) (m (l.getD i d) (mkK m l k i)).1 = F ++ bs ++ G) (hl : os.length = bs.length) :
  wrL (bs_ 1000000000 (t.BL 1000000000 (mkP m l k i))) (fi_ c bs) = bs_ 1000000000 (t.BL 1000000000 (mkP m l k (i + 1))) := by
 rw [jx_ m (d := d) h, t8_ m (d := d) h]
 have e := t.mk_NL hm (l.take i) k
 exact t.BL_wr (by rw [e]; exact hc) (by rw [e]; exact h1) (by rw [e]; exact h2) hl (hm _ _)
theorem mk_rd {l : List α} {k : Int} {i j c : Nat} {d : α} {F bs G : List Blk} {x : Blk} (h : i < l.length) (hc : c = 1000000000 + t.NL (l.take i) + F.length) (h1 : t.B (1000000000 + t.NL (l.take i)) (l.getD i d) = F ++ bs ++ G) (hx : bs[j]? = some x) : a7_ (bs_ 1000000000 (t.BL 1000000000 (mkP m l k i))) (c + j) = some x := by
 rw [jx_ m (d := d) h]
 have e := t.mk_NL hm (l.take i) k
 exact t.BL_rd (by rw [e]; exact hc) (by rw [e]; exact h1) hx
theorem mkP_row {b : Nat} {l : List α} {k : Int} {i : Nat} {d : α} (h : i < l.length) : (t.OR b (mkP m l k i)).getD i [] = t.O (b + t.NL (l.take i)) (l.getD i d) := by
 have hl : (c6_ m (l.take i) k).1.length = i := by rw [jw_, List.length_take]; omega
 have := t.OR_mid b (c6_ m (l.take i) k).1 (l.drop (i + 1)) (l.getD i d)
 rw [hl, ← jx_ m h, t.mk_NL hm] at this
 exact this
theorem mkP_set {b : Nat} {l : List α} {k : Int} {i : Nat} {d : α} (h : i < l.length) : (t.OR b (mkP m l k i)).set i (t.O (b + t.NL (l.take i)) (m (l.getD i d) (mkK m l k i)).1) = t.OR b (mkP m l k (i + 1)) := by
 have hl : (c6_ m (l.take i) k).1.length = i := by rw [jw_, List.length_take]; omega
 have := t.OR_mid_set b (c6_ m (l.take i) k).1 (l.drop (i + 1)) (l.getD i d) (m (l.getD i d) (mkK m l k i)).1 (hm _ _)
 rw [hl, ← jx_ m h, ← t8_ m h, t.mk_NL hm] at this
 exact this
end
end TT
end
section
open Go.RowKit
set_option maxRecDepth 100000
theorem aef_ (c : Nat) (b : Bool) : SegOk c [.b b] [.b b] [] [] := ⟨rfl, rfl, by simp only [rns, rn], rfl, fun x hx => by cases hx⟩
theorem kSeg {c : Nat} {k : Int} {Lr bs : List Blk} (h : Lr.map (rnB (List.range' c Lr.length)) = bs) (hc : ∀ b ∈ Lr, clr Lr.length b.rows = true) : SegOk c [.i .i64 k] [.i .i64 k] Lr bs :=
 ⟨by rw [← h]; simp, h, by simp only [rns, rn], by simp only [cls, V.cl, Bool.and_self], hc⟩
theorem ahz_ (f : List Int) : kt_ (inR f) = true := List.all_eq_true.2 fun r hr => by obtain ⟨t, _, rfl⟩ := List.mem_map.1 hr; rfl
theorem ts_ (c : Nat) (f : List Int) : SegOk c [.ow 0 1 0 f.length] [.ow c 1 0 f.length] [⟨3, 1, inR f⟩] [⟨3, 1, inR f⟩] :=
 ⟨rfl, by simp only [List.map_cons, List.map_nil, rnB, ck_ _ _ (aa_ _)], by simp [rns, rn, List.range'], by simp [cls, V.cl], fun b hb => by simp at hb; subst hb; exact h4_ _ _ (aa_ _)⟩
theorem ec_ (f : List Int) : ∀ b ∈ [(⟨3, 1, inR f⟩ : Blk)], kt_ b.rows = true := fun b hb => by simp at hb; subst hb; exact ahz_ f
theorem bf_ {c x : Nat} {X : List Blk} {R : List (Nat × Blk)} (h : x < c) : a7_ (bs_ c X ++ R) x = a7_ R x := by rw [g7_, ep_ (.inl h)]; simp
theorem a4_ {c x : Nat} {X : List Blk} (h : x < c) : a7_ (bs_ c X) x = none := ep_ (.inl h)
theorem bo_ {c x : Nat} {X : List Blk} {R : List (Nat × Blk)} {b : Blk} (h : x < c) : hy_ (bs_ c X ++ R) x b = bs_ c X ++ hy_ R x b := lk_ X R b (.inl h)
theorem bd_ {c x : Nat} {X : List Blk} {b : Blk} (h : x < c) : hy_ (bs_ c X) x b = bs_ c X ++ [(x, b)] := by
 have := lk_ (k := c) (x := x) X [] b (.inl h)
 simpa [hy_] using this
theorem be_ (c : Nat) (b : Blk) : fi_ c [b] = [(c, some b)] := by simp [fi_, List.range']
theorem bc_ (c : Nat) : fi_ c [] = [] := by simp [fi_]
theorem bb_ {c : Nat} {os bs : List Blk} {R : List (Nat × Blk)} (h : os.length = bs.length) : wrL (bs_ c os ++ R) (fi_ c bs) = bs_ c bs ++ R := by
 have := jd_ (k := c) bs os [] [] R h
 simpa using this
theorem wu_ {c : Nat} {X : List Blk} {R : List (Nat × Blk)} {i : Nat} {x : Blk} (h : X[i]? = some x) : p9_ (List.range' c X.length) (a7_ (bs_ c X ++ R)) (c + i) = some x := by
 have hi := (List.getElem?_eq_some_iff.1 h).1
 rw [ah7_ (by rw [List.mem_range'_1]; omega), g7_, fq_, h]; rfl
theorem aa0_ {c : Nat} {X : List Blk} {i : Nat} {x : Blk} (h : X[i]? = some x) : p9_ (List.range' c X.length) (a7_ (bs_ c X)) (c + i) = some x := by
 have := wu_ (R := []) (c := c) h
 simpa using this
end
section
open Go.RowKit
set_option maxRecDepth 100000
set_option maxHeartbeats 4000000
def mkD : Nat → Nat → Str → Str
 | 0, _, a => a
 | f + 1, n, a => if n = 0 then a else mkD f (n / 10) (UInt8.ofNat (48 + n % 10) :: a)
def mkT (k : Int) : Str := if k ≤ 0 then [109, 48] else 109 :: mkD 20 k.toNat []
theorem ada_ (f : Nat) (a : Str) : mkD f 0 a = a := by cases f <;> simp [mkD]
theorem ai2_ {f n : Nat} (h : 0 < n) (hf : 0 < f) (a : Str) : mkD f n a = mkD (f - 1) (n / 10) (UInt8.ofNat (48 + n % 10) :: a) := by
 cases f with
 | zero => omega
 | succ f => rw [mkD, if_neg (by omega)]; rfl
theorem af5_ {f n : Nat} (h : 0 < n) (h1 : n < 10 ^ f) (a : Str) : 0 < f ∧ n / 10 < 10 ^ (f - 1) ∧ mkD (f - 1) (n / 10) (UInt8.ofNat (48 + n % 10) :: a) = mkD f n a := by
 cases f with
 | zero => simp at h1; omega
 | succ f =>
  refine ⟨by omega, ?_, (ai2_ h (by omega) a).symm⟩
  rw [Nat.pow_succ] at h1
  show n / 10 < 10 ^ f
  omega
theorem p20 : (10 : Nat) ^ 20 = 100000000000000000000 := by decide
theorem aas_ {n : Nat} (h : n ≤ 1000000000) : IntKind.i64.wrap ((n : Int).tdiv 10) = ((n / 10 : Nat) : Int) := by
 have e : (n : Int).tdiv 10 = ((n / 10 : Nat) : Int) := by rw [Int.tdiv_eq_ediv_of_nonneg (by omega)]; rfl
 rw [e, bp_ (by omega) (by omega)]
theorem ajr_ (n : Nat) : UInt8.ofNat (IntKind.u8.wrap (IntKind.i64.wrap (48 + (n : Int).tmod 10))).toNat = UInt8.ofNat (48 + n % 10) := by
 have e : (n : Int).tmod 10 = ((n % 10 : Nat) : Int) := by rw [Int.tmod_eq_emod_of_nonneg (by omega)]; rfl
 have h := Nat.mod_lt n (show 0 < 10 by decide)
 rw [e, bp_ (by omega) (by omega)]
 generalize n % 10 = d at *
 have : d = 0 ∨ d = 1 ∨ d = 2 ∨ d = 3 ∨ d = 4 ∨ d = 5 ∨ d = 6 ∨ d = 7 ∨ d = 8 ∨ d = 9 := by omega
 rcases this with rfl | rfl | rfl | rfl | rfl | rfl | rfl | rfl | rfl | rfl <;> rfl
theorem qo_ (k : Int) (h0 : 0 ≤ k) (h1 : k ≤ 1000000000) : ACall En 98 [.i .i64 k] [] [.s (mkT k)] [] := by
 refine al_ (fn := Tryz.f98) [] Tryz.func98 rfl rfl (by simp) fun C => ?_
 rw [ay_]
 simp only [Tryz.ntmps98, T7_, List.length_nil, Nat.reduceAdd, Nat.reduceSub, List.replicate_succ, List.replicate_zero, List.cons_append, List.nil_append, bs_]
 refine .seq (.rgn [] (by simp only [go_sem, seval]; rfl) ?_ ?_)
 ·(first | trivial | (simp; done) | (simp; omega) | (have := hI.2.2.2.1; simp; omega))
 refine .seq (.seq (.rgn [] (by simp only [go_sem, seval]; rfl) ?_ ?_))
 ·(first | trivial | (simp; done) | (simp; omega) | (have := hI.2.2.2.1; simp; omega))
 refine .condB (by simp only [go_sem, seval]; rfl) (by simp only [go_sem, seval]) (fun h5 => ?_) (fun h5 => ?_)
 ·refine .seq (.rgn [] (by simp only [go_sem, seval]; rfl) ?_ ?_)
  ·(first | trivial | (simp; done) | (simp; omega) | (have := hI.2.2.2.1; simp; omega))
  refine .ret ⟨.inr rfl, ?_⟩
  exact Out.plain (by simp only [Tryz.results98]; rfl) (by simp only [az_, bj_, go_sem, seval] <;> (split <;> rfl)) (by simp only [bg_, go_sem, seval] <;> (simp only [T3_] at h5; simp [mkT, h5])) (by simp only [go_sem, seval])
 ·refine .skip (.seq (.rgn [] (by simp only [go_sem, seval]; rfl) ?_ ?_))
  ·(first | trivial | (simp; done) | (simp; omega) | (have := hI.2.2.2.1; simp; omega))
  refine .seq (.block (.loopK (fun q : Nat × Nat × Str => ⟨[.i .i64 q.2.1, .no, .no, .s q.2.2, .no, .no, .no, .no, .no, .no, .no, .no, .no, .no, .no, .no, .no, .no, .no, .no], a7_ [], us []⟩) (fun q : Nat × Nat × Str => q.2.1 < 10 ^ q.1 ∧ q.1 ≤ 20 ∧ q.2.1 ≤ 1000000000 ∧ q.2.2.length ≤ 20 - q.1 ∧ mkD q.1 q.2.1 q.2.2 = mkD 20 k.toNat []) (fun q : Nat × Nat × Str => q.2.1) ((20, k.toNat, [])) ?_ ?_ (fun q hI => ?_)))
  ·have := p20; exact ⟨by dsimp only; omega, Nat.le_refl _, by dsimp only; omega, by simp, rfl⟩
  ·exact Can.weak (Weak.lit (by simp only [go_sem, seval, at_, leV, aq_, ar_, V.inn, us, T9_, Ta_] <;> (omega)) (by simp only [go_sem, seval, at_, leV, aq_, ar_, V.inn, us, T9_, Ta_]) (by simp only [go_sem, seval, at_, leV, aq_, ar_, V.inn, us, T9_, Ta_]))
  refine .seq (.seq (.rgn [] (by simp only [go_sem, seval]; rfl) ?_ ?_))
  ·(first | trivial | (simp; done) | (simp; omega) | (have := hI.2.2.2.1; simp; omega))
  refine .condB (by simp only [go_sem, seval]; rfl) (by simp only [go_sem, seval]) (fun h7 => ?_) (fun h7 => ?_)
  ·refine .skip (.block (.seq (.rgnS [13] [cvO En] (by simp only [go_sem, seval]; rfl) ?_ ?_)))
   ·(first | trivial | (simp; done) | (simp; omega) | (have := hI.2.2.2.1; simp; omega))
   refine .rgn [] (by simp only [go_sem, seval]; rfl) ?_ ?_
   ·(first | trivial | (simp; done) | (simp; omega) | (have := hI.2.2.2.1; simp; omega))
   refine Exists.intro ((q.1 - 1, q.2.1 / 10, UInt8.ofNat (48 + q.2.1 % 10) :: q.2.2)) ⟨?_, ?_, ?_⟩
   ·simp only [T3_] at h7; obtain ⟨s1, s2, s3⟩ := af5_ (show 0 < q.2.1 by omega) hI.1 q.2.2; exact ⟨s2, by dsimp only; omega, by dsimp only; omega, by simp only [T7_]; omega, s3.trans hI.2.2.2.2⟩
   ·simp only [T3_] at h7; dsimp only; omega
   exact Can.weak (Weak.lit (by simp only [go_sem, seval, at_, leV, aq_, ar_, V.inn, us, T9_, Ta_] <;> (simp only [T3_] at h7; exact ⟨aas_ (by omega), by rw [ajr_]⟩)) (by simp only [go_sem, seval, at_, leV, aq_, ar_, V.inn, us, T9_, Ta_]) (by simp only [go_sem, seval, at_, leV, aq_, ar_, V.inn, us, T9_, Ta_]))
  ·refine .exit (.seq (.rgn [] (by simp only [go_sem, seval]; rfl) ?_ ?_))
   ·(first | trivial | (simp; done) | (simp; omega) | (have := hI.2.2.2.1; simp; omega))
   refine .ret ⟨.inr rfl, ?_⟩
   exact Out.plain (by simp only [Tryz.results98]; rfl) (by simp only [az_, bj_, go_sem, seval] <;> (split <;> rfl)) (by simp only [bg_, go_sem, seval] <;> (simp only [T4_] at h5 h7; have q0 := hI.2.2.2.2; rw [show q.2.1 = 0 by omega, ada_] at q0; simp [mkT, h5, q0])) (by simp only [go_sem, seval])
/-! ### marks of expressions -/
end
section
open Go.RowKit
set_option maxRecDepth 100000
set_option maxHeartbeats 4000000
end
section
open Go.RowKit
set_option maxRecDepth 100000
theorem b0_ {c i : Nat} {X : List Blk} {R : List (Nat × Blk)} {x : Blk} (h : X[i]? = some x) : a7_ (bs_ c X ++ R) (c + i) = some x := by rw [g7_, fq_, h]; rfl
end
end Go.Proofs.YtcigkafioinfoaaGreatDoor
