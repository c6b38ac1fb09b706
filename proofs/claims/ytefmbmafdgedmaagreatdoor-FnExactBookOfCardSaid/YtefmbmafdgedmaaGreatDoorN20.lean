/- Rows of places, written anew one after another. Conditions: none. -/
import Derived.Test.YtefmbmafdgedmaaGreatDoorN18
import Derived.Test.YtefmbmafdgedmaaGreatDoorNb
import Derived.Test.YtefmbmafdgedmaaGreatDoorN7
set_option linter.unusedVariables false
set_option linter.unusedSimpArgs false
namespace Go.Proofs.YtefmbmafdgedmaaGreatDoor
section
open Go.RowKit
set_option maxRecDepth 100000
def cr_ {α : Type} (m : α → Int → α × Int) : List α → Int → List α × Int
 | [], k => ([], k)
 | a :: r, k => ((m a k).1 :: (cr_ m r (m a k).2).1, (cr_ m r (m a k).2).2)
section
variable {α : Type} (m : α → Int → α × Int)
theorem je_ : ∀ (a b : List α) (k : Int), cr_ m (a ++ b) k = ((cr_ m a k).1 ++ (cr_ m b (cr_ m a k).2).1, (cr_ m b (cr_ m a k).2).2)
 | [], b, k => rfl
 | e :: a, b, k => by simp only [List.cons_append, cr_, je_ a b]
theorem fa_ : ∀ (l : List α) (k : Int), (cr_ m l k).1.length = l.length
 | [], k => rfl
 | e :: r, k => by simp only [cr_, List.length_cons, fa_ r]
def mkP (l : List α) (k : Int) (i : Nat) : List α := (cr_ m (l.take i) k).1 ++ l.drop i
def mkK (l : List α) (k : Int) (i : Nat) : Int := (cr_ m (l.take i) k).2
theorem aau_ (l : List α) (k : Int) : mkP m l k 0 = l := by simp [mkP, cr_]
theorem or_ (l : List α) (k : Int) : mkK m l k 0 = k := by simp [mkK, cr_]
theorem ad0_ {l : List α} {k : Int} {i : Nat} (h : l.length ≤ i) : mkP m l k i = (cr_ m l k).1 := by
 unfold mkP; rw [List.take_of_length_le h, List.drop_of_length_le h, List.append_nil]
theorem ri_ {l : List α} {k : Int} {i : Nat} (h : l.length ≤ i) : mkK m l k i = (cr_ m l k).2 := by
 unfold mkK; rw [List.take_of_length_le h]
theorem af1_ {l : List α} {k : Int} {i : Nat} (h : i ≤ l.length) : (mkP m l k i).length = l.length := by
 unfold mkP; rw [List.length_append, fa_, List.length_take, List.length_drop]; omega
theorem jd_ {l : List α} {k : Int} {i : Nat} {d : α} (h : i < l.length) : mkP m l k i = (cr_ m (l.take i) k).1 ++ l.getD i d :: l.drop (i + 1) := by
 unfold mkP
 congr 1
 rw [List.getD_eq_getElem?_getD, List.getElem?_eq_getElem h, Option.getD_some, ← List.drop_eq_getElem_cons h]
theorem so_ {l : List α} {k : Int} {i : Nat} {d : α} (h : i < l.length) : mkP m l k (i + 1) = (cr_ m (l.take i) k).1 ++ (m (l.getD i d) (mkK m l k i)).1 :: l.drop (i + 1) := by
 have e : l.take (i + 1) = l.take i ++ [l.getD i d] := by
  rw [List.take_add_one, List.getElem?_eq_getElem h, List.getD_eq_getElem?_getD, List.getElem?_eq_getElem h]; rfl
 unfold mkP mkK
 rw [e, je_]
 simp [cr_]
theorem nt_ {l : List α} {k : Int} {i : Nat} {d : α} (h : i < l.length) : mkK m l k (i + 1) = (m (l.getD i d) (mkK m l k i)).2 := by
 have e : l.take (i + 1) = l.take i ++ [l.getD i d] := by
  rw [List.take_add_one, List.getElem?_eq_getElem h, List.getD_eq_getElem?_getD, List.getElem?_eq_getElem h]; rfl
 unfold mkK
 rw [e, je_]
 simp [cr_]
end
theorem dg_ {k : Nat} : ∀ {L : List Blk}, (∀ b ∈ L, clr k b.rows = true) → ay_ k L = true
 | [], _ => rfl
 | b :: L, h => by simp only [ay_, Bool.and_eq_true]; exact ⟨h b List.mem_cons_self, dg_ fun c hc => h c (List.mem_cons_of_mem _ hc)⟩
theorem yi_ (X : List Blk) : iz_ 0 X = bd_ 1000000000 X := by simp [iz_, bd_]
theorem cm_ (b : Blk) (X : List Blk) : iz_ 1 (b :: X) = (0, b) :: bd_ 1000000000 X := by simp [iz_, bd_]
theorem abq_ {E : Env} {fn : Func} {s : St} {lr : List ResultVar} {rs' : List V} {Lr' : List Blk} {h : Nat} (hh : h ≤ 10) (hl : fn.results.toList = lr) (h1 : aq_ E.P s lr) (h2 : les (lr.map (a7_ E.P s)) rs') (h3 : s.m = aw_ (iz_ h Lr')) :
  aq_ E.P s fn.results.toList ∧ les (fn.results.toList.map (a7_ E.P s)) rs' ∧ ∀ i b, Lr'[i]? = some b → s.m (nmD h i) = some b := by
 subst hl
 exact ⟨h1, h2, fun i b hb => by rw [h3, lk_ hh]; exact hb⟩
theorem bq_ {c n : Nat} (h : 0 < n) : (List.range' c n).getD 0 0 = c := by have := fd_ (c := c) h; simpa using this
theorem setD {L : List (List V)} {i : Nat} (h : i < L.length) (r : List V) : (L.set i r).getD i [] = r := by simp [List.getD_eq_getElem?_getD, List.getElem?_set, h]
namespace TT
variable {α : Type} (t : TT α)
theorem deep_lst1 (T z : Nat) (l : List α) : (t.lst T z 0 l).map (rnB (ηD 1 (t.lst T z 0 l).length)) = ⟨T, z, t.OR 1000000000 l⟩ :: t.BL 1000000000 l := by
 have hη : ∀ i, i < t.NL l → (ηD 1 (t.lst T z 0 l).length).getD (1 + i) 0 = 1000000000 + i := fun i hi => by
  rw [ly_ (by rw [lst_len]; omega)]; unfold nmD; rw [if_neg (by omega)]; omega
 obtain ⟨q1, q2⟩ := t.BL_map l (ηD 1 (t.lst T z 0 l).length) 1 1000000000 hη
 simp only [lst, Nat.zero_add, List.map_cons, rnB] at q1 q2 ⊢
 rw [q1, q2]
theorem lst_rmap (T z c : Nat) (l : List α) : (t.lst T z 0 l).map (rnB (List.range' c (t.lst T z 0 l).length)) = t.lst T z c l :=
 t.lst_map T z l _ 0 c fun i hi => by rw [Nat.zero_add]; exact fd_ (by rw [lst_len]; exact hi)
theorem lst_rcl (T z : Nat) (l : List α) : ∀ b ∈ t.lst T z 0 l, clr (t.lst T z 0 l).length b.rows = true := t.lst_cl T z l 0 _ (by rw [lst_len]; omega)
theorem mk_NL {m : α → Int → α × Int} (hm : ∀ a k, t.N (m a k).1 = t.N a) : ∀ (l : List α) (k : Int), t.NL (cr_ m l k).1 = t.NL l
 | [], k => rfl
 | e :: r, k => by simp only [cr_, NL, hm, mk_NL hm r]
theorem OR_mid (b : Nat) (A Z : List α) (e : α) : (t.OR b (A ++ e :: Z)).getD A.length [] = t.O (b + t.NL A) e := by
 rw [pi_, List.getD_eq_getElem?_getD, List.getElem?_append_right (by rw [OR_len]; exact Nat.le_refl _), OR_len, Nat.sub_self]; rfl
theorem OR_mid_set (b : Nat) (A Z : List α) (e e' : α) (h : t.N e' = t.N e) : (t.OR b (A ++ e :: Z)).set A.length (t.O (b + t.NL A) e') = t.OR b (A ++ e' :: Z) := by
 rw [pi_, pi_, List.set_append_right _ _ (by rw [OR_len]; exact Nat.le_refl _), OR_len, Nat.sub_self]
 simp only [OR, List.set_cons_zero, h]
theorem BL_wr {b c : Nat} {A Z : List α} {e e' : α} {F os bs G : List Blk} (hc : c = b + t.NL A + F.length) (h1 : t.B (b + t.NL A) e = F ++ os ++ G) (h2 : t.B (b + t.NL A) e' = F ++ bs ++ G) (hl : os.length = bs.length) (hn : t.N e' = t.N e) :
  wrL (bd_ b (t.BL b (A ++ e :: Z))) (e3_ c bs) = bd_ b (t.BL b (A ++ e' :: Z)) := by
 rw [ny_, ny_]
 simp only [BL, h1, h2, hn]
 have := ix_ (k := b) bs os (t.BL b A ++ F) (G ++ t.BL (b + t.NL A + t.N e) Z) [] hl
 simp only [List.append_nil, List.length_append, BL_len, List.append_assoc, Nat.add_assoc] at this ⊢
 rw [hc]; simp only [Nat.add_assoc]; exact this
theorem BL_rd {b c j : Nat} {A Z : List α} {e : α} {F bs G : List Blk} {x : Blk} (hc : c = b + t.NL A + F.length) (h1 : t.B (b + t.NL A) e = F ++ bs ++ G) (hx : bs[j]? = some x) : aw_ (bd_ b (t.BL b (A ++ e :: Z))) (c + j) = some x := by
 rw [hc, show b + t.NL A + F.length + j = b + (t.NL A + F.length + j) by omega, cb_, ny_]
 simp only [BL, h1]
 have hj := (List.getElem?_eq_some_iff.1 hx).1
 rw [List.getElem?_append_right (by rw [BL_len]; omega), BL_len, List.getElem?_append_left (by simp only [List.length_append]; omega), List.getElem?_append_left (by simp only [List.length_append]; omega), List.getElem?_append_right (by omega)]
 rw [← hx]; congr 1; omega
theorem hi_keep (l : List α) (b0 : Blk) : am_ (us []) (t.OR 1000000000 l) = true ∧ an_ ((0, b0) :: bd_ 1000000000 (t.BL 1000000000 l)) [] (bd_ 1000000000 (t.BL 1000000000 l)) := by
 have hU : ∀ i, us [] (1000000000 + i) = true := fun i => by simp [us]
 obtain ⟨q1, q2⟩ := t.BL_inn l 1000000000 (us []) fun i _ => hU i
 refine ⟨q1, nw_ fun i b hb => ⟨?_, hU i, q2 b (List.mem_of_getElem? hb)⟩⟩
 rw [gz_, if_neg (by omega), cb_]; exact hb
section
variable {m : α → Int → α × Int} (hm : ∀ a k, t.N (m a k).1 = t.N a)
include hm
theorem mk_wr {l : List α} {k : Int} {i : Nat} {d : α} {c : Nat} {F os bs G : List Blk} (h : i < l.length) (hc : c = 1000000000 + t.NL (l.take i) + F.length) (h1 : t.B (1000000000 + t.NL (l.take i)) (l.getD i d) = F ++ os ++ G) (h2 : t.B (1000000000 + t.NL (l.take i)) (m (l.getD i d) (mkK m l k i)).1 = F ++ bs ++ G) (hl : os.length = bs.length) :
  wrL (bd_ 1000000000 (t.BL 1000000000 (mkP m l k i))) (e3_ c bs) = bd_ 1000000000 (t.BL 1000000000 (mkP m l k (i + 1))) := by
 rw [jd_ m (d := d) h, so_ m (d := d) h]
 have e := t.mk_NL hm (l.take i) k
 exact t.BL_wr (by rw [e]; exact hc) (by rw [e]; exact h1) (by rw [e]; exact h2) hl (hm _ _)
theorem mk_rd {l : List α} {k : Int} {i j c : Nat} {d : α} {F bs G : List Blk} {x : Blk} (h : i < l.length) (hc : c = 1000000000 + t.NL (l.take i) + F.length) (h1 : t.B (1000000000 + t.NL (l.take i)) (l.getD i d) = F ++ bs ++ G) (hx : bs[j]? = some x) : aw_ (bd_ 1000000000 (t.BL 1000000000 (mkP m l k i))) (c + j) = some x := by
 rw [jd_ m (d := d) h]
 have e := t.mk_NL hm (l.take i) k
 exact t.BL_rd (by rw [e]; exact hc) (by rw [e]; exact h1) hx
theorem mkP_row {b : Nat} {l : List α} {k : Int} {i : Nat} {d : α} (h : i < l.length) : (t.OR b (mkP m l k i)).getD i [] = t.O (b + t.NL (l.take i)) (l.getD i d) := by
 have hl : (cr_ m (l.take i) k).1.length = i := by rw [fa_, List.length_take]; omega
 have := t.OR_mid b (cr_ m (l.take i) k).1 (l.drop (i + 1)) (l.getD i d)
 rw [hl, ← jd_ m h, t.mk_NL hm] at this
 exact this
theorem mkP_set {b : Nat} {l : List α} {k : Int} {i : Nat} {d : α} (h : i < l.length) : (t.OR b (mkP m l k i)).set i (t.O (b + t.NL (l.take i)) (m (l.getD i d) (mkK m l k i)).1) = t.OR b (mkP m l k (i + 1)) := by
 have hl : (cr_ m (l.take i) k).1.length = i := by rw [fa_, List.length_take]; omega
 have := t.OR_mid_set b (cr_ m (l.take i) k).1 (l.drop (i + 1)) (l.getD i d) (m (l.getD i d) (mkK m l k i)).1 (hm _ _)
 rw [hl, ← jd_ m h, ← so_ m h, t.mk_NL hm] at this
 exact this
end
end TT
end
section
open Go.RowKit
set_option maxRecDepth 100000
theorem ahq_ (c : Nat) (b : Bool) : SegOk c [.b b] [.b b] [] [] := ⟨rfl, rfl, by simp only [rns, rn], rfl, fun x hx => by cases hx⟩
theorem kSeg {c : Nat} {k : Int} {Lr bs : List Blk} (h : Lr.map (rnB (List.range' c Lr.length)) = bs) (hc : ∀ b ∈ Lr, clr Lr.length b.rows = true) : SegOk c [.i .i64 k] [.i .i64 k] Lr bs :=
 ⟨by rw [← h]; simp, h, by simp only [rns, rn], by simp only [cls, V.cl, Bool.and_self], hc⟩
theorem v0_ (c : Nat) (f : List Int) : SegOk c [.ow 0 1 0 f.length] [.ow c 1 0 f.length] [⟨3, 1, inR f⟩] [⟨3, 1, inR f⟩] :=
 ⟨rfl, by simp only [List.map_cons, List.map_nil, rnB, ci_ _ _ (ac_ _)], by simp [rns, rn, List.range'], by simp [cls, V.cl], fun b hb => by simp at hb; subst hb; exact i7_ _ _ (ac_ _)⟩
theorem b1_ {c x : Nat} {X : List Blk} {R : List (Nat × Blk)} (h : x < c) : aw_ (bd_ c X ++ R) x = aw_ R x := by rw [gr_, eh_ (.inl h)]; simp
theorem bp_ {c x : Nat} {X : List Blk} (h : x < c) : aw_ (bd_ c X) x = none := eh_ (.inl h)
theorem ca_ {c x : Nat} {X : List Blk} {R : List (Nat × Blk)} {b : Blk} (h : x < c) : f4_ (bd_ c X ++ R) x b = bd_ c X ++ f4_ R x b := kr_ X R b (.inl h)
theorem bx_ {c x : Nat} {X : List Blk} {b : Blk} (h : x < c) : f4_ (bd_ c X) x b = bd_ c X ++ [(x, b)] := by
 have := kr_ (k := c) (x := x) X [] b (.inl h)
 simpa [f4_] using this
theorem bz_ (c : Nat) (b : Blk) : e3_ c [b] = [(c, some b)] := by simp [e3_, List.range']
theorem b0_ (c : Nat) : e3_ c [] = [] := by simp [e3_]
theorem bw_ {c : Nat} {os bs : List Blk} {R : List (Nat × Blk)} (h : os.length = bs.length) : wrL (bd_ c os ++ R) (e3_ c bs) = bd_ c bs ++ R := by
 have := ix_ (k := c) bs os [] [] R h
 simpa using this
theorem br_ {c : Nat} {os bs : List Blk} (h : os.length = bs.length) : wrL (bd_ c os) (e3_ c bs) = bd_ c bs := by
 have := bw_ (c := c) (R := []) h
 simpa using this
theorem uj_ {c : Nat} {X : List Blk} {R : List (Nat × Blk)} {i : Nat} {x : Blk} (h : X[i]? = some x) : pj_ (List.range' c X.length) (aw_ (bd_ c X ++ R)) (c + i) = some x := by
 have hi := (List.getElem?_eq_some_iff.1 h).1
 rw [afp_ (by rw [List.mem_range'_1]; omega), gr_, cb_, h]; rfl
theorem y7_ {c : Nat} {X : List Blk} {i : Nat} {x : Blk} (h : X[i]? = some x) : pj_ (List.range' c X.length) (aw_ (bd_ c X)) (c + i) = some x := by
 have := uj_ (R := []) (c := c) h
 simpa using this
end
section
open Go.RowKit
set_option maxRecDepth 100000
set_option maxHeartbeats 4000000
def mkD : Nat → Nat → Str → Str
 | 0, _, a => a
 | f + 1, n, a => if n = 0 then a else mkD f (n / 10) (UInt8.ofNat (48 + n % 10) :: a)
def mkT (k : Int) : Str := if k ≤ 0 then [109, 48] else 109 :: mkD 20 k.toNat []
theorem adh_ (f : Nat) (a : Str) : mkD f 0 a = a := by cases f <;> simp [mkD]
theorem afd_ {f n : Nat} (h : 0 < n) (hf : 0 < f) (a : Str) : mkD f n a = mkD (f - 1) (n / 10) (UInt8.ofNat (48 + n % 10) :: a) := by
 cases f with
 | zero => omega
 | succ f => rw [mkD, if_neg (by omega)]; rfl
theorem aae_ {f n : Nat} (h : 0 < n) (h1 : n < 10 ^ f) (a : Str) : 0 < f ∧ n / 10 < 10 ^ (f - 1) ∧ mkD (f - 1) (n / 10) (UInt8.ofNat (48 + n % 10) :: a) = mkD f n a := by
 cases f with
 | zero => simp at h1; omega
 | succ f =>
  refine ⟨by omega, ?_, (afd_ h (by omega) a).symm⟩
  rw [Nat.pow_succ] at h1
  show n / 10 < 10 ^ f
  omega
theorem p20 : (10 : Nat) ^ 20 = 100000000000000000000 := by decide
theorem y0_ {n : Nat} (h : n ≤ 1000000000) : IntKind.i64.wrap ((n : Int).tdiv 10) = ((n / 10 : Nat) : Int) := by
 have e : (n : Int).tdiv 10 = ((n / 10 : Nat) : Int) := by rw [Int.tdiv_eq_ediv_of_nonneg (by omega)]; rfl
 rw [e, bc_ (by omega) (by omega)]
theorem ahi_ (n : Nat) : UInt8.ofNat (IntKind.u8.wrap (IntKind.i64.wrap (48 + (n : Int).tmod 10))).toNat = UInt8.ofNat (48 + n % 10) := by
 have e : (n : Int).tmod 10 = ((n % 10 : Nat) : Int) := by rw [Int.tmod_eq_emod_of_nonneg (by omega)]; rfl
 have h := Nat.mod_lt n (show 0 < 10 by decide)
 rw [e, bc_ (by omega) (by omega)]
 generalize n % 10 = d at *
 have : d = 0 ∨ d = 1 ∨ d = 2 ∨ d = 3 ∨ d = 4 ∨ d = 5 ∨ d = 6 ∨ d = 7 ∨ d = 8 ∨ d = 9 := by omega
 rcases this with rfl | rfl | rfl | rfl | rfl | rfl | rfl | rfl | rfl | rfl <;> rfl
theorem ib_ (k : Int) (h0 : 0 ≤ k) (h1 : k ≤ 1000000000) : ACall En 74 [.i .i64 k] [] [.s (mkT k)] [] := by
 refine ah_ (fn := Tryz.f74) [] Tryz.func74 rfl rfl (by simp) fun C => ?_
 rw [ar_]
 simp only [Tryz.ntmps74, List.length_cons, List.length_nil, Nat.reduceAdd, Nat.reduceSub, List.replicate_succ, List.replicate_zero, List.cons_append, List.nil_append, bd_]
 refine .seq (.rgn [] (by simp only [go_sem, seval]; rfl) ?_ ?_)
 ·(first | trivial | (simp; done) | (simp; omega) | (have := hI.2.2.2.1; simp; omega))
 refine .seq (.seq (.rgn [] (by simp only [go_sem, seval]; rfl) ?_ ?_))
 ·(first | trivial | (simp; done) | (simp; omega) | (have := hI.2.2.2.1; simp; omega))
 refine .condB (by simp only [go_sem, seval]; rfl) (by simp only [go_sem, seval]) (fun h5 => ?_) (fun h5 => ?_)
 ·refine .seq (.rgn [] (by simp only [go_sem, seval]; rfl) ?_ ?_)
  ·(first | trivial | (simp; done) | (simp; omega) | (have := hI.2.2.2.1; simp; omega))
  refine .ret ⟨.inr rfl, ?_⟩
  exact Out.plain (by simp only [Tryz.results74]; rfl) (by simp only [aq_, a8_, go_sem, seval] <;> (split <;> rfl)) (by simp only [a7_, go_sem, seval] <;> (simp only [decide_eq_true_eq] at h5; simp [mkT, h5])) (by simp only [go_sem, seval])
 ·refine .skip (.seq (.rgn [] (by simp only [go_sem, seval]; rfl) ?_ ?_))
  ·(first | trivial | (simp; done) | (simp; omega) | (have := hI.2.2.2.1; simp; omega))
  refine .seq (.block (.loopK (fun q : Nat × Nat × Str => ⟨[.i .i64 q.2.1, .no, .no, .s q.2.2, .no, .no, .no, .no, .no, .no, .no, .no, .no, .no, .no, .no, .no, .no, .no, .no], aw_ [], us []⟩) (fun q : Nat × Nat × Str => q.2.1 < 10 ^ q.1 ∧ q.1 ≤ 20 ∧ q.2.1 ≤ 1000000000 ∧ q.2.2.length ≤ 20 - q.1 ∧ mkD q.1 q.2.1 q.2.2 = mkD 20 k.toNat []) (fun q : Nat × Nat × Str => q.2.1) ((20, k.toNat, [])) ?_ ?_ (fun q hI => ?_)))
  ·have := p20; exact ⟨by dsimp only; omega, Nat.le_refl _, by dsimp only; omega, by simp, rfl⟩
  ·exact Can.weak (Weak.lit (by simp only [go_sem, seval, an_, leV, al_, am_, V.inn, us, true_or, or_true] <;> (omega)) (by simp only [go_sem, seval, an_, leV, al_, am_, V.inn, us, true_or, or_true]) (by simp only [go_sem, seval, an_, leV, al_, am_, V.inn, us, true_or, or_true]))
  refine .seq (.seq (.rgn [] (by simp only [go_sem, seval]; rfl) ?_ ?_))
  ·(first | trivial | (simp; done) | (simp; omega) | (have := hI.2.2.2.1; simp; omega))
  refine .condB (by simp only [go_sem, seval]; rfl) (by simp only [go_sem, seval]) (fun h7 => ?_) (fun h7 => ?_)
  ·refine .skip (.block (.seq (.rgnS [13] [cvO En] (by simp only [go_sem, seval]; rfl) ?_ ?_)))
   ·(first | trivial | (simp; done) | (simp; omega) | (have := hI.2.2.2.1; simp; omega))
   refine .rgn [] (by simp only [go_sem, seval]; rfl) ?_ ?_
   ·(first | trivial | (simp; done) | (simp; omega) | (have := hI.2.2.2.1; simp; omega))
   refine Exists.intro ((q.1 - 1, q.2.1 / 10, UInt8.ofNat (48 + q.2.1 % 10) :: q.2.2)) ⟨?_, ?_, ?_⟩
   ·simp only [decide_eq_true_eq] at h7; obtain ⟨s1, s2, s3⟩ := aae_ (show 0 < q.2.1 by omega) hI.1 q.2.2; exact ⟨s2, by dsimp only; omega, by dsimp only; omega, by simp only [List.length_cons]; omega, s3.trans hI.2.2.2.2⟩
   ·simp only [decide_eq_true_eq] at h7; dsimp only; omega
   exact Can.weak (Weak.lit (by simp only [go_sem, seval, an_, leV, al_, am_, V.inn, us, true_or, or_true] <;> (simp only [decide_eq_true_eq] at h7; exact ⟨y0_ (by omega), by rw [ahi_]⟩)) (by simp only [go_sem, seval, an_, leV, al_, am_, V.inn, us, true_or, or_true]) (by simp only [go_sem, seval, an_, leV, al_, am_, V.inn, us, true_or, or_true]))
  ·refine .exit (.seq (.rgn [] (by simp only [go_sem, seval]; rfl) ?_ ?_))
   ·(first | trivial | (simp; done) | (simp; omega) | (have := hI.2.2.2.1; simp; omega))
   refine .ret ⟨.inr rfl, ?_⟩
   exact Out.plain (by simp only [Tryz.results74]; rfl) (by simp only [aq_, a8_, go_sem, seval] <;> (split <;> rfl)) (by simp only [a7_, go_sem, seval] <;> (simp only [decide_eq_false_iff_not] at h5 h7; have q0 := hI.2.2.2.2; rw [show q.2.1 = 0 by omega, adh_] at q0; simp [mkT, h5, q0])) (by simp only [go_sem, seval])
/-! ### marks of expressions -/
end
section
open Go.RowKit
set_option maxRecDepth 100000
set_option maxHeartbeats 4000000
end
section
open Go.RowKit
set_option maxRecDepth 100000
theorem cq_ {c i : Nat} {X : List Blk} {R : List (Nat × Blk)} {x : Blk} (h : X[i]? = some x) : aw_ (bd_ c X ++ R) (c + i) = some x := by rw [gr_, cb_, h]; rfl
end
end Go.Proofs.YtefmbmafdgedmaaGreatDoor
