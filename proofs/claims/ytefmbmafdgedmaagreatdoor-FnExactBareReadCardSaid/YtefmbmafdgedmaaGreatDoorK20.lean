/- Rows of places, written anew one after another. Conditions: none. -/
import Derived.Test.YtefmbmafdgedmaaGreatDoorK18
import Derived.Test.YtefmbmafdgedmaaGreatDoorKb
import Derived.Test.YtefmbmafdgedmaaGreatDoorK7
set_option linter.unusedVariables false
set_option linter.unusedSimpArgs false
namespace Go.Proofs.YtefmbmafdgedmaaGreatDoor
section
open Go.RowKit
set_option maxRecDepth 100000
def dm_ {α : Type} (m : α → Int → α × Int) : List α → Int → List α × Int
 | [], k => ([], k)
 | a :: r, k => ((m a k).1 :: (dm_ m r (m a k).2).1, (dm_ m r (m a k).2).2)
section
variable {α : Type} (m : α → Int → α × Int)
theorem ix_ : ∀ (a b : List α) (k : Int), dm_ m (a ++ b) k = ((dm_ m a k).1 ++ (dm_ m b (dm_ m a k).2).1, (dm_ m b (dm_ m a k).2).2)
 | [], b, k => rfl
 | e :: a, b, k => by simp only [List.cons_append, dm_, ix_ a b]
theorem hq_ : ∀ (l : List α) (k : Int), (dm_ m l k).1.length = l.length
 | [], k => rfl
 | e :: r, k => by simp only [dm_, T7_, hq_ r]
def mkP (l : List α) (k : Int) (i : Nat) : List α := (dm_ m (l.take i) k).1 ++ l.drop i
def mkK (l : List α) (k : Int) (i : Nat) : Int := (dm_ m (l.take i) k).2
theorem yu_ (l : List α) (k : Int) : mkP m l k 0 = l := by simp [mkP, dm_]
theorem rv_ (l : List α) (k : Int) : mkK m l k 0 = k := by simp [mkK, dm_]
theorem acz_ {l : List α} {k : Int} {i : Nat} (h : l.length ≤ i) : mkP m l k i = (dm_ m l k).1 := by
 unfold mkP; rw [T1_ h, List.drop_of_length_le h, List.append_nil]
theorem vm_ {l : List α} {k : Int} {i : Nat} (h : l.length ≤ i) : mkK m l k i = (dm_ m l k).2 := by
 unfold mkK; rw [T1_ h]
theorem acs_ {l : List α} {k : Int} {i : Nat} (h : i ≤ l.length) : (mkP m l k i).length = l.length := by
 unfold mkP; rw [T2_, hq_, List.length_take, List.length_drop]; omega
theorem i6_ {l : List α} {k : Int} {i : Nat} {d : α} (h : i < l.length) : mkP m l k i = (dm_ m (l.take i) k).1 ++ l.getD i d :: l.drop (i + 1) := by
 unfold mkP
 congr 1
 rw [T8_, T6_ h, Option.getD_some, ← List.drop_eq_getElem_cons h]
theorem rz_ {l : List α} {k : Int} {i : Nat} {d : α} (h : i < l.length) : mkP m l k (i + 1) = (dm_ m (l.take i) k).1 ++ (m (l.getD i d) (mkK m l k i)).1 :: l.drop (i + 1) := by
 have e : l.take (i + 1) = l.take i ++ [l.getD i d] := by
  rw [List.take_add_one, T6_ h, T8_, T6_ h]; rfl
 unfold mkP mkK
 rw [e, ix_]
 simp [dm_]
theorem r5_ {l : List α} {k : Int} {i : Nat} {d : α} (h : i < l.length) : mkK m l k (i + 1) = (m (l.getD i d) (mkK m l k i)).2 := by
 have e : l.take (i + 1) = l.take i ++ [l.getD i d] := by
  rw [List.take_add_one, T6_ h, T8_, T6_ h]; rfl
 unfold mkK
 rw [e, ix_]
 simp [dm_]
end
theorem cd_ {k : Nat} : ∀ {L : List Blk}, (∀ b ∈ L, clr k b.rows = true) → ax_ k L = true
 | [], _ => rfl
 | b :: L, h => by simp only [ax_, T5_]; exact ⟨h b List.mem_cons_self, cd_ fun c hc => h c (List.mem_cons_of_mem _ hc)⟩
theorem lc_ (X : List Blk) : ii_ 0 X = bl_ 1000000000 X := by simp [ii_, bl_]
theorem cm_ (b : Blk) (X : List Blk) : ii_ 1 (b :: X) = (0, b) :: bl_ 1000000000 X := by simp [ii_, bl_]
theorem y6_ {E : Env} {fn : Func} {s : St} {lr : List ResultVar} {rs' : List V} {Lr' : List Blk} {h : Nat} (hh : h ≤ 10) (hl : fn.results.toList = lr) (h1 : a4_ E.P s lr) (h2 : les (lr.map (bg_ E.P s)) rs') (h3 : s.m = be_ (ii_ h Lr')) :
  a4_ E.P s fn.results.toList ∧ les (fn.results.toList.map (bg_ E.P s)) rs' ∧ ∀ i b, Lr'[i]? = some b → s.m (nmD h i) = some b := by
 subst hl
 exact ⟨h1, h2, fun i b hb => by rw [h3, kw_ hh]; exact hb⟩
theorem pc_ {E : Env} {fn : Func} {s : St} {lr : List ResultVar} {rs' : List V} {Lr' : List Blk} {R : List (Nat × Blk)} (hl : fn.results.toList = lr) (h1 : a4_ E.P s lr) (h2 : les (lr.map (bg_ E.P s)) rs') (h3 : s.m = be_ (bl_ 1000000000 Lr' ++ R)) :
  a4_ E.P s fn.results.toList ∧ les (fn.results.toList.map (bg_ E.P s)) rs' ∧ ∀ i b, Lr'[i]? = some b → s.m (nmD 0 i) = some b := by
 subst hl
 refine ⟨h1, h2, fun i b hb => ?_⟩
 rw [h3, ds_, show nmD 0 i = 1000000000 + i by simp [nmD], dc_, hb]; rfl
theorem b0_ {c n : Nat} (h : 0 < n) : (List.range' c n).getD 0 0 = c := by have := b2_ (c := c) h; simpa using this
theorem setD {L : List (List V)} {i : Nat} (h : i < L.length) (r : List V) : (L.set i r).getD i [] = r := by simp [T8_, List.getElem?_set, h]
namespace TT
variable {α : Type} (t : TT α)
theorem deep_lst1 (T z : Nat) (l : List α) : (t.lst T z 0 l).map (rnB (ηD 1 (t.lst T z 0 l).length)) = ⟨T, z, t.OR 1000000000 l⟩ :: t.BL 1000000000 l := by
 have hη : ∀ i, i < t.NL l → (ηD 1 (t.lst T z 0 l).length).getD (1 + i) 0 = 1000000000 + i := fun i hi => by
  rw [jp_ (by rw [lst_len]; omega)]; unfold nmD; rw [if_neg (by omega)]; omega
 obtain ⟨q1, q2⟩ := t.BL_map l (ηD 1 (t.lst T z 0 l).length) 1 1000000000 hη
 simp only [lst, Nat.zero_add, List.map_cons, rnB] at q1 q2 ⊢
 rw [q1, q2]
theorem deep_one (a : α) : rns (ηD 0 (t.B 0 a).length) (t.O 0 a) = t.O 1000000000 a ∧ (t.B 0 a).map (rnB (ηD 0 (t.B 0 a).length)) = t.B 1000000000 a := by
 refine t.map a _ 0 1000000000 fun i hi => ?_
 rw [jp_ (by rw [t.len]; omega)]; unfold nmD; rw [if_neg (by omega)]; omega
theorem d_cv (a : α) (k : Int) : cls (t.B 0 a).length [.ag (t.O 0 a), .i .i64 k] = true := by
 rw [t.len]; simp only [cls, V.cl, (t.cl a 0 _ (Nat.le_of_eq (Nat.zero_add _))).1, Bool.and_self]
theorem d_c0 (a : α) : ∀ b ∈ t.B 0 a, clr (t.B 0 a).length b.rows = true := by
 rw [t.len]; exact (t.cl a 0 _ (Nat.le_of_eq (Nat.zero_add _))).2
theorem d_e1 (a : α) (k : Int) : rns (ηD 0 (t.B 0 a).length) [.ag (t.O 0 a), .i .i64 k] = [.ag (t.O 1000000000 a), .i .i64 k] := by
 simp only [rns, rn, (t.deep_one a).1]
theorem lst_rmap (T z c : Nat) (l : List α) : (t.lst T z 0 l).map (rnB (List.range' c (t.lst T z 0 l).length)) = t.lst T z c l :=
 t.lst_map T z l _ 0 c fun i hi => by rw [Nat.zero_add]; exact b2_ (by rw [lst_len]; exact hi)
theorem lst_rcl (T z : Nat) (l : List α) : ∀ b ∈ t.lst T z 0 l, clr (t.lst T z 0 l).length b.rows = true := t.lst_cl T z l 0 _ (by rw [lst_len]; omega)
theorem mk_NL {m : α → Int → α × Int} (hm : ∀ a k, t.N (m a k).1 = t.N a) : ∀ (l : List α) (k : Int), t.NL (dm_ m l k).1 = t.NL l
 | [], k => rfl
 | e :: r, k => by simp only [dm_, NL, hm, mk_NL hm r]
theorem OR_mid (b : Nat) (A Z : List α) (e : α) : (t.OR b (A ++ e :: Z)).getD A.length [] = t.O (b + t.NL A) e := by
 rw [q7_, T8_, List.getElem?_append_right (by rw [OR_len]; exact Nat.le_refl _), OR_len, Nat.sub_self]; rfl
theorem OR_mid_set (b : Nat) (A Z : List α) (e e' : α) (h : t.N e' = t.N e) : (t.OR b (A ++ e :: Z)).set A.length (t.O (b + t.NL A) e') = t.OR b (A ++ e' :: Z) := by
 rw [q7_, q7_, List.set_append_right _ _ (by rw [OR_len]; exact Nat.le_refl _), OR_len, Nat.sub_self]
 simp only [OR, List.set_cons_zero, h]
theorem BL_wr {b c : Nat} {A Z : List α} {e e' : α} {F os bs G : List Blk} (hc : c = b + t.NL A + F.length) (h1 : t.B (b + t.NL A) e = F ++ os ++ G) (h2 : t.B (b + t.NL A) e' = F ++ bs ++ G) (hl : os.length = bs.length) (hn : t.N e' = t.N e) :
  wrL (bl_ b (t.BL b (A ++ e :: Z))) (ed_ c bs) = bl_ b (t.BL b (A ++ e' :: Z)) := by
 rw [qz_, qz_]
 simp only [BL, h1, h2, hn]
 have := gb_ (k := b) bs os (t.BL b A ++ F) (G ++ t.BL (b + t.NL A + t.N e) Z) [] hl
 simp only [List.append_nil, T2_, nz_, List.append_assoc, Nat.add_assoc] at this ⊢
 rw [hc]; simp only [Nat.add_assoc]; exact this
theorem BL_rd {b c j : Nat} {A Z : List α} {e : α} {F bs G : List Blk} {x : Blk} (hc : c = b + t.NL A + F.length) (h1 : t.B (b + t.NL A) e = F ++ bs ++ G) (hx : bs[j]? = some x) : be_ (bl_ b (t.BL b (A ++ e :: Z))) (c + j) = some x := by
 rw [hc, show b + t.NL A + F.length + j = b + (t.NL A + F.length + j) by omega, dc_, qz_]
 simp only [BL, h1]
 have hj := (List.getElem?_eq_some_iff.1 hx).1
 rw [List.getElem?_append_right (by rw [nz_]; omega), nz_, List.getElem?_append_left (by simp only [T2_]; omega), List.getElem?_append_left (by simp only [T2_]; omega), List.getElem?_append_right (by omega)]
 rw [← hx]; congr 1; omega
theorem hi_keep (l : List α) (b0 : Blk) : a0_ (us []) (t.OR 1000000000 l) = true ∧ a2_ ((0, b0) :: bl_ 1000000000 (t.BL 1000000000 l)) [] (bl_ 1000000000 (t.BL 1000000000 l)) := by
 have hU : ∀ i, us [] (1000000000 + i) = true := fun i => by simp [us]
 obtain ⟨q1, q2⟩ := t.BL_inn l 1000000000 (us []) fun i _ => hU i
 refine ⟨q1, nj_ fun i b hb => ⟨?_, hU i, q2 b (List.mem_of_getElem? hb)⟩⟩
 rw [bo_, if_neg (by omega), dc_]; exact hb
section
variable {m : α → Int → α × Int} (hm : ∀ a k, t.N (m a k).1 = t.N a)
include hm
theorem mk_wr {l : List α} {k : Int} {i : Nat} {d : α} {c : Nat} {F os bs G : List Blk} (h : i < l.length) (hc : c = 1000000000 + t.NL (l.take i) + F.length) (h1 : t.B (1000000000 + t.NL (l.take i)) (l.getD i d) = F ++ os ++ G) (h2 : t.B (1000000000 + t.NL (l.take i)) (m (l.getD i d) (mkK m l k i)).1 = F ++ bs ++ G) (hl : os.length = bs.length) :
  wrL (bl_ 1000000000 (t.BL 1000000000 (mkP m l k i))) (ed_ c bs) = bl_ 1000000000 (t.BL 1000000000 (mkP m l k (i + 1))) := by
 rw [i6_ m (d := d) h, rz_ m (d := d) h]
 have e := t.mk_NL hm (l.take i) k
 exact t.BL_wr (by rw [e]; exact hc) (by rw [e]; exact h1) (by rw [e]; exact h2) hl (hm _ _)
theorem mk_rd {l : List α} {k : Int} {i j c : Nat} {d : α} {F bs G : List Blk} {x : Blk} (h : i < l.length) (hc : c = 1000000000 + t.NL (l.take i) + F.length) (h1 : t.B (1000000000 + t.NL (l.take i)) (l.getD i d) = F ++ bs ++ G) (hx : bs[j]? = some x) : be_ (bl_ 1000000000 (t.BL 1000000000 (mkP m l k i))) (c + j) = some x := by
 rw [i6_ m (d := d) h]
 have e := t.mk_NL hm (l.take i) k
 exact t.BL_rd (by rw [e]; exact hc) (by rw [e]; exact h1) hx
theorem mkP_row {b : Nat} {l : List α} {k : Int} {i : Nat} {d : α} (h : i < l.length) : (t.OR b (mkP m l k i)).getD i [] = t.O (b + t.NL (l.take i)) (l.getD i d) := by
 have hl : (dm_ m (l.take i) k).1.length = i := by rw [hq_, List.length_take]; omega
 have := t.OR_mid b (dm_ m (l.take i) k).1 (l.drop (i + 1)) (l.getD i d)
 rw [hl, ← i6_ m h, t.mk_NL hm] at this
 exact this
theorem mkP_set {b : Nat} {l : List α} {k : Int} {i : Nat} {d : α} (h : i < l.length) : (t.OR b (mkP m l k i)).set i (t.O (b + t.NL (l.take i)) (m (l.getD i d) (mkK m l k i)).1) = t.OR b (mkP m l k (i + 1)) := by
 have hl : (dm_ m (l.take i) k).1.length = i := by rw [hq_, List.length_take]; omega
 have := t.OR_mid_set b (dm_ m (l.take i) k).1 (l.drop (i + 1)) (l.getD i d) (m (l.getD i d) (mkK m l k i)).1 (hm _ _)
 rw [hl, ← i6_ m h, ← rz_ m h, t.mk_NL hm] at this
 exact this
end
end TT
end
section
open Go.RowKit
set_option maxRecDepth 100000
theorem nq_ (c : Nat) (b : Bool) : SegOk c [.b b] [.b b] [] [] := ⟨rfl, rfl, by simp only [rns, rn], rfl, fun x hx => by cases hx⟩
theorem xw_ {c : Nat} {k : Int} {Lr bs : List Blk} (h : Lr.map (rnB (List.range' c Lr.length)) = bs) (hc : ∀ b ∈ Lr, clr Lr.length b.rows = true) : SegOk c [.i .i64 k] [.i .i64 k] Lr bs :=
 ⟨by rw [← h]; simp, h, by simp only [rns, rn], by simp only [cls, V.cl, Bool.and_self], hc⟩
theorem ag_ {c x : Nat} {X : List Blk} {R : List (Nat × Blk)} (h : x < c) : be_ (bl_ c X ++ R) x = be_ R x := by rw [ds_, do_ (.inl h)]; simp
theorem ad_ {c x : Nat} {X : List Blk} (h : x < c) : be_ (bl_ c X) x = none := do_ (.inl h)
theorem ak_ {c x : Nat} {X : List Blk} {R : List (Nat × Blk)} {b : Blk} (h : x < c) : ep_ (bl_ c X ++ R) x b = bl_ c X ++ ep_ R x b := io_ X R b (.inl h)
theorem af_ {c x : Nat} {X : List Blk} {b : Blk} (h : x < c) : ep_ (bl_ c X) x b = bl_ c X ++ [(x, b)] := by
 have := io_ (k := c) (x := x) X [] b (.inl h)
 simpa [ep_] using this
theorem bf_ (c : Nat) (b : Blk) : ed_ c [b] = [(c, some b)] := by simp [ed_, List.range']
theorem av_ (c : Nat) : ed_ c [] = [] := by simp [ed_]
theorem bw_ {c : Nat} {os bs : List Blk} {R : List (Nat × Blk)} (h : os.length = bs.length) : wrL (bl_ c os ++ R) (ed_ c bs) = bl_ c bs ++ R := by
 have := gb_ (k := c) bs os [] [] R h
 simpa using this
theorem bv_ {c : Nat} {os bs : List Blk} (h : os.length = bs.length) : wrL (bl_ c os) (ed_ c bs) = bl_ c bs := by
 have := bw_ (c := c) (R := []) h
 simpa using this
theorem it_ {c : Nat} {os bs Z : List Blk} {R : List (Nat × Blk)} (h : os.length = bs.length) : wrL (bl_ c (os ++ Z) ++ R) (ed_ c bs) = bl_ c (bs ++ Z) ++ R := by
 have := gb_ (k := c) bs os [] Z R h
 simpa using this
theorem i9_ {k c : Nat} {A os bs : List Blk} {R : List (Nat × Blk)} (hc : c = k + A.length) (h : os.length = bs.length) : wrL (bl_ k (A ++ os) ++ R) (ed_ c bs) = bl_ k (A ++ bs) ++ R := by
 subst hc
 have := gb_ (k := k) bs os A [] R h
 simpa using this
theorem is_ {c j : Nat} {A Z : List Blk} {R : List (Nat × Blk)} {x : Blk} (h : A[j]? = some x) : be_ (bl_ c (A ++ Z) ++ R) (c + j) = some x := by
 rw [ds_, dc_, List.getElem?_append_left (List.getElem?_eq_some_iff.1 h).1, h]; rfl
theorem iw_ {k c j : Nat} {A X : List Blk} {R : List (Nat × Blk)} {x : Blk} (hc : c = k + A.length) (h : X[j]? = some x) : be_ (bl_ k (A ++ X) ++ R) (c + j) = some x := by
 rw [hc, Nat.add_assoc, ds_, dc_, List.getElem?_append_right (by omega), Nat.add_sub_cancel_left, h]; rfl
end
section
open Go.RowKit
set_option maxRecDepth 100000
set_option maxHeartbeats 4000000
def mkD : Nat → Nat → Str → Str
 | 0, _, a => a
 | f + 1, n, a => if n = 0 then a else mkD f (n / 10) (UInt8.ofNat (48 + n % 10) :: a)
def mkT (k : Int) : Str := if k ≤ 0 then [109, 48] else 109 :: mkD 20 k.toNat []
theorem zt_ (f : Nat) (a : Str) : mkD f 0 a = a := by cases f <;> simp [mkD]
theorem adp_ {f n : Nat} (h : 0 < n) (hf : 0 < f) (a : Str) : mkD f n a = mkD (f - 1) (n / 10) (UInt8.ofNat (48 + n % 10) :: a) := by
 cases f with
 | zero => omega
 | succ f => rw [mkD, if_neg (by omega)]; rfl
theorem yl_ {f n : Nat} (h : 0 < n) (h1 : n < 10 ^ f) (a : Str) : 0 < f ∧ n / 10 < 10 ^ (f - 1) ∧ mkD (f - 1) (n / 10) (UInt8.ofNat (48 + n % 10) :: a) = mkD f n a := by
 cases f with
 | zero => simp at h1; omega
 | succ f =>
  refine ⟨by omega, ?_, (adp_ h (by omega) a).symm⟩
  rw [Nat.pow_succ] at h1
  show n / 10 < 10 ^ f
  omega
theorem p20 : (10 : Nat) ^ 20 = 100000000000000000000 := by decide
theorem xd_ {n : Nat} (h : n ≤ 1000000000) : IntKind.i64.wrap ((n : Int).tdiv 10) = ((n / 10 : Nat) : Int) := by
 have e : (n : Int).tdiv 10 = ((n / 10 : Nat) : Int) := by rw [Int.tdiv_eq_ediv_of_nonneg (by omega)]; rfl
 rw [e, bt_ (by omega) (by omega)]
theorem ae5_ (n : Nat) : UInt8.ofNat (IntKind.u8.wrap (IntKind.i64.wrap (48 + (n : Int).tmod 10))).toNat = UInt8.ofNat (48 + n % 10) := by
 have e : (n : Int).tmod 10 = ((n % 10 : Nat) : Int) := by rw [Int.tmod_eq_emod_of_nonneg (by omega)]; rfl
 have h := Nat.mod_lt n (show 0 < 10 by decide)
 rw [e, bt_ (by omega) (by omega)]
 generalize n % 10 = d at *
 have : d = 0 ∨ d = 1 ∨ d = 2 ∨ d = 3 ∨ d = 4 ∨ d = 5 ∨ d = 6 ∨ d = 7 ∨ d = 8 ∨ d = 9 := by omega
 rcases this with rfl | rfl | rfl | rfl | rfl | rfl | rfl | rfl | rfl | rfl <;> rfl
theorem m6_ (k : Int) (h0 : 0 ≤ k) (h1 : k ≤ 1000000000) : ACall En 74 [.i .i64 k] [] [.s (mkT k)] [] := by
 refine aq_ (fn := Tryz.f74) [] Tryz.func74 rfl rfl (by simp) fun C => ?_
 rw [bb_]
 simp only [Tryz.ntmps74, T7_, List.length_nil, Nat.reduceAdd, Nat.reduceSub, List.replicate_succ, List.replicate_zero, List.cons_append, List.nil_append, bl_]
 refine .seq (.rgn [] (by simp only [go_sem, seval]; rfl) ?_ ?_)
 ·(first | trivial | (simp; done) | (simp; omega) | (have := hI.2.2.2.1; simp; omega))
 refine .seq (.seq (.rgn [] (by simp only [go_sem, seval]; rfl) ?_ ?_))
 ·(first | trivial | (simp; done) | (simp; omega) | (have := hI.2.2.2.1; simp; omega))
 refine .condB (by simp only [go_sem, seval]; rfl) (by simp only [go_sem, seval]) (fun h5 => ?_) (fun h5 => ?_)
 ·refine .seq (.rgn [] (by simp only [go_sem, seval]; rfl) ?_ ?_)
  ·(first | trivial | (simp; done) | (simp; omega) | (have := hI.2.2.2.1; simp; omega))
  refine .ret ⟨.inr rfl, ?_⟩
  exact Out.plain (by simp only [Tryz.results74]; rfl) (by simp only [a4_, bh_, go_sem, seval] <;> (split <;> rfl)) (by simp only [bg_, go_sem, seval] <;> (simp only [T3_] at h5; simp [mkT, h5])) (by simp only [go_sem, seval])
 ·refine .skip (.seq (.rgn [] (by simp only [go_sem, seval]; rfl) ?_ ?_))
  ·(first | trivial | (simp; done) | (simp; omega) | (have := hI.2.2.2.1; simp; omega))
  refine .seq (.block (.loopK (fun q : Nat × Nat × Str => ⟨[.i .i64 q.2.1, .no, .no, .s q.2.2, .no, .no, .no, .no, .no, .no, .no, .no, .no, .no, .no, .no, .no, .no, .no, .no], be_ [], us []⟩) (fun q : Nat × Nat × Str => q.2.1 < 10 ^ q.1 ∧ q.1 ≤ 20 ∧ q.2.1 ≤ 1000000000 ∧ q.2.2.length ≤ 20 - q.1 ∧ mkD q.1 q.2.1 q.2.2 = mkD 20 k.toNat []) (fun q : Nat × Nat × Str => q.2.1) ((20, k.toNat, [])) ?_ ?_ (fun q hI => ?_)))
  ·have := p20; exact ⟨by dsimp only; omega, Nat.le_refl _, by dsimp only; omega, by simp, rfl⟩
  ·exact Can.weak (Weak.lit (by simp only [go_sem, seval, a2_, leV, az_, a0_, V.inn, us, T9_, Ta_] <;> (omega)) (by simp only [go_sem, seval, a2_, leV, az_, a0_, V.inn, us, T9_, Ta_]) (by simp only [go_sem, seval, a2_, leV, az_, a0_, V.inn, us, T9_, Ta_]))
  refine .seq (.seq (.rgn [] (by simp only [go_sem, seval]; rfl) ?_ ?_))
  ·(first | trivial | (simp; done) | (simp; omega) | (have := hI.2.2.2.1; simp; omega))
  refine .condB (by simp only [go_sem, seval]; rfl) (by simp only [go_sem, seval]) (fun h7 => ?_) (fun h7 => ?_)
  ·refine .skip (.block (.seq (.rgnS [13] [cvO En] (by simp only [go_sem, seval]; rfl) ?_ ?_)))
   ·(first | trivial | (simp; done) | (simp; omega) | (have := hI.2.2.2.1; simp; omega))
   refine .rgn [] (by simp only [go_sem, seval]; rfl) ?_ ?_
   ·(first | trivial | (simp; done) | (simp; omega) | (have := hI.2.2.2.1; simp; omega))
   refine Exists.intro ((q.1 - 1, q.2.1 / 10, UInt8.ofNat (48 + q.2.1 % 10) :: q.2.2)) ⟨?_, ?_, ?_⟩
   ·simp only [T3_] at h7; obtain ⟨s1, s2, s3⟩ := yl_ (show 0 < q.2.1 by omega) hI.1 q.2.2; exact ⟨s2, by dsimp only; omega, by dsimp only; omega, by simp only [T7_]; omega, s3.trans hI.2.2.2.2⟩
   ·simp only [T3_] at h7; dsimp only; omega
   exact Can.weak (Weak.lit (by simp only [go_sem, seval, a2_, leV, az_, a0_, V.inn, us, T9_, Ta_] <;> (simp only [T3_] at h7; exact ⟨xd_ (by omega), by rw [ae5_]⟩)) (by simp only [go_sem, seval, a2_, leV, az_, a0_, V.inn, us, T9_, Ta_]) (by simp only [go_sem, seval, a2_, leV, az_, a0_, V.inn, us, T9_, Ta_]))
  ·refine .exit (.seq (.rgn [] (by simp only [go_sem, seval]; rfl) ?_ ?_))
   ·(first | trivial | (simp; done) | (simp; omega) | (have := hI.2.2.2.1; simp; omega))
   refine .ret ⟨.inr rfl, ?_⟩
   exact Out.plain (by simp only [Tryz.results74]; rfl) (by simp only [a4_, bh_, go_sem, seval] <;> (split <;> rfl)) (by simp only [bg_, go_sem, seval] <;> (simp only [T4_] at h5 h7; have q0 := hI.2.2.2.2; rw [show q.2.1 = 0 by omega, zt_] at q0; simp [mkT, h5, q0])) (by simp only [go_sem, seval])
/-! ### marks of expressions -/
mutual
def oz_ : E → Int → List E × Int
 | .mk _ _ _ kids, k => mkL kids k
def mkL : List E → Int → List E × Int
 | [], k => ([], k)
 | e :: r, k => (.mk k (k + 1) (mkT (k + 2)) (oz_ e (k + 3)).1 :: (mkL r (oz_ e (k + 3)).2).1, (mkL r (oz_ e (k + 3)).2).2)
end
theorem abi_ (e : E) (k : Int) : oz_ e k = mkL e.kids k := by cases e; simp only [oz_, E.kids]
def mE (e : E) (k : Int) : E × Int := (.mk k (k + 1) (mkT (k + 2)) (mkL e.kids (k + 3)).1, (mkL e.kids (k + 3)).2)
theorem iq_ : ∀ (l : List E) (k : Int), mkL l k = dm_ mE l k
 | [], k => by simp only [mkL, dm_]
 | e :: r, k => by simp only [mkL, dm_, mE, abi_, iq_ r]
mutual
theorem afk_ : ∀ (e : E) (k : Int), (oz_ e k).2 = k + 3 * (lN e.kids : Int) ∧ (oz_ e k).1.length = e.kids.length ∧ lN (oz_ e k).1 = lN e.kids
 | .mk _ _ _ kids, k => by simp only [oz_, E.kids]; exact fk_ kids k
theorem fk_ : ∀ (l : List E) (k : Int), (mkL l k).2 = k + 3 * (lN l : Int) ∧ (mkL l k).1.length = l.length ∧ lN (mkL l k).1 = lN l
 | [], k => by simp [mkL, lN]
 | e :: r, k => by
  obtain ⟨h1, h2, h3⟩ := afk_ e (k + 3)
  obtain ⟨h4, h5, h6⟩ := fk_ r (oz_ e (k + 3)).2
  simp only [mkL, lN, eN, T7_, ma_ e]
  exact ⟨by rw [h4, h1]; omega, by rw [h5], by rw [h3, h6]⟩
end
theorem mE_N (e : E) (k : Int) : ttE.N (mE e k).1 = ttE.N e := by
 rw [gi_, gi_, ← f6_, ← f6_]
 show lN (mkL e.kids (k + 3)).1 + 1 = _
 rw [(fk_ _ _).2.2]
theorem ad8_ (l : List E) (k : Int) (i : Nat) : mkK mE l k i = k + 3 * (ttE.NL (l.take i) : Int) := by
 unfold mkK; rw [← iq_, (fk_ _ _).1, f6_]
theorem MBnd {l : List E} {k K : Int} {i : Nat} (h1 : k + 3 * (ttE.NL l : Int) ≤ 100000000) (hK : K = k + 3 * (ttE.NL (l.take i) : Int)) (h : i < l.length) : K + 3 + 3 * (ttE.NL (l.getD i E0).kids : Int) ≤ 100000000 := by
 have := ttE.NL_take (d := E0) h
 have := ttE.NL_le l (i + 1)
 have := gi_ (l.getD i E0)
 omega
def agd_ (e : E) : Prop := ∀ k : Int, 0 ≤ k → k + 3 * (ttE.NL e.kids : Int) ≤ 100000000 → ACall En 119 [.ow 0 4 0 e.kids.length, .i .i64 k] (ttE.lst 48 4 0 e.kids) [.i .i64 (mkL e.kids k).2] (ttE.lst 48 4 0 (mkL e.kids k).1)
theorem sc_ (e0 : E) : agd_ e0 := by
 induction e0 using E.ind' with
 | h e0 ih =>
 intro k h0 h1
 have hm := mE_N
 have hlen : (mkL e0.kids k).1.length = e0.kids.length := (fk_ _ _).2.1
 have hNL : ttE.NL (mkL e0.kids k).1 = ttE.NL e0.kids := by rw [← f6_, ← f6_]; exact (fk_ _ _).2.2
 have hK := fun i => ad8_ e0.kids k i
 have hN := fun i => ttE.NL_le e0.kids i
 generalize e0.kids = l at *
 have hL : (ttE.lst 48 4 0 (mkL l k).1).length = (ttE.lst 48 4 0 l).length := by rw [TT.lst_len, TT.lst_len, hNL]
 have hrow := fun i (h : i < l.length) => ttE.mkP_row (b := 1000000000) (k := k) (d := E0) hm h
 have hset := fun i (h : i < l.length) => ttE.mkP_set (b := 1000000000) (k := k) (d := E0) hm h
 have hpl : ∀ i, i ≤ l.length → (ttE.OR 1000000000 (mkP mE l k i)).length = l.length := fun i h => by rw [ttE.OR_len, acs_ mE h]
 have hset' : ∀ i, i < l.length → (ttE.OR 1000000000 (mkP mE l k i)).set i [.i .i64 (mkK mE l k i), .i .i64 (mkK mE l k i + 1), .s (mkT (mkK mE l k i + 2)), .ow (1000000000 + ttE.NL (l.take i)) 4 0 (l.getD i E0).kids.length] = ttE.OR 1000000000 (mkP mE l k (i + 1)) := fun i h => by
  rw [← hset i h, au_]
  show _ = (ttE.OR 1000000000 (mkP mE l k i)).set i [_, _, _, .ow _ 4 0 (mkL (l.getD i E0).kids (mkK mE l k i + 3)).1.length]
  rw [(fk_ _ _).2.1]; rfl
 have hB0 : ∀ i : Nat, ttE.B (1000000000 + ttE.NL (l.take i)) (l.getD i E0) = [] ++ ttE.lst 48 4 (1000000000 + ttE.NL (l.take i)) (l.getD i E0).kids ++ [] := fun i => by rw [l1_]; simp
 have hB1 : ∀ i : Nat, ttE.B (1000000000 + ttE.NL (l.take i)) (mE (l.getD i E0) (mkK mE l k i)).1 = [] ++ ttE.lst 48 4 (1000000000 + ttE.NL (l.take i)) (mkL (l.getD i E0).kids (mkK mE l k i + 3)).1 ++ [] := fun i => by rw [l1_]; simp; rfl
 have hW : ∀ i, i < l.length → wrL (bl_ 1000000000 (ttE.BL 1000000000 (mkP mE l k i))) (ed_ (1000000000 + ttE.NL (l.take i)) (ttE.lst 48 4 (1000000000 + ttE.NL (l.take i)) (mkL (l.getD i E0).kids (mkK mE l k i + 3)).1)) = bl_ 1000000000 (ttE.BL 1000000000 (mkP mE l k (i + 1))) := fun i h =>
  ttE.mk_wr hm h rfl (hB0 i) (hB1 i) (by rw [TT.lst_len, TT.lst_len, ← f6_, ← f6_, (fk_ _ _).2.2])
 have hll := qm_ l
 have hw1 : ∀ i, IntKind.i64.wrap (mkK mE l k i + 1) = mkK mE l k i + 1 := fun i => bt_ (by rw [hK]; omega) (by rw [hK]; have := hN i; omega)
 have hw2 : ∀ i, IntKind.i64.wrap (mkK mE l k i + 1 + 1) = mkK mE l k i + 2 := fun i => by rw [bt_ (by rw [hK]; omega) (by rw [hK]; have := hN i; omega)]; omega
 have hw3 : ∀ i, IntKind.i64.wrap (mkK mE l k i + 2 + 1) = mkK mE l k i + 3 := fun i => by rw [bt_ (by rw [hK]; omega) (by rw [hK]; have := hN i; omega)]; omega
 refine hg_ (fn := Tryz.f119) 1 (by decide) Tryz.func119 rfl rfl hL (by rw [TT.lst_len]; simp [cls, V.cl]) (ttE.lst_rcl _ _ _) (by simp only [cls, V.cl, Bool.and_self]) (hL ▸ ttE.lst_rcl _ _ _) (show _ = [.ow 0 4 0 l.length, .i .i64 k] by simp only [rns, rn, jp_ (show 0 < (ttE.lst 48 4 0 l).length by rw [TT.lst_len]; omega)]; rfl) (ttE.deep_lst1 _ _ _) (show _ = [.i .i64 (mkL l k).2] by simp only [rns, rn]) (Eq.trans (congrArg (fun n => List.map (rnB (ηD 1 n)) _) hL.symm) (ttE.deep_lst1 _ _ _)) fun C => ?_
 simp only [Tryz.ntmps119, T7_, List.length_nil, Nat.reduceAdd, Nat.reduceSub, List.replicate_succ, List.replicate_zero, List.cons_append, List.nil_append, lc_, cm_]
 refine .seq (.rgn [] (by simp only [go_sem, seval, hw1, hw2, hw3, List.length_set, b6_, au_, List.set_set, cm_, aj_, ae_]; rfl) ?_ ?_)
 ·(first | trivial | (simp; done) | (simp only [T3_] at h9; and_intros <;> first | omega | (intro j x hx; rw [if_neg (by omega)]; exact ttE.mk_rd hm (show i < l.length by omega) rfl (hB0 i) hx) | (rw [TT.lst_len]; simp; done) | exact cd_ (ttE.lst_rcl _ _ _)))
 refine .seq (.seq (.rgn [] (by simp only [go_sem, seval, hw1, hw2, hw3, List.length_set, b6_, au_, List.set_set, cm_, aj_, ae_]; rfl) ?_ ?_))
 ·(first | trivial | (simp; done) | (simp only [T3_] at h9; and_intros <;> first | omega | (intro j x hx; rw [if_neg (by omega)]; exact ttE.mk_rd hm (show i < l.length by omega) rfl (hB0 i) hx) | (rw [TT.lst_len]; simp; done) | exact cd_ (ttE.lst_rcl _ _ _)))
 refine .block (.loopK (fun i : Nat => ⟨[.ow 0 4 0 l.length, .i .i64 (mkK mE l k i), .no, .no, .no, .i .i64 i, .no, .no, .no, .no, .no, .no, .no, .no, .no, .no, .no, .no, .no, .no, .no, .no, .no, .no, .no, .no, .no, .no, .no, .no, .no, .no, .no, .no, .no, .no, .no, .no, .no, .no, .no, .no], be_ ((0, ⟨48, 4, ttE.OR 1000000000 (mkP mE l k i)⟩) :: bl_ 1000000000 (ttE.BL 1000000000 (mkP mE l k i))), us []⟩) (fun i : Nat => i ≤ l.length) (fun i : Nat => l.length - i) (0) ?_ ?_ (fun i hI => ?_))
 ·simp
 ·exact Can.weak (Weak.lit (by simp only [go_sem, seval, hw1, hw2, hw3, List.length_set, b6_, au_, List.set_set, cm_, aj_, ae_, a2_, leV, az_, a0_, V.inn, us, T9_, Ta_] <;> (simp [rv_])) (by simp only [go_sem, seval, hw1, hw2, hw3, List.length_set, b6_, au_, List.set_set, cm_, aj_, ae_, a2_, leV, az_, a0_, V.inn, us, T9_, Ta_]) (by simp only [go_sem, seval, hw1, hw2, hw3, List.length_set, b6_, au_, List.set_set, cm_, aj_, ae_, a2_, leV, az_, a0_, V.inn, us, T9_, Ta_] <;> (rw [yu_]; exact ⟨rfl, ttE.hi_keep _ _⟩)))
 refine .seq (.seq (.rgn [] (by simp only [go_sem, seval, hw1, hw2, hw3, List.length_set, b6_, au_, List.set_set, cm_, aj_, ae_, hpl i hI]; rfl) ?_ ?_))
 ·(first | trivial | (simp; done) | (simp only [T3_] at h9; and_intros <;> first | omega | (intro j x hx; rw [if_neg (by omega)]; exact ttE.mk_rd hm (show i < l.length by omega) rfl (hB0 i) hx) | (rw [TT.lst_len]; simp; done) | exact cd_ (ttE.lst_rcl _ _ _)))
 refine .condB (by simp only [go_sem, seval, hw1, hw2, hw3, List.length_set, b6_, au_, List.set_set, cm_, aj_, ae_]; rfl) (by simp only [go_sem, seval, hw1, hw2, hw3, List.length_set, b6_, au_, List.set_set, cm_, aj_, ae_]) (fun h9 => ?_) (fun h9 => ?_)
 ·refine .skip (.seq (.block (.seq (.rgn [] (by simp only [go_sem, seval, hw1, hw2, hw3, List.length_set, b6_, au_, List.set_set, cm_, aj_, ae_, hrow i (by simpa using h9), hpl i hI]; rfl) ?_ ?_))))
  ·(first | trivial | (simp; done) | (simp only [T3_] at h9; and_intros <;> first | omega | (intro j x hx; rw [if_neg (by omega)]; exact ttE.mk_rd hm (show i < l.length by omega) rfl (hB0 i) hx) | (rw [TT.lst_len]; simp; done) | exact cd_ (ttE.lst_rcl _ _ _)))
  refine .seq (.rgn [] (by simp only [go_sem, seval, hw1, hw2, hw3, List.length_set, b6_, au_, List.set_set, cm_, aj_, ae_]; rfl) ?_ ?_)
  ·(first | trivial | (simp; done) | (simp only [T3_] at h9; and_intros <;> first | omega | (intro j x hx; rw [if_neg (by omega)]; exact ttE.mk_rd hm (show i < l.length by omega) rfl (hB0 i) hx) | (rw [TT.lst_len]; simp; done) | exact cd_ (ttE.lst_rcl _ _ _)))
  refine .seq (.rgn [] (by simp only [go_sem, seval, hw1, hw2, hw3, List.length_set, b6_, au_, List.set_set, cm_, aj_, ae_, setD (show i < (ttE.OR 1000000000 (mkP mE l k i)).length by rw [hpl i hI]; simpa using h9), hpl i hI]; rfl) ?_ ?_)
  ·(first | trivial | (simp; done) | (simp only [T3_] at h9; and_intros <;> first | omega | (intro j x hx; rw [if_neg (by omega)]; exact ttE.mk_rd hm (show i < l.length by omega) rfl (hB0 i) hx) | (rw [TT.lst_len]; simp; done) | exact cd_ (ttE.lst_rcl _ _ _)))
  refine .seq (.rgn [] (by simp only [go_sem, seval, hw1, hw2, hw3, List.length_set, b6_, au_, List.set_set, cm_, aj_, ae_]; rfl) ?_ ?_)
  ·(first | trivial | (simp; done) | (simp only [T3_] at h9; and_intros <;> first | omega | (intro j x hx; rw [if_neg (by omega)]; exact ttE.mk_rd hm (show i < l.length by omega) rfl (hB0 i) hx) | (rw [TT.lst_len]; simp; done) | exact cd_ (ttE.lst_rcl _ _ _)))
  refine .seq (.rgn [bj_ (m6_ (mkK mE l k i + 2) (by rw [hK]; omega) (by rw [hK]; have := hN i; omega))] (by simp only [go_sem, seval, hw1, hw2, hw3, List.length_set, b6_, au_, List.set_set, cm_, aj_, ae_, setD (show i < (ttE.OR 1000000000 (mkP mE l k i)).length by rw [hpl i hI]; simpa using h9), hpl i hI]; rfl) ?_ ?_)
  ·(first | trivial | (simp; done) | (simp only [T3_] at h9; and_intros <;> first | omega | (intro j x hx; rw [if_neg (by omega)]; exact ttE.mk_rd hm (show i < l.length by omega) rfl (hB0 i) hx) | (rw [TT.lst_len]; simp; done) | exact cd_ (ttE.lst_rcl _ _ _)))
  refine .seq (.rgn [] (by simp only [go_sem, seval, hw1, hw2, hw3, List.length_set, b6_, au_, List.set_set, cm_, aj_, ae_]; rfl) ?_ ?_)
  ·(first | trivial | (simp; done) | (simp only [T3_] at h9; and_intros <;> first | omega | (intro j x hx; rw [if_neg (by omega)]; exact ttE.mk_rd hm (show i < l.length by omega) rfl (hB0 i) hx) | (rw [TT.lst_len]; simp; done) | exact cd_ (ttE.lst_rcl _ _ _)))
  refine .rgn [b6_ (1000000000 + ttE.NL (l.take i)) (ih (l.getD i E0) (b5_ (by simpa using h9)) (mkK mE l k i + 3) (by rw [hK]; omega) (MBnd h1 (hK i) (by simpa using h9))) (xw_ (ttE.lst_rmap _ _ _ _) (ttE.lst_rcl _ _ _)) (ttE.lst_rmap _ _ _ _) (by rw [TT.lst_len, TT.lst_len, ← f6_, ← f6_, (fk_ _ _).2.2])] (by simp only [go_sem, seval, hw1, hw2, hw3, List.length_set, b6_, au_, List.set_set, cm_, aj_, ae_, setD (show i < (ttE.OR 1000000000 (mkP mE l k i)).length by rw [hpl i hI]; simpa using h9), hpl i hI, b0_ (c := 1000000000 + ttE.NL (l.take i)) (show 0 < (ttE.lst 48 4 0 (l.getD i E0).kids).length by rw [TT.lst_len]; omega)]; rfl) ?_ ?_
  ·(first | trivial | (simp; done) | (simp only [T3_] at h9; and_intros <;> first | omega | (intro j x hx; rw [if_neg (by omega)]; exact ttE.mk_rd hm (show i < l.length by omega) rfl (hB0 i) hx) | (rw [TT.lst_len]; simp; done) | exact cd_ (ttE.lst_rcl _ _ _)))
  refine .rgn [] (by simp only [go_sem, seval, hw1, hw2, hw3, List.length_set, b6_, au_, List.set_set, cm_, aj_, ae_]; rfl) ?_ ?_
  ·(first | trivial | (simp; done) | (simp only [T3_] at h9; and_intros <;> first | omega | (intro j x hx; rw [if_neg (by omega)]; exact ttE.mk_rd hm (show i < l.length by omega) rfl (hB0 i) hx) | (rw [TT.lst_len]; simp; done) | exact cd_ (ttE.lst_rcl _ _ _)))
  refine Exists.intro (i + 1) ⟨?_, ?_, ?_⟩
  ·simp at h9; omega
  ·simp at h9; omega
  exact Can.weak (Weak.lit (by simp only [go_sem, seval, hw1, hw2, hw3, List.length_set, b6_, au_, List.set_set, cm_, aj_, ae_, a2_, leV, az_, a0_, V.inn, us, T9_, Ta_] <;> (exact ⟨by rw [r5_ mE (d := E0) (by simpa using h9)]; rfl, bt_ (by simp at h9; omega) (by simp at h9; omega)⟩)) (by simp only [go_sem, seval, hw1, hw2, hw3, List.length_set, b6_, au_, List.set_set, cm_, aj_, ae_, a2_, leV, az_, a0_, V.inn, us, T9_, Ta_]) (by simp only [go_sem, seval, hw1, hw2, hw3, List.length_set, b6_, au_, List.set_set, cm_, aj_, ae_, a2_, leV, az_, a0_, V.inn, us, T9_, Ta_] <;> (rw [hset' i (by simpa using h9), hW i (by simpa using h9)]; exact ⟨rfl, ttE.hi_keep _ _⟩)))
 ·refine .exit (.seq (.rgn [] (by simp only [go_sem, seval, hw1, hw2, hw3, List.length_set, b6_, au_, List.set_set, cm_, aj_, ae_]; rfl) ?_ ?_))
  ·(first | trivial | (simp; done) | (simp only [T3_] at h9; and_intros <;> first | omega | (intro j x hx; rw [if_neg (by omega)]; exact ttE.mk_rd hm (show i < l.length by omega) rfl (hB0 i) hx) | (rw [TT.lst_len]; simp; done) | exact cd_ (ttE.lst_rcl _ _ _)))
  refine .ret ⟨.inr rfl, ?_⟩
  exact y6_ (by decide) (by simp only [Tryz.results119]; rfl) (by simp only [a4_, bh_, go_sem, seval, hw1, hw2, hw3, List.length_set, b6_, au_, List.set_set, cm_, aj_, ae_]) (by simp only [bg_, go_sem, seval, hw1, hw2, hw3, List.length_set, b6_, au_, List.set_set, cm_, aj_, ae_] <;> (simp at h9; rw [vm_ mE h9, iq_])) (by simp at h9; show be_ _ = be_ _; rw [cm_, acz_ mE h9, iq_])
end
section
open Go.RowKit
set_option maxRecDepth 100000
set_option maxHeartbeats 4000000
def mX (e : E) (k : Int) : E := .mk e.kind e.n e.s (mkL e.kids k).1
theorem oy_ (e : E) (k : Int) : ttE.N (mX e k) = ttE.N e := by
 rw [gi_, gi_, ← f6_, ← f6_]
 show lN (mkL e.kids k).1 + 1 = _
 rw [(fk_ _ _).2.2]
theorem mX_B (b : Nat) (e : E) (k : Int) : ttE.B b (mX e k) = ttE.lst 48 4 b (mkL e.kids k).1 := l1_ b _
theorem vj_ (l : List E) (k : Int) : (mkL l k).1.length = l.length := (fk_ l k).2.1
theorem ho_ (b c : Nat) (e : E) (k : Int) : (ttE.lst 48 4 b e.kids).length = (ttE.lst 48 4 c (mkL e.kids k).1).length := by rw [TT.lst_len, TT.lst_len, ← f6_, ← f6_, (fk_ _ _).2.2]
theorem nl_ (e : E) (k : Int) (h0 : 0 ≤ k) (h1 : k + 3 * (ttE.NL e.kids : Int) ≤ 100000000) : ACall En 68 [.ag (ttE.O 0 e), .i .i64 k] (ttE.B 0 e) [.i .i64 (mkL e.kids k).2] (ttE.B 0 (mX e k)) := by
 have hL : (ttE.B 0 (mX e k)).length = (ttE.B 0 e).length := by rw [ttE.len, ttE.len, oy_]
 have hB := l1_ 1000000000 e
 refine hg_ (fn := Tryz.f68) 0 (by decide) Tryz.func68 rfl rfl hL (ttE.d_cv e k) (ttE.d_c0 e) (by simp only [cls, V.cl, Bool.and_self]) (hL ▸ ttE.d_c0 (mX e k)) (ttE.d_e1 e k) (ttE.deep_one e).2 (show rns _ _ = [.i .i64 (mkL e.kids k).2] by simp only [rns, rn]) (Eq.trans (congrArg (fun n => List.map (rnB (ηD 0 n)) _) hL.symm) (ttE.deep_one (mX e k)).2) fun C => ?_
 simp only [Tryz.ntmps68, T7_, List.length_nil, Nat.reduceAdd, Nat.reduceSub, List.replicate_succ, List.replicate_zero, List.cons_append, List.nil_append, lc_, cm_]
 refine .seq (.rgn [] (by simp only [go_sem, seval, b6_, au_, hB, ag_, ad_, ak_, af_, bw_ (ho_ 1000000000 1000000000 e k), b0_ (c := 1000000000) (show 0 < (ttE.lst 48 4 0 e.kids).length by rw [TT.lst_len]; omega)]; rfl) ?_ ?_)
 ·(first | trivial | (simp; done) | (and_intros <;> first | trivial | (intro j x hx; rw [ds_, dc_, hx]; rfl) | (rw [TT.lst_len]; simp; done) | exact cd_ (ttE.lst_rcl _ _ _)))
 refine .seq (.rgn [b6_ 1000000000 (sc_ e k h0 h1) (xw_ (ttE.lst_rmap _ _ _ _) (ttE.lst_rcl _ _ _)) (ttE.lst_rmap _ _ _ _) (ho_ 0 0 e k)] (by simp only [go_sem, seval, b6_, au_, hB, ag_, ad_, ak_, af_, bw_ (ho_ 1000000000 1000000000 e k), b0_ (c := 1000000000) (show 0 < (ttE.lst 48 4 0 e.kids).length by rw [TT.lst_len]; omega)]; rfl) ?_ ?_)
 ·(first | trivial | (simp; done) | (and_intros <;> first | trivial | (intro j x hx; rw [ds_, dc_, hx]; rfl) | (rw [TT.lst_len]; simp; done) | exact cd_ (ttE.lst_rcl _ _ _)))
 refine .seq (.rgn [] (by simp only [go_sem, seval, b6_, au_, hB, ag_, ad_, ak_, af_, bw_ (ho_ 1000000000 1000000000 e k), b0_ (c := 1000000000) (show 0 < (ttE.lst 48 4 0 e.kids).length by rw [TT.lst_len]; omega)]; rfl) ?_ ?_)
 ·(first | trivial | (simp; done) | (and_intros <;> first | trivial | (intro j x hx; rw [ds_, dc_, hx]; rfl) | (rw [TT.lst_len]; simp; done) | exact cd_ (ttE.lst_rcl _ _ _)))
 refine .ret ⟨.inr rfl, ?_⟩
 exact pc_ (by simp only [Tryz.results68]; rfl) (by simp only [a4_, bh_, go_sem, seval, b6_, au_, hB, ag_, ad_, ak_, af_, bw_ (ho_ 1000000000 1000000000 e k), b0_ (c := 1000000000) (show 0 < (ttE.lst 48 4 0 e.kids).length by rw [TT.lst_len]; omega)]) (by simp only [bg_, go_sem, seval, b6_, au_, hB, ag_, ad_, ak_, af_, bw_ (ho_ 1000000000 1000000000 e k), b0_ (c := 1000000000) (show 0 < (ttE.lst 48 4 0 e.kids).length by rw [TT.lst_len]; omega)]) (by rw [mX_B])
def mB (s : Bl) (k : Int) : Bl := ⟨s.kind, s.name, mX s.expr k, mX s.thn (mkL s.expr.kids k).2⟩
def mBK (s : Bl) (k : Int) : Int := (mkL s.thn.kids (mkL s.expr.kids k).2).2
theorem mB_N (s : Bl) (k : Int) : ttB.N (mB s k) = ttB.N s := by
 show ttE.N (mX _ _) + ttE.N (mX _ _) = ttE.N _ + ttE.N _
 rw [oy_, oy_]
theorem ur_ (s : Bl) (k : Int) (h0 : 0 ≤ k) (h1 : k + 3 * (ttB.N s : Int) ≤ 100000000) : ACall En 22 [.ag (ttB.O 0 s), .i .i64 k] (ttB.B 0 s) [.i .i64 (mBK s k)] (ttB.B 0 (mB s k)) := by
 have hL : (ttB.B 0 (mB s k)).length = (ttB.B 0 s).length := by rw [TT.len, TT.len, mB_N]
 have e1 := gi_ s.expr
 have e2 := gi_ s.thn
 have h2 : k + 3 * (ttE.N s.expr + ttE.N s.thn : Int) ≤ 100000000 := h1
 have hk := (fk_ s.expr.kids k).1
 rw [f6_] at hk
 have hB' : ttB.B 1000000000 (mB s k) = ttE.B 1000000000 (mX s.expr k) ++ ttE.B (1000000000 + eN s.expr) (mX s.thn (mkL s.expr.kids k).2) := by
  show _ ++ ttE.B (1000000000 + ttE.N (mX s.expr k)) _ = _
  rw [oy_]; rfl
 have hB : ttB.B 1000000000 s = ttE.B 1000000000 s.expr ++ ttE.B (1000000000 + eN s.expr) s.thn := rfl
 have l1 : (ttE.B 1000000000 s.expr).length = (ttE.B 1000000000 (mX s.expr k)).length := by rw [TT.len, TT.len, oy_]
 have l2 : (ttE.B (1000000000 + eN s.expr) s.thn).length = (ttE.B (1000000000 + eN s.expr) (mX s.thn (mkL s.expr.kids k).2)).length := by rw [TT.len, TT.len, oy_]
 have c2 : 1000000000 + eN s.expr = 1000000000 + (ttE.B 1000000000 (mX s.expr k)).length := by rw [TT.len, oy_]; rfl
 have n1 : 0 < (ttE.B 0 s.expr).length := by rw [TT.len]; omega
 have n2 : 0 < (ttE.B 0 s.thn).length := by rw [TT.len]; omega
 refine hg_ (fn := Tryz.f22) 0 (by decide) Tryz.func22 rfl rfl hL (ttB.d_cv s k) (ttB.d_c0 s) (by simp only [cls, V.cl, Bool.and_self]) (hL ▸ ttB.d_c0 (mB s k)) (ttB.d_e1 s k) (ttB.deep_one s).2 (show rns _ _ = [.i .i64 (mBK s k)] by simp only [rns, rn]) (Eq.trans (congrArg (fun n => List.map (rnB (ηD 0 n)) _) hL.symm) (ttB.deep_one (mB s k)).2) fun C => ?_
 simp only [Tryz.ntmps22, T7_, List.length_nil, Nat.reduceAdd, Nat.reduceSub, List.replicate_succ, List.replicate_zero, List.cons_append, List.nil_append, lc_, cm_]
 refine .seq (.rgn [] (by simp only [go_sem, seval, b6_, cb_, au_, hB, ag_, ad_, ak_, af_, it_ l1, i9_ c2 l2, b0_ n1, b0_ n2]; rfl) ?_ ?_)
 ·(first | trivial | (simp; done) | (and_intros <;> first | trivial | (intro j x hx; exact is_ hx) | (intro j x hx; exact iw_ c2 hx) | (simpa using n1) | (simpa using n2) | exact cd_ (ttE.d_c0 _)))
 refine .seq (.rgn [b6_ 1000000000 (nl_ s.expr k h0 (by omega)) (xw_ (ttE.seg 1000000000 _).map (ttE.seg 1000000000 _).clr) (ttE.seg 1000000000 _).map (by rw [TT.len, TT.len, oy_])] (by simp only [go_sem, seval, b6_, cb_, au_, hB, ag_, ad_, ak_, af_, it_ l1, i9_ c2 l2, b0_ n1, b0_ n2]; rfl) ?_ ?_)
 ·(first | trivial | (simp; done) | (and_intros <;> first | trivial | (intro j x hx; exact is_ hx) | (intro j x hx; exact iw_ c2 hx) | (simpa using n1) | (simpa using n2) | exact cd_ (ttE.d_c0 _)))
 refine .seq (.rgn [b6_ (1000000000 + eN s.expr) (nl_ s.thn (mkL s.expr.kids k).2 (by omega) (by omega)) (xw_ (ttE.seg (1000000000 + eN s.expr) _).map (ttE.seg (1000000000 + eN s.expr) _).clr) (ttE.seg (1000000000 + eN s.expr) _).map (by rw [TT.len, TT.len, oy_])] (by simp only [go_sem, seval, b6_, cb_, au_, hB, ag_, ad_, ak_, af_, it_ l1, i9_ c2 l2, b0_ n1, b0_ n2]; rfl) ?_ ?_)
 ·(first | trivial | (simp; done) | (and_intros <;> first | trivial | (intro j x hx; exact is_ hx) | (intro j x hx; exact iw_ c2 hx) | (simpa using n1) | (simpa using n2) | exact cd_ (ttE.d_c0 _)))
 refine .seq (.rgn [] (by simp only [go_sem, seval, b6_, cb_, au_, hB, ag_, ad_, ak_, af_, it_ l1, i9_ c2 l2, b0_ n1, b0_ n2]; rfl) ?_ ?_)
 ·(first | trivial | (simp; done) | (and_intros <;> first | trivial | (intro j x hx; exact is_ hx) | (intro j x hx; exact iw_ c2 hx) | (simpa using n1) | (simpa using n2) | exact cd_ (ttE.d_c0 _)))
 refine .ret ⟨.inr rfl, ?_⟩
 exact pc_ (by simp only [Tryz.results22]; rfl) (by simp only [a4_, bh_, go_sem, seval, b6_, cb_, au_, hB, ag_, ad_, ak_, af_, it_ l1, i9_ c2 l2, b0_ n1, b0_ n2]) (by simp only [bg_, go_sem, seval, b6_, cb_, au_, hB, ag_, ad_, ak_, af_, it_ l1, i9_ c2 l2, b0_ n1, b0_ n2] <;> first | rfl | trivial) (by rw [hB'])
end
section
open Go.RowKit
set_option maxRecDepth 100000
theorem le_ {c i : Nat} {X : List Blk} {R : List (Nat × Blk)} {x : Blk} (h : X[i]? = some x) : be_ (bl_ c X ++ R) (c + i) = some x := by rw [ds_, dc_, h]; rfl
end
end Go.Proofs.YtefmbmafdgedmaaGreatDoor
