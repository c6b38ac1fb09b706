/- What is drawn: programs, and lists of lines without types. Conditions: none. -/
import Derived.Test.YtpikbndepapbhabGreatDoorKb
import Derived.Test.YtpikbndepapbhabGreatDoorKr
set_option linter.unusedVariables false
set_option linter.unusedSimpArgs false
namespace Go.Proofs.YtpikbndepapbhabGreatDoor
section
set_option maxRecDepth 100000
set_option maxHeartbeats 4000000
def na_ (b : Str) (p : Int) (i : Nat) : Sl := ⟨1, ([[120], [121], [122]] : List Str).getD i [], sp_, .mk 1 (bu_ b (p + i) 9) [] [], E0⟩
def d4_ (b : Str) (p : Int) (k : Nat) : List Sl := (List.range k).map (na_ b p)
theorem hw_ (b : Str) (p : Int) (k : Nat) : d4_ b p (k + 1) = d4_ b p k ++ [na_ b p k] := by simp [d4_, List.range_succ]
theorem ey_ (b : Str) (p : Int) (k : Nat) : (d4_ b p k).length = k := by simp [d4_]
def b9_ (b : Str) : Nat → Int → List Sl × Int
 | 0, p => ([], p)
 | n + 1, p => ((b9_ b n p).1 ++ [(bp_ b (b9_ b n p).2).1], (bp_ b (b9_ b n p).2).2)
def okS (s : Sl) : Bool := f7_ s && wf s.expr && wf s.thn
theorem es_ (b : Str) {p : Int} (hp : 0 ≤ p) (hp2 : p < 1000000) : ∀ n : Nat, n ≤ 1000 → p ≤ (b9_ b n p).2 ∧ (b9_ b n p).2 ≤ p + 300 * n ∧ (b9_ b n p).1.length = n ∧ (b9_ b n p).1.all okS = true
 | 0, _ => by simp [b9_]
 | n + 1, h => by
  obtain ⟨h1, h2, h3, h4⟩ := es_ b hp hp2 n (by omega)
  obtain ⟨q1, q2, q3, q4, q5, _⟩ := hm_ b (p := (b9_ b n p).2) (by omega) (by omega)
  simp only [b9_, T2_, List.length_singleton, List.all_append, List.all_cons, List.all_nil, h4, okS, q3, q4, q5, Bool.and_self, Bool.and_true]
  refine ⟨by omega, by omega, by omega, trivial⟩
theorem th_ (b : Str) {p : Int} (hp : 0 ≤ p) (hp2 : p < 1000000) (i : Nat) (hi : i < 3) : okS (na_ b p i) = true := by
 have hk : i = 0 ∨ i = 1 ∨ i = 2 := by omega
 rcases hk with rfl | rfl | rfl <;> simp [okS, na_, f7_, sm, sms, wf, wfs, sp_, E0]
theorem l4_ (b : Str) {p : Int} (hp : 0 ≤ p) (hp2 : p < 1000000) : ∀ k, k ≤ 3 → (d4_ b p k).all okS = true
 | 0, _ => rfl
 | k + 1, h => by rw [hw_, List.all_append, l4_ b hp hp2 k (by omega)]; simp [th_ b hp hp2 k (by omega)]
def dPa (b : Str) (p : Int) : List Sl × Int := if 0 < bu_ b p 4 then (d4_ b (p + 1) 3, p + 4) else ([], p + 1)
def dPn (b : Str) (p : Int) : Nat := (1 + bu_ b (dPa b p).2 6).toNat
def cn_ (b : Str) (p : Int) : List Sl × Int := ((dPa b p).1 ++ (b9_ b (dPn b p) ((dPa b p).2 + 1)).1, (b9_ b (dPn b p) ((dPa b p).2 + 1)).2)
theorem qg_ (b : Str) {p : Int} (hp : 0 ≤ p) (hp2 : p < 100000) : p ≤ (dPa b p).2 ∧ (dPa b p).2 ≤ p + 4 ∧ (dPa b p).1.length ≤ 3 ∧ (dPa b p).1.all okS = true := by
 unfold dPa; split
 ·exact ⟨by dsimp only; omega, by dsimp only; omega, by simp [ey_], l4_ b (by omega) (by omega) 3 (by omega)⟩
 ·exact ⟨by dsimp only; omega, by dsimp only; omega, by simp, rfl⟩
theorem qn_ (b : Str) {p : Int} (hp : 0 ≤ p) (hp2 : p < 100000) : 1 ≤ dPn b p ∧ dPn b p ≤ 6 ∧ (dPn b p : Int) = 1 + bu_ b (dPa b p).2 6 := by
 have h := qg_ b hp hp2
 have := dr_ b (p := (dPa b p).2) (n := 6) (by omega) (by omega) (by omega)
 unfold dPn; omega
theorem oi_ (b : Str) {p : Int} (hp : 0 ≤ p) (hp2 : p < 100000) : p ≤ (cn_ b p).2 ∧ (cn_ b p).2 ≤ p + 2000 ∧ (cn_ b p).1.length ≤ 9 ∧ 1 ≤ (cn_ b p).1.length ∧ (cn_ b p).1.all okS = true := by
 obtain ⟨h1, h2, h3, h4⟩ := qg_ b hp hp2
 obtain ⟨n1, n2, n3⟩ := qn_ b hp hp2
 obtain ⟨q1, q2, q3, q4⟩ := es_ b (p := (dPa b p).2 + 1) (by omega) (by omega) (dPn b p) (by omega)
 unfold cn_
 exact ⟨by dsimp only; omega, by dsimp only; omega, by simp only [T2_]; omega, by simp only [T2_]; omega, by simp only [List.all_append, h4, q4, Bool.and_self]⟩
theorem mf_ {s : Sl} (h : okS s = true) : f7_ s = true ∧ wf s.expr = true ∧ wf s.thn = true := by
 simp only [okS, T5_] at h; exact ⟨h.1.1, h.1.2, h.2⟩
theorem s2_ {k : Nat} (h : k < 3) : ([[V.s [120]], [V.s [121]], [V.s [122]]] : List (List V)).getD k [] = [.s (([[120], [121], [122]] : List Str).getD k [])] := by
 have hk : k = 0 ∨ k = 1 ∨ k = 2 := by omega
 rcases hk with rfl | rfl | rfl <;> rfl
theorem t8_ (b : Str) (p : Int) (k : Nat) : sC (na_ b p k) = [.i .i64 1, .s (([[120], [121], [122]] : List Str).getD k []), .s sp_, .i .i64 1, .i .i64 (bu_ b (p + k) 9), .s [], .sl false [], .i .i64 0, .i .i64 0, .s [], .sl false []] := by
 rw [al_]; simp only [na_, E.kind_mk, E.n_mk, E.s_mk, E.kids_mk, kn_, ko_, j8_, dk_, eg_]
theorem sz_ (b : Str) (p : Int) (k : Nat) : sR (d4_ b p (k + 1)) = sR (d4_ b p k) ++ [sC (na_ b p k)] := by rw [hw_, m0_]; rfl
theorem a0_ : ∀ (a : List (List V)) (r r' : List V), ler (a ++ [r]) (a ++ [r']) = les r r'
 | [], r, r' => by simp [ler]
 | x :: a, r, r' => by have := a0_ a r r'; simp [ler, cp_, this]
theorem ax_ (b : Str) (p : Int) : ∀ n : Nat, (b9_ b n p).1.length = n
 | 0 => rfl
 | n + 1 => by simp [b9_, ax_ b p n]
theorem ud_ (s : Sl) : sR [s] = [sC s] := rfl
theorem me_ (b : Str) (n : Nat) (p : Int) : b9_ b (n + 1) p = ((b9_ b n p).1 ++ [(bp_ b (b9_ b n p).2).1], (bp_ b (b9_ b n p).2).2) := rfl
theorem pu_ (b : Str) (p : Int) (hb : b.length ≤ 2000) (hp : 0 ≤ p) (hp2 : p < 100000) : ACall En 52 [.pt 0 2 0 0] [rdB b p] [.ow 1 11 0 (cn_ b p).1.length] [rdB b (cn_ b p).2, ⟨55, 11, sR (cn_ b p).1⟩] := by
 obtain ⟨h1, h2, h3, h4⟩ := qg_ b hp hp2
 obtain ⟨n1, n2, n3⟩ := qn_ b hp hp2
 have e1 : decide (bu_ b p 4 > 0) = true → dPa b p = (d4_ b (p + 1) 3, p + 4) := fun h => by unfold dPa; rw [if_pos (by simpa using h)]
 have e2 : decide (bu_ b p 4 > 0) = false → dPa b p = ([], p + 1) := fun h => by unfold dPa; rw [if_neg (by simpa using h)]
 have D := fun n (hn : n ≤ 6) => es_ b (p := (dPa b p).2 + 1) (by omega) (by omega) n (by omega)
 refine ap_ (fn := Tryz.f52) [0, 60] Tryz.func52 rfl rfl (by simp) fun C => ?_
 rw [ay_]
 simp only [Tryz.ntmps52, T7_, List.length_nil, Nat.reduceAdd, Nat.reduceSub, List.replicate_succ, List.replicate_zero, List.cons_append, List.nil_append, bl_]
 refine .seq (.rgn [] (by simp only [go_sem, seval, a0_, T2_, ax_, ak_, aq_, az_, ai_, al_, af_, ac_]; rfl) ?_ ?_)
 ·first | trivial | simp
 refine .seq (.rgn [] (by simp only [go_sem, seval, a0_, T2_, ax_, ak_, aq_, az_, ai_, al_, af_, ac_]; rfl) ?_ ?_)
 ·first | trivial | simp
 refine .seqJ (fun u : Unit => ⟨[.pt 0 2 0 0, .no, .no, .ow 60 11 0 (dPa b p).1.length, .no, .no, .no, .no, .no, .no, .no, .no, .no, .no, .no, .no, .no, .no, .no, .no, .no, .no, .no, .no, .no, .no, .no, .no, .no, .no, .no, .no, .no, .no, .no, .no, .no, .no], a1_ [(0, rdB b (dPa b p).2), (60, ⟨55, 11, sR (dPa b p).1⟩)], us [60]⟩) (fun u : Unit => True) ?_ (fun u hJ => ?_)
 ·refine .seq (.rgn [bi_ [0] [] (cv_ b p 4 hb hp (by omega))] (by simp only [go_sem, seval, a0_, T2_, ax_, ak_, aq_, az_, ai_, al_, af_, ac_]; rfl) ?_ ?_)
  ·first | trivial | simp
  refine .condB (by simp only [go_sem, seval, a0_, T2_, ax_, ak_, aq_, az_, ai_, al_, af_, ac_]; rfl) (by simp only [go_sem, seval, a0_, T2_, ax_, ak_, aq_, az_, ai_, al_, af_, ac_]) (fun h9 => ?_) (fun h9 => ?_)
  ·refine .seq (.rgn [] (by simp only [go_sem, seval, a0_, T2_, ax_, ak_, aq_, az_, ai_, al_, af_, ac_]; rfl) ?_ ?_)
   ·first | trivial | simp
   refine .block (.loopK (fun k : Nat => ⟨[.pt 0 2 0 0, .no, .no, .ow 60 11 0 k, .i .i64 k, .no, .no, .no, .no, .no, .no, .no, .no, .no, .no, .no, .no, .no, .no, .no, .no, .no, .no, .no, .no, .no, .no, .no, .no, .no, .no, .no, .no, .no, .no, .no, .no, .no], a1_ [(0, rdB b (p + 1 + k)), (60, ⟨55, 11, sR (d4_ b (p + 1) k)⟩)], us [60]⟩) (fun k : Nat => k ≤ 3) (fun k : Nat => 3 - k) (0) ?_ ?_ (fun k hI => ?_))
   ·simp
   ·refine Can.trans (Can.ownSlot 3 60 55 11 (by simp only [go_sem, seval, a0_, T2_, ax_, ak_, aq_, az_, ai_, al_, af_, ac_] <;> rfl) (by simp only [go_sem, seval, a0_, T2_, ax_, ak_, aq_, az_, ai_, al_, af_, ac_]) (by simp only [go_sem, seval, a0_, T2_, ax_, ak_, aq_, az_, ai_, al_, af_, ac_] <;> rfl)) ?_
    exact Can.weak (Weak.lit (by simp only [go_sem, seval, a0_, T2_, ax_, ak_, aq_, az_, ai_, al_, af_, ac_, au_, leV, as_, at_, V.inn, us, T9_, Ta_] <;> (simp)) (by simp only [go_sem, seval, a0_, T2_, ax_, ak_, aq_, az_, ai_, al_, af_, ac_, au_, leV, as_, at_, V.inn, us, T9_, Ta_]) (by simp only [go_sem, seval, a0_, T2_, ax_, ak_, aq_, az_, ai_, al_, af_, ac_, au_, leV, as_, at_, V.inn, us, T9_, Ta_] <;> (simp [d4_, sR])))
   refine .seq (.seq (.rgn [] (by simp only [go_sem, seval, a0_, T2_, ax_, ak_, aq_, az_, ai_, al_, af_, ac_]; rfl) ?_ ?_))
   ·first | trivial | simp
   refine .condB (by simp only [go_sem, seval, a0_, T2_, ax_, ak_, aq_, az_, ai_, al_, af_, ac_]; rfl) (by simp only [go_sem, seval, a0_, T2_, ax_, ak_, aq_, az_, ai_, al_, af_, ac_]) (fun h11 => ?_) (fun h11 => ?_)
   ·refine .skip (.seq (.block (.rgnD [bi_ [0] [] (cv_ b (p + 1 + k) 9 hb (by omega) (by omega))] enM (by simp only [go_sem, seval, a0_, T2_, ax_, ak_, aq_, az_, ai_, al_, af_, ac_, s2_ (show k < 3 by simp at h11; omega)]; rfl) (by rfl) ?_ ?_)))
    ·simp only [T3_] at h11; simp [b5_, ey_]; omega
    refine .rgn [] (by simp only [go_sem, seval, a0_, T2_, ax_, ak_, aq_, az_, ai_, al_, af_, ac_]; rfl) ?_ ?_
    ·first | trivial | simp
    refine Exists.intro (k + 1) ⟨?_, ?_, ?_⟩
    ·simp at h11; omega
    ·simp at h11; omega
    refine Can.trans (Can.swap 34 60 (by decide) (by decide) (by decide) (by decide) (by simp only [go_sem, seval, a0_, T2_, ax_, ak_, aq_, az_, ai_, al_, af_, ac_, V.cl]) (by simp only [go_sem, seval, a0_, T2_, ax_, ak_, aq_, az_, ai_, al_, af_, ac_, V.cl]) (by simp only [go_sem, seval, a0_, T2_, ax_, ak_, aq_, az_, ai_, al_, af_, ac_, a5_, sw, swM, rnB] <;> rfl) (by simp only [go_sem, seval, a0_, T2_, ax_, ak_, aq_, az_, ai_, al_, af_, ac_, a5_, sw, swM, rnB] <;> rfl) (by simp only [go_sem, seval, a0_, T2_, ax_, ak_, aq_, az_, ai_, al_, af_, ac_, a5_, sw, swM, rnB] <;> rfl)) ?_
    refine Can.trans (Can.leAt 60 (sR (d4_ b (p + 1) k) ++ [[.i .i64 1, .s (([[120], [121], [122]] : List Str).getD k []), .s [105, 110, 116], .i .i64 1, .i .i64 (bu_ b (p + 1 + k) 9), .s [], .sl false [], .i .i64 0, .i .i64 0, .s [], .sl false []]]) (by simp only [go_sem, seval, a0_, T2_, ax_, ak_, aq_, az_, ai_, al_, af_, ac_] <;> rfl) (by simp only [go_sem, seval, a0_, T2_, ax_, ak_, aq_, az_, ai_, al_, af_, ac_, ler, les, leV] <;> (first | trivial | simp)) (by simp only [go_sem, seval, a0_, T2_, ax_, ak_, aq_, az_, ai_, al_, af_, ac_] <;> rfl)) ?_
    exact Can.weak (Weak.lit (by simp only [go_sem, seval, a0_, T2_, ax_, ak_, aq_, az_, ai_, al_, af_, ac_, au_, leV, as_, at_, V.inn, us, T9_, Ta_] <;> (rw [a8_ (by omega) (by omega)]; simp)) (by simp only [go_sem, seval, a0_, T2_, ax_, ak_, aq_, az_, ai_, al_, af_, ac_, au_, leV, as_, at_, V.inn, us, T9_, Ta_]) (by simp only [go_sem, seval, a0_, T2_, ax_, ak_, aq_, az_, ai_, al_, af_, ac_, au_, leV, as_, at_, V.inn, us, T9_, Ta_] <;> (rw [show p + 1 + (k : Int) + 1 = p + 1 + ((k + 1 : Nat) : Int) by omega, sz_, t8_]; simp [sp_])))
   ·refine .exit ?_
    refine Exists.intro (()) ⟨?_, ?_⟩
    ·trivial
    exact Can.weak (Weak.lit (by simp only [go_sem, seval, a0_, T2_, ax_, ak_, aq_, az_, ai_, al_, af_, ac_, au_, leV, as_, at_, V.inn, us, T9_, Ta_] <;> (first | (have q := e1 h9; simp at h11; (obtain rfl : k = 3 := (by omega)); rw [q]; simp [ey_]; done) | (have q := e2 h9; rw [q]; simp; done))) (by simp only [go_sem, seval, a0_, T2_, ax_, ak_, aq_, az_, ai_, al_, af_, ac_, au_, leV, as_, at_, V.inn, us, T9_, Ta_]) (by simp only [go_sem, seval, a0_, T2_, ax_, ak_, aq_, az_, ai_, al_, af_, ac_, au_, leV, as_, at_, V.inn, us, T9_, Ta_] <;> (first | (have q := e1 h9; simp at h11; (obtain rfl : k = 3 := (by omega)); rw [q]; simp; omega) | (have q := e2 h9; rw [q]; simp [sR]; done))))
  ·refine .skip ?_
   refine Exists.intro (()) ⟨?_, ?_⟩
   ·trivial
   refine Can.trans (Can.ownSlot 3 60 55 11 (by simp only [go_sem, seval, a0_, T2_, ax_, ak_, aq_, az_, ai_, al_, af_, ac_] <;> rfl) (by simp only [go_sem, seval, a0_, T2_, ax_, ak_, aq_, az_, ai_, al_, af_, ac_]) (by simp only [go_sem, seval, a0_, T2_, ax_, ak_, aq_, az_, ai_, al_, af_, ac_] <;> rfl)) ?_
   exact Can.weak (Weak.lit (by simp only [go_sem, seval, a0_, T2_, ax_, ak_, aq_, az_, ai_, al_, af_, ac_, au_, leV, as_, at_, V.inn, us, T9_, Ta_] <;> (first | (have q := e1 h9; simp at h11; (obtain rfl : k = 3 := (by omega)); rw [q]; simp [ey_]; done) | (have q := e2 h9; rw [q]; simp; done))) (by simp only [go_sem, seval, a0_, T2_, ax_, ak_, aq_, az_, ai_, al_, af_, ac_, au_, leV, as_, at_, V.inn, us, T9_, Ta_]) (by simp only [go_sem, seval, a0_, T2_, ax_, ak_, aq_, az_, ai_, al_, af_, ac_, au_, leV, as_, at_, V.inn, us, T9_, Ta_] <;> (first | (have q := e1 h9; simp at h11; (obtain rfl : k = 3 := (by omega)); rw [q]; simp; omega) | (have q := e2 h9; rw [q]; simp [sR]; done))))
 refine .seq (.seq (.rgn [bi_ [0] [] (cv_ b (dPa b p).2 6 hb (by omega) (by omega))] (by simp only [go_sem, seval, a0_, T2_, ax_, ak_, aq_, az_, ai_, al_, af_, ac_, a8_ (show -9223372036854775808 ≤ 1 + bu_ b (dPa b p).2 6 by omega) (by omega)]; rfl) ?_ ?_))
 ·first | trivial | simp
 refine .block (.loopK (fun n : Nat => ⟨[.pt 0 2 0 0, .no, .no, .ow 60 11 0 ((dPa b p).1.length + n), .no, .i .i64 ((dPn b p - n : Nat) : Int), .no, .no, .no, .no, .no, .no, .no, .no, .no, .no, .no, .no, .no, .no, .no, .no, .no, .no, .no, .no, .no, .no, .no, .no, .no, .no, .no, .no, .no, .no, .no, .no], a1_ [(0, rdB b (b9_ b n ((dPa b p).2 + 1)).2), (60, ⟨55, 11, sR ((dPa b p).1 ++ (b9_ b n ((dPa b p).2 + 1)).1)⟩)], us [60]⟩) (fun n : Nat => n ≤ dPn b p) (fun n : Nat => dPn b p - n) (0) ?_ ?_ (fun n hI => ?_))
 ·simp
 ·exact Can.weak (Weak.lit (by simp only [go_sem, seval, a0_, T2_, ax_, ak_, aq_, az_, ai_, al_, af_, ac_, au_, leV, as_, at_, V.inn, us, T9_, Ta_] <;> (rw [← n3]; simp)) (by simp only [go_sem, seval, a0_, T2_, ax_, ak_, aq_, az_, ai_, al_, af_, ac_, au_, leV, as_, at_, V.inn, us, T9_, Ta_]) (by simp only [go_sem, seval, a0_, T2_, ax_, ak_, aq_, az_, ai_, al_, af_, ac_, au_, leV, as_, at_, V.inn, us, T9_, Ta_] <;> (simp [b9_])))
 refine .seq (.seq (.rgn [] (by simp only [go_sem, seval, a0_, T2_, ax_, ak_, aq_, az_, ai_, al_, af_, ac_]; rfl) ?_ ?_))
 ·first | trivial | simp
 refine .condB (by simp only [go_sem, seval, a0_, T2_, ax_, ak_, aq_, az_, ai_, al_, af_, ac_]; rfl) (by simp only [go_sem, seval, a0_, T2_, ax_, ak_, aq_, az_, ai_, al_, af_, ac_]) (fun h29 => ?_) (fun h29 => ?_)
 ·refine .skip (.seq (.block (.rgn [bi_ [0] [] (lp_ b (b9_ b n ((dPa b p).2 + 1)).2 hb (by have := es_ b (p := (dPa b p).2 + 1) (by omega) (by omega) n (by omega); omega) (by have := es_ b (p := (dPa b p).2 + 1) (by omega) (by omega) n (by omega); omega))] (by simp only [go_sem, seval, a0_, T2_, ax_, ak_, aq_, az_, ai_, al_, af_, ac_]; rfl) ?_ ?_)))
  ·simp only [T3_] at h29; have q := D n (by omega); simp [az_]; omega
  refine .rgn [] (by simp only [go_sem, seval, a0_, T2_, ax_, ak_, aq_, az_, ai_, al_, af_, ac_]; rfl) ?_ ?_
  ·first | trivial | simp
  refine Exists.intro (n + 1) ⟨?_, ?_, ?_⟩
  ·simp at h29; omega
  ·simp at h29; omega
  refine Can.trans (Can.swap 46 60 (by decide) (by decide) (by decide) (by decide) (by simp only [go_sem, seval, a0_, T2_, ax_, ak_, aq_, az_, ai_, al_, af_, ac_, V.cl]) (by simp only [go_sem, seval, a0_, T2_, ax_, ak_, aq_, az_, ai_, al_, af_, ac_, V.cl]) (by simp only [go_sem, seval, a0_, T2_, ax_, ak_, aq_, az_, ai_, al_, af_, ac_, a5_, sw, swM, rnB] <;> rfl) (by simp only [go_sem, seval, a0_, T2_, ax_, ak_, aq_, az_, ai_, al_, af_, ac_, a5_, sw, swM, rnB] <;> rfl) (by simp only [go_sem, seval, a0_, T2_, ax_, ak_, aq_, az_, ai_, al_, af_, ac_, a5_, sw, swM, rnB] <;> rfl)) ?_
  exact Can.weak (Weak.lit (by simp only [go_sem, seval, a0_, T2_, ax_, ak_, aq_, az_, ai_, al_, af_, ac_, au_, leV, as_, at_, V.inn, us, T9_, Ta_] <;> (simp only [T3_] at h29; rw [a8_ (by omega) (by omega)]; (try simp); omega)) (by simp only [go_sem, seval, a0_, T2_, ax_, ak_, aq_, az_, ai_, al_, af_, ac_, au_, leV, as_, at_, V.inn, us, T9_, Ta_]) (by simp only [go_sem, seval, a0_, T2_, ax_, ak_, aq_, az_, ai_, al_, af_, ac_, au_, leV, as_, at_, V.inn, us, T9_, Ta_] <;> (rw [me_]; simp [m0_, ud_, al_])))
 ·refine .exit (.seq (.rgn [] (by simp only [go_sem, seval, a0_, T2_, ax_, ak_, aq_, az_, ai_, al_, af_, ac_]; rfl) ?_ ?_))
  ·first | trivial | simp
  refine .ret ⟨.inr rfl, ?_⟩
  exact Out.mem' (by simp only [Tryz.results52]; rfl) (by simp only [aw_, a3_, go_sem, seval, a0_, T2_, ax_, ak_, aq_, az_, ai_, al_, af_, ac_]) (by simp only [a2_, rns, rn, go_sem, seval, a0_, T2_, ax_, ak_, aq_, az_, ai_, al_, af_, ac_] <;> ((simp at h29; (obtain rfl : n = dPn b p := (by omega)); unfold cn_; simp [(D (dPn b p) n2).2.2.1]))) (by simp) rfl (by decide) (by simp only [go_sem, seval, a0_, T2_, ax_, ak_, aq_, az_, ai_, al_, af_, ac_]) (by simp only [aq_, go_sem, seval, a0_, T2_, ax_, ak_, aq_, az_, ai_, al_, af_, ac_]) (by simp only [ak_, go_sem, seval, a0_, T2_, ax_, ak_, aq_, az_, ai_, al_, af_, ac_] <;> ((simp at h29; (obtain rfl : n = dPn b p := (by omega)); unfold cn_; simp [bv_, ai_])))
theorem q8_ (b : Str) (p : Int) (hb : b.length ≤ 2000) (hp : 0 ≤ p) (hp2 : p < 100000) : ACall En 52 [.pt 0 2 0 0] [rdB b p] [.sl false (sR (cn_ b p).1)] [rdB b (cn_ b p).2] :=
 ACall.frzL (Lr := [rdB b (cn_ b p).2]) (pu_ b p hb hp hp2) (by simp) (by simp [de_, frz, az_, T1_])
end
section
set_option maxRecDepth 100000
set_option maxHeartbeats 4000000
def dBR (b : Str) : List Bl := (cn_ b 0).1.map bof ++ (if bu_ b (cn_ b 0).2 12 = 0 then [(d7 b ((cn_ b 0).2 + 1)).1] else [])
theorem j2_ {l : List Sl} (h : l.all okS = true) {k : Nat} (hk : k < l.length) : f7_ (l.getD k S0) = true ∧ wf (l.getD k S0).expr = true ∧ wf (l.getD k S0).thn = true := mf_ (List.all_eq_true.1 h _ (ba_ hk))
theorem om_ {l : List Sl} (h : l.all okS = true) : e3_ (l.map bof) = true := by
 unfold e3_
 rw [List.all_eq_true]
 intro x hx
 obtain ⟨s, hs, rfl⟩ := List.mem_map.1 hx
 exact ox_ (mf_ (List.all_eq_true.1 h _ hs)).1
theorem uz_ (b : Str) : (dBR b).length ≤ 10 ∧ e3_ (dBR b) = true := by
 obtain ⟨h1, h2, h3, h4, h5⟩ := oi_ b (p := 0) (by decide) (by decide)
 obtain ⟨q1, q2, q3⟩ := yr_ b (p := (cn_ b 0).2 + 1) (by omega) (by omega)
 unfold dBR
 split
 ·refine ⟨by simp; omega, ?_⟩
  have := om_ h5
  simp only [e3_, List.all_append, List.all_cons, List.all_nil, q3, Bool.and_true] at this ⊢; exact this
 ·exact ⟨by simp; omega, by rw [List.append_nil]; exact om_ h5⟩
theorem ui_ {l : List Sl} {k : Nat} (hk : k < l.length) : bLR ((l.take (k + 1)).map bof) = bLR ((l.take k).map bof) ++ [bC (bof (l.getD k S0))] := by
 rw [List.take_add_one, T6_ hk, List.map_append, g1_, T8_, T6_ hk]; rfl
theorem ln_ (b : Bl) : bLR [b] = [bC b] := rfl
theorem e5_ (b : Str) : ACall En 12 [.sl false (byR b)] [] [.sl false (bLR (dBR (b.take 2000)))] [] := by
 have hb : (b.take 2000).length ≤ 2000 := by simp; omega
 obtain ⟨h1, h2, h3, h4, h5⟩ := oi_ (b.take 2000) (p := 0) (by decide) (by decide)
 have hD : dBR (b.take 2000) = (cn_ (b.take 2000) 0).1.map bof ++ (if bu_ (b.take 2000) (cn_ (b.take 2000) 0).2 12 = 0 then [(d7 (b.take 2000) ((cn_ (b.take 2000) 0).2 + 1)).1] else []) := rfl
 generalize hP : cn_ (b.take 2000) 0 = P at *
 have L6 := q8_ (b.take 2000) 0 hb (by decide) (by decide)
 rw [hP] at L6
 refine ap_ (fn := Tryz.f12) [] Tryz.func12 rfl rfl (by simp) fun C => ?_
 rw [ay_]
 simp only [Tryz.ntmps12, T7_, List.length_nil, Nat.reduceAdd, Nat.reduceSub, List.replicate_succ, List.replicate_zero, List.cons_append, List.nil_append, bl_]
 refine .seq (.rgn [] (by simp only [go_sem, seval, ak_, aq_, az_, ai_, al_, ae_, ad_, ab_]; rfl) ?_ ?_)
 ·first | trivial | simp
 refine .seq (.rgn [bi_ [] [90] (pl_ b)] (by simp only [go_sem, seval, ak_, aq_, az_, ai_, al_, ae_, ad_, ab_]; rfl) ?_ ?_)
 ·first | trivial | simp
 refine .seq (.rgn [bi_ [90] [] L6] (by simp only [go_sem, seval, ak_, aq_, az_, ai_, al_, ae_, ad_, ab_]; rfl) ?_ ?_)
 ·first | trivial | simp
 refine .seq (.rgn [] (by simp only [go_sem, seval, ak_, aq_, az_, ai_, al_, ae_, ad_, ab_]; rfl) ?_ ?_)
 ·first | trivial | simp
 refine .seq (.seq (.rgn [] (by simp only [go_sem, seval, ak_, aq_, az_, ai_, al_, ae_, ad_, ab_]; rfl) ?_ ?_))
 ·first | trivial | simp
 refine .block (.loopK (fun k : Nat => ⟨[.no, .no, .no, .pt 90 2 0 0, .sl false (sR P.1), .ow 60 10 0 k, .i .i64 k, .no, .no, .no, .no, .no, .no, .no, .no, .no, .no, .no, .no, .no, .no, .no, .no, .no, .no, .no, .no, .no, .no, .no, .no, .no, .no, .no, .no], a1_ [(90, rdB (b.take 2000) P.2), (60, ⟨35, 10, bLR ((P.1.take k).map bof)⟩)], us [90, 60]⟩) (fun k : Nat => k ≤ P.1.length) (fun k : Nat => P.1.length - k) (0) ?_ ?_ (fun k hI => ?_))
 ·simp
 ·refine Can.trans (Can.ownSlot 5 60 35 10 (by simp only [go_sem, seval, ak_, aq_, az_, ai_, al_, ae_, ad_, ab_] <;> rfl) (by simp only [go_sem, seval, ak_, aq_, az_, ai_, al_, ae_, ad_, ab_]) (by simp only [go_sem, seval, ak_, aq_, az_, ai_, al_, ae_, ad_, ab_] <;> rfl)) ?_
  exact Can.weak (Weak.lit (by simp only [go_sem, seval, ak_, aq_, az_, ai_, al_, ae_, ad_, ab_, au_, leV, as_, at_, V.inn, us, T9_, Ta_] <;> (simp)) (by simp only [go_sem, seval, ak_, aq_, az_, ai_, al_, ae_, ad_, ab_, au_, leV, as_, at_, V.inn, us, T9_, Ta_]) (by simp only [go_sem, seval, ak_, aq_, az_, ai_, al_, ae_, ad_, ab_, au_, leV, as_, at_, V.inn, us, T9_, Ta_] <;> (simp [bLR])))
 refine .seq (.seq (.rgn [] (by simp only [go_sem, seval, ak_, aq_, az_, ai_, al_, ae_, ad_, ab_]; rfl) ?_ ?_))
 ·first | trivial | simp
 refine .condB (by simp only [go_sem, seval, ak_, aq_, az_, ai_, al_, ae_, ad_, ab_]; rfl) (by simp only [go_sem, seval, ak_, aq_, az_, ai_, al_, ae_, ad_, ab_]) (fun h15 => ?_) (fun h15 => ?_)
 ·refine .skip (.seq (.block (.rgn [a4_ (sb_ (P.1.getD k S0) (j2_ h5 (by simpa using h15)).1 (j2_ h5 (by simpa using h15)).2.1 (j2_ h5 (by simpa using h15)).2.2)] (by simp only [go_sem, seval, ak_, aq_, az_, ai_, al_, ae_, ad_, ab_, vn_ (show k < P.1.length by simpa using h15)]; rfl) ?_ ?_)))
  ·simp at h15; simp [b5_]; omega
  refine .rgn [] (by simp only [go_sem, seval, ak_, aq_, az_, ai_, al_, ae_, ad_, ab_]; rfl) ?_ ?_
  ·first | trivial | simp
  refine Exists.intro (k + 1) ⟨?_, ?_, ?_⟩
  ·simp at h15; omega
  ·simp at h15; omega
  refine Can.trans (Can.swap 35 60 (by decide) (by decide) (by decide) (by decide) (by simp only [go_sem, seval, ak_, aq_, az_, ai_, al_, ae_, ad_, ab_, V.cl]) (by simp only [go_sem, seval, ak_, aq_, az_, ai_, al_, ae_, ad_, ab_, V.cl]) (by simp only [go_sem, seval, ak_, aq_, az_, ai_, al_, ae_, ad_, ab_, a5_, sw, swM, rnB] <;> rfl) (by simp only [go_sem, seval, ak_, aq_, az_, ai_, al_, ae_, ad_, ab_, a5_, sw, swM, rnB] <;> rfl) (by simp only [go_sem, seval, ak_, aq_, az_, ai_, al_, ae_, ad_, ab_, a5_, sw, swM, rnB] <;> rfl)) ?_
  exact Can.weak (Weak.lit (by simp only [go_sem, seval, ak_, aq_, az_, ai_, al_, ae_, ad_, ab_, au_, leV, as_, at_, V.inn, us, T9_, Ta_] <;> (rw [a8_ (by simp at h15; omega) (by simp at h15; omega)]; simp)) (by simp only [go_sem, seval, ak_, aq_, az_, ai_, al_, ae_, ad_, ab_, au_, leV, as_, at_, V.inn, us, T9_, Ta_]) (by simp only [go_sem, seval, ak_, aq_, az_, ai_, al_, ae_, ad_, ab_, au_, leV, as_, at_, V.inn, us, T9_, Ta_] <;> (rw [ui_ (by simpa using h15)]; simp [ae_])))
 ·refine .exit (.seqJ (fun u : Unit => ⟨[.no, .no, .no, .no, .no, .ow 60 10 0 (dBR (b.take 2000)).length, .no, .no, .no, .no, .no, .no, .no, .no, .no, .no, .no, .no, .no, .no, .no, .no, .no, .no, .no, .no, .no, .no, .no, .no, .no, .no, .no, .no, .no], a1_ [(60, ⟨35, 10, bLR (dBR (b.take 2000))⟩)], us [60]⟩) (fun u : Unit => True) ?_ (fun u hJ => ?_))
  ·refine .seq (.rgn [bi_ [90] [] (cv_ (b.take 2000) P.2 12 hb (by omega) (by omega))] (by simp only [go_sem, seval, ak_, aq_, az_, ai_, al_, ae_, ad_, ab_]; rfl) ?_ ?_)
   ·first | trivial | simp
   refine .condB (by simp only [go_sem, seval, ak_, aq_, az_, ai_, al_, ae_, ad_, ab_]; rfl) (by simp only [go_sem, seval, ak_, aq_, az_, ai_, al_, ae_, ad_, ab_]) (fun h28 => ?_) (fun h28 => ?_)
   ·refine .rgn [bi_ [90] [] (rj_ (b.take 2000) (P.2 + 1) hb (by omega) (by omega))] (by simp only [go_sem, seval, ak_, aq_, az_, ai_, al_, ae_, ad_, ab_]; rfl) ?_ ?_
    ·simp only [T4_] at h15; simp [b5_]; omega
    refine Exists.intro (()) ⟨?_, ?_⟩
    ·trivial
    refine Can.trans (Can.swap 43 60 (by decide) (by decide) (by decide) (by decide) (by simp only [go_sem, seval, ak_, aq_, az_, ai_, al_, ae_, ad_, ab_, V.cl]) (by simp only [go_sem, seval, ak_, aq_, az_, ai_, al_, ae_, ad_, ab_, V.cl]) (by simp only [go_sem, seval, ak_, aq_, az_, ai_, al_, ae_, ad_, ab_, a5_, sw, swM, rnB] <;> rfl) (by simp only [go_sem, seval, ak_, aq_, az_, ai_, al_, ae_, ad_, ab_, a5_, sw, swM, rnB] <;> rfl) (by simp only [go_sem, seval, ak_, aq_, az_, ai_, al_, ae_, ad_, ab_, a5_, sw, swM, rnB] <;> rfl)) ?_
    exact Can.weak (Weak.lit (by simp only [go_sem, seval, ak_, aq_, az_, ai_, al_, ae_, ad_, ab_, au_, leV, as_, at_, V.inn, us, T9_, Ta_] <;> (simp only [T4_] at h15; (obtain rfl : k = P.1.length := (by omega)); rw [hD]; first | (rw [if_pos (by simpa using h28)]; simp; done) | (rw [if_neg (by simpa using h28)]; simp; done))) (by simp only [go_sem, seval, ak_, aq_, az_, ai_, al_, ae_, ad_, ab_, au_, leV, as_, at_, V.inn, us, T9_, Ta_]) (by simp only [go_sem, seval, ak_, aq_, az_, ai_, al_, ae_, ad_, ab_, au_, leV, as_, at_, V.inn, us, T9_, Ta_] <;> (simp only [T4_] at h15; (obtain rfl : k = P.1.length := (by omega)); rw [hD]; first | (rw [if_pos (by simpa using h28)]; simp [T1_, g1_, ln_, ae_]; done) | (rw [if_neg (by simpa using h28)]; simp [T1_]; done))))
   ·refine .skip ?_
    refine Exists.intro (()) ⟨?_, ?_⟩
    ·trivial
    exact Can.weak (Weak.lit (by simp only [go_sem, seval, ak_, aq_, az_, ai_, al_, ae_, ad_, ab_, au_, leV, as_, at_, V.inn, us, T9_, Ta_] <;> (simp only [T4_] at h15; (obtain rfl : k = P.1.length := (by omega)); rw [hD]; first | (rw [if_pos (by simpa using h28)]; simp; done) | (rw [if_neg (by simpa using h28)]; simp; done))) (by simp only [go_sem, seval, ak_, aq_, az_, ai_, al_, ae_, ad_, ab_, au_, leV, as_, at_, V.inn, us, T9_, Ta_]) (by simp only [go_sem, seval, ak_, aq_, az_, ai_, al_, ae_, ad_, ab_, au_, leV, as_, at_, V.inn, us, T9_, Ta_] <;> (simp only [T4_] at h15; (obtain rfl : k = P.1.length := (by omega)); rw [hD]; first | (rw [if_pos (by simpa using h28)]; simp [T1_, g1_, ln_, ae_]; done) | (rw [if_neg (by simpa using h28)]; simp [T1_]; done))))
  refine .seq (.rgn [] (by simp only [go_sem, seval, ak_, aq_, az_, ai_, al_, ae_, ad_, ab_]; rfl) ?_ ?_)
  ·first | trivial | simp
  refine .frz 60 (by simp only [go_sem, seval, ak_, aq_, az_, ai_, al_, ae_, ad_, ab_]; rfl) (by simp only [go_sem, seval, ak_, aq_, az_, ai_, al_, ae_, ad_, ab_]) (by simp only [go_sem, seval, ak_, aq_, az_, ai_, al_, ae_, ad_, ab_]; rfl) (by simp only [go_sem, seval, ak_, aq_, az_, ai_, al_, ae_, ad_, ab_]; rfl) ?_
  refine .ret ⟨.inr rfl, ?_⟩
  exact Out.plain (by simp only [Tryz.results12]; rfl) (by simp only [aw_, a3_, go_sem, seval, ak_, aq_, az_, ai_, al_, ae_, ad_, ab_] <;> (split <;> rfl)) (by simp only [a2_, go_sem, seval, ak_, aq_, az_, ai_, al_, ae_, ad_, ab_] <;> (simp [T1_, ad_, peel])) (by simp only [go_sem, seval, ak_, aq_, az_, ai_, al_, ae_, ad_, ab_])
end
end Go.Proofs.YtpikbndepapbhabGreatDoor
