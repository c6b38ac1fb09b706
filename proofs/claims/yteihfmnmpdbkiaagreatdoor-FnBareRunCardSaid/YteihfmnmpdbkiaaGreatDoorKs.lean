/- Parts of the proof, one after another: What is drawn: programs, and lists of lines without types. | What is drawn: lists of lines without types. Conditions: none. -/
import Derived.Test.YteihfmnmpdbkiaaGreatDoorKb
import Derived.Test.YteihfmnmpdbkiaaGreatDoorKr
set_option linter.unusedVariables false
set_option linter.unusedSimpArgs false
namespace Go.Proofs.YteihfmnmpdbkiaaGreatDoor
section
set_option maxRecDepth 100000
set_option maxHeartbeats 4000000

def letL (b : Str) (p : Int) (i : Nat) : Sl := ⟨1, ([[120], [121], [122]] : List Str).getD i [], wInt, .mk 1 (pickI b (p + i) 9) [] [], E0⟩
def lets3 (b : Str) (p : Int) (k : Nat) : List Sl := (List.range k).map (letL b p)
theorem lets3_succ (b : Str) (p : Int) (k : Nat) : lets3 b p (k + 1) = lets3 b p k ++ [letL b p k] := by simp [lets3, List.range_succ]
theorem lets3_len (b : Str) (p : Int) (k : Nat) : (lets3 b p k).length = k := by simp [lets3]
def dSomes (b : Str) : Nat → Int → List Sl × Int
  | 0, p => ([], p)
  | n + 1, p => ((dSomes b n p).1 ++ [(d5Some b (dSomes b n p).2).1], (d5Some b (dSomes b n p).2).2)
def okS (s : Sl) : Bool := sms' s && wf s.expr && wf s.thn
theorem dSomes_p (b : Str) {p : Int} (hp : 0 ≤ p) (hp2 : p < 1000000) : ∀ n : Nat, n ≤ 1000 → p ≤ (dSomes b n p).2 ∧ (dSomes b n p).2 ≤ p + 300 * n ∧ (dSomes b n p).1.length = n ∧ (dSomes b n p).1.all okS = true
  | 0, _ => by simp [dSomes]
  | n + 1, h => by
    obtain ⟨h1, h2, h3, h4⟩ := dSomes_p b hp hp2 n (by omega)
    obtain ⟨q1, q2, q3, q4, q5, _⟩ := d5Some_p b (p := (dSomes b n p).2) (by omega) (by omega)
    simp only [dSomes, List.length_append, List.length_singleton, List.all_append, List.all_cons, List.all_nil, h4, okS, q3, q4, q5, Bool.and_self, Bool.and_true]
    refine ⟨by omega, by omega, by omega, trivial⟩
theorem letL_ok (b : Str) {p : Int} (hp : 0 ≤ p) (hp2 : p < 1000000) (i : Nat) (hi : i < 3) : okS (letL b p i) = true := by
  have hk : i = 0 ∨ i = 1 ∨ i = 2 := by omega
  rcases hk with rfl | rfl | rfl <;> simp [okS, letL, sms', sm, sms, wf, wfs, wInt, E0]
theorem lets3_ok (b : Str) {p : Int} (hp : 0 ≤ p) (hp2 : p < 1000000) : ∀ k, k ≤ 3 → (lets3 b p k).all okS = true
  | 0, _ => rfl
  | k + 1, h => by rw [lets3_succ, List.all_append, lets3_ok b hp hp2 k (by omega)]; simp [letL_ok b hp hp2 k (by omega)]
def dPa (b : Str) (p : Int) : List Sl × Int := if 0 < pickI b p 4 then (lets3 b (p + 1) 3, p + 4) else ([], p + 1)
def dPn (b : Str) (p : Int) : Nat := (1 + pickI b (dPa b p).2 6).toNat
def dProg (b : Str) (p : Int) : List Sl × Int := ((dPa b p).1 ++ (dSomes b (dPn b p) ((dPa b p).2 + 1)).1, (dSomes b (dPn b p) ((dPa b p).2 + 1)).2)
theorem dPa_p (b : Str) {p : Int} (hp : 0 ≤ p) (hp2 : p < 100000) : p ≤ (dPa b p).2 ∧ (dPa b p).2 ≤ p + 4 ∧ (dPa b p).1.length ≤ 3 ∧ (dPa b p).1.all okS = true := by
  unfold dPa; split
  · exact ⟨by dsimp only; omega, by dsimp only; omega, by simp [lets3_len], lets3_ok b (by omega) (by omega) 3 (by omega)⟩
  · exact ⟨by dsimp only; omega, by dsimp only; omega, by simp, rfl⟩
theorem dPn_le (b : Str) {p : Int} (hp : 0 ≤ p) (hp2 : p < 100000) : 1 ≤ dPn b p ∧ dPn b p ≤ 6 ∧ (dPn b p : Int) = 1 + pickI b (dPa b p).2 6 := by
  have h := dPa_p b hp hp2
  have := pickI_le b (p := (dPa b p).2) (n := 6) (by omega) (by omega) (by omega)
  unfold dPn; omega
theorem dProg_p (b : Str) {p : Int} (hp : 0 ≤ p) (hp2 : p < 100000) : p ≤ (dProg b p).2 ∧ (dProg b p).2 ≤ p + 2000 ∧ (dProg b p).1.length ≤ 9 ∧ 1 ≤ (dProg b p).1.length ∧ (dProg b p).1.all okS = true := by
  obtain ⟨h1, h2, h3, h4⟩ := dPa_p b hp hp2
  obtain ⟨n1, n2, n3⟩ := dPn_le b hp hp2
  obtain ⟨q1, q2, q3, q4⟩ := dSomes_p b (p := (dPa b p).2 + 1) (by omega) (by omega) (dPn b p) (by omega)
  unfold dProg
  exact ⟨by dsimp only; omega, by dsimp only; omega, by simp only [List.length_append]; omega, by simp only [List.length_append]; omega, by simp only [List.all_append, h4, q4, Bool.and_self]⟩
theorem okS_open {s : Sl} (h : okS s = true) : sms' s = true ∧ wf s.expr = true ∧ wf s.thn = true := by
  simp only [okS, Bool.and_eq_true] at h; exact ⟨h.1.1, h.1.2, h.2⟩
theorem abc_get {k : Nat} (h : k < 3) : ([[V.s [120]], [V.s [121]], [V.s [122]]] : List (List V)).getD k [] = [.s (([[120], [121], [122]] : List Str).getD k [])] := by
  have hk : k = 0 ∨ k = 1 ∨ k = 2 := by omega
  rcases hk with rfl | rfl | rfl <;> rfl
theorem sC_letL (b : Str) (p : Int) (k : Nat) : sC (letL b p k) = [.i .i64 1, .s (([[120], [121], [122]] : List Str).getD k []), .s wInt, .i .i64 1, .i .i64 (pickI b (p + k) 9), .s [], .sl false [], .i .i64 0, .i .i64 0, .s [], .sl false []] := by
  rw [sC_eq]; simp only [letL, E.kind_mk, E.n_mk, E.s_mk, E.kids_mk, E0_k, E0_n, E0_s, E0_kids, eR_nil]
theorem sR_lets (b : Str) (p : Int) (k : Nat) : sR (lets3 b p (k + 1)) = sR (lets3 b p k) ++ [sC (letL b p k)] := by rw [lets3_succ, sR_app]; rfl
theorem ler_snocE : ∀ (a : List (List V)) (r r' : List V), ler (a ++ [r]) (a ++ [r']) = les r r'
  | [], r, r' => by simp [ler]
  | x :: a, r, r' => by have := ler_snocE a r r'; simp [ler, les_refl, this]
theorem dSomes_len (b : Str) (p : Int) : ∀ n : Nat, (dSomes b n p).1.length = n
  | 0 => rfl
  | n + 1 => by simp [dSomes, dSomes_len b p n]
theorem sR_sing (s : Sl) : sR [s] = [sC s] := rfl
theorem dSomes_succ (b : Str) (n : Nat) (p : Int) : dSomes b (n + 1) p = ((dSomes b n p).1 ++ [(d5Some b (dSomes b n p).2).1], (d5Some b (dSomes b n p).2).2) := rfl
theorem l6ProgO_a (b : Str) (p : Int) (hb : b.length ≤ 2000) (hp : 0 ≤ p) (hp2 : p < 100000) : ACall En 129 [.pt 0 2 0 0] [rdB b p] [.ow 1 11 0 (dProg b p).1.length] [rdB b (dProg b p).2, ⟨32, 11, sR (dProg b p).1⟩] := by
  obtain ⟨h1, h2, h3, h4⟩ := dPa_p b hp hp2
  obtain ⟨n1, n2, n3⟩ := dPn_le b hp hp2
  have e1 : decide (pickI b p 4 > 0) = true → dPa b p = (lets3 b (p + 1) 3, p + 4) := fun h => by unfold dPa; rw [if_pos (by simpa using h)]
  have e2 : decide (pickI b p 4 > 0) = false → dPa b p = ([], p + 1) := fun h => by unfold dPa; rw [if_neg (by simpa using h)]
  have D := fun n (hn : n ≤ 6) => dSomes_p b (p := (dPa b p).2 + 1) (by omega) (by omega) n (by omega)
  refine acall_of_body (fn := Tryz.f129) [0, 60] Tryz.func129 rfl rfl (by simp) fun C => ?_
  rw [entry_eq]
  simp only [Tryz.ntmps129, List.length_cons, List.length_nil, Nat.reduceAdd, Nat.reduceSub, List.replicate_succ, List.replicate_zero, List.cons_append, List.nil_append, numL]
  refine AWp.seq ?_
  refine AWp.rgn [] (by simp only [go_sem, seval, ler_snocE, List.length_append, dSomes_len, memEq, clrs, sR_len, sR_pure, sC_eq, strR_nil, strR_cons]; rfl) ?_ ?_
  · (first | trivial | (simp; done))
  refine AWp.seq ?_
  refine AWp.rgn [] (by simp only [go_sem, seval, ler_snocE, List.length_append, dSomes_len, memEq, clrs, sR_len, sR_pure, sC_eq, strR_nil, strR_cons]; rfl) ?_ ?_
  · (first | trivial | (simp; done))
  refine AWp.seqJ (fun u : Unit => ⟨[.pt 0 2 0 0, .no, .no, .ow 60 11 0 (dPa b p).1.length, .no, .no, .no, .no, .no, .no, .no, .no, .no, .no, .no, .no, .no, .no, .no, .no, .no, .no, .no, .no, .no, .no, .no, .no, .no, .no, .no, .no, .no, .no, .no, .no, .no, .no], memOf [(0, rdB b (dPa b p).2), (60, ⟨32, 11, sR (dPa b p).1⟩)], us [60]⟩) (fun u : Unit => True) ?_ (fun u hJ => ?_)
  · refine AWp.seq ?_
    refine AWp.rgn [callN [0] [] (pick_a b p 4 hb hp (by omega))] (by simp only [go_sem, seval, ler_snocE, List.length_append, dSomes_len, memEq, clrs, sR_len, sR_pure, sC_eq, strR_nil, strR_cons]; rfl) ?_ ?_
    · (first | trivial | (simp; done))
    refine AWp.condB (by simp only [go_sem, seval, ler_snocE, List.length_append, dSomes_len, memEq, clrs, sR_len, sR_pure, sC_eq, strR_nil, strR_cons]; rfl) (by simp only [go_sem, seval, ler_snocE, List.length_append, dSomes_len, memEq, clrs, sR_len, sR_pure, sC_eq, strR_nil, strR_cons]) (fun h9 => ?_) (fun h9 => ?_)
    · refine AWp.seq ?_
      refine AWp.rgn [] (by simp only [go_sem, seval, ler_snocE, List.length_append, dSomes_len, memEq, clrs, sR_len, sR_pure, sC_eq, strR_nil, strR_cons]; rfl) ?_ ?_
      · (first | trivial | (simp; done))
      refine AWp.block ?_
      refine AWp.loopK (fun k : Nat => ⟨[.pt 0 2 0 0, .no, .no, .ow 60 11 0 k, .i .i64 k, .no, .no, .no, .no, .no, .no, .no, .no, .no, .no, .no, .no, .no, .no, .no, .no, .no, .no, .no, .no, .no, .no, .no, .no, .no, .no, .no, .no, .no, .no, .no, .no, .no], memOf [(0, rdB b (p + 1 + k)), (60, ⟨32, 11, sR (lets3 b (p + 1) k)⟩)], us [60]⟩) (fun k : Nat => k ≤ 3) (fun k : Nat => 3 - k) (0) ?_ ?_ (fun k hI => ?_)
      · simp
      · refine Can.trans (Can.ownSlot 3 60 32 11 (by simp only [go_sem, seval, ler_snocE, List.length_append, dSomes_len, memEq, clrs, sR_len, sR_pure, sC_eq, strR_nil, strR_cons] <;> rfl) (by simp only [go_sem, seval, ler_snocE, List.length_append, dSomes_len, memEq, clrs, sR_len, sR_pure, sC_eq, strR_nil, strR_cons]) (by simp only [go_sem, seval, ler_snocE, List.length_append, dSomes_len, memEq, clrs, sR_len, sR_pure, sC_eq, strR_nil, strR_cons] <;> rfl)) ?_
        exact Can.weak (Weak.lit (by simp only [go_sem, seval, ler_snocE, List.length_append, dSomes_len, memEq, clrs, sR_len, sR_pure, sC_eq, strR_nil, strR_cons, subM, leV, inns, innr, V.inn, us, true_or, or_true] <;> (simp)) (by simp only [go_sem, seval, ler_snocE, List.length_append, dSomes_len, memEq, clrs, sR_len, sR_pure, sC_eq, strR_nil, strR_cons, subM, leV, inns, innr, V.inn, us, true_or, or_true]) (by simp only [go_sem, seval, ler_snocE, List.length_append, dSomes_len, memEq, clrs, sR_len, sR_pure, sC_eq, strR_nil, strR_cons, subM, leV, inns, innr, V.inn, us, true_or, or_true] <;> (simp [lets3, sR])))
      refine AWp.seq ?_
      refine AWp.seq ?_
      refine AWp.rgn [] (by simp only [go_sem, seval, ler_snocE, List.length_append, dSomes_len, memEq, clrs, sR_len, sR_pure, sC_eq, strR_nil, strR_cons]; rfl) ?_ ?_
      · (first | trivial | (simp; done))
      refine AWp.condB (by simp only [go_sem, seval, ler_snocE, List.length_append, dSomes_len, memEq, clrs, sR_len, sR_pure, sC_eq, strR_nil, strR_cons]; rfl) (by simp only [go_sem, seval, ler_snocE, List.length_append, dSomes_len, memEq, clrs, sR_len, sR_pure, sC_eq, strR_nil, strR_cons]) (fun h11 => ?_) (fun h11 => ?_)
      · refine AWp.skip ?_
        refine AWp.seq ?_
        refine AWp.block ?_
        refine AWp.rgnD [callN [0] [] (pick_a b (p + 1 + k) 9 hb (by omega) (by omega))] enM (by simp only [go_sem, seval, ler_snocE, List.length_append, dSomes_len, memEq, clrs, sR_len, sR_pure, sC_eq, strR_nil, strR_cons, abc_get (show k < 3 by simp at h11; omega)]; rfl) (by rfl) ?_ ?_
        · simp only [decide_eq_true_eq] at h11; simp [fsOk, lets3_len]; omega
        refine AWp.rgn [] (by simp only [go_sem, seval, ler_snocE, List.length_append, dSomes_len, memEq, clrs, sR_len, sR_pure, sC_eq, strR_nil, strR_cons]; rfl) ?_ ?_
        · (first | trivial | (simp; done))
        refine Exists.intro (k + 1) ⟨?_, ?_, ?_⟩
        · simp at h11; omega
        · simp at h11; omega
        refine Can.trans (Can.swap 34 60 (by decide) (by decide) (by decide) (by decide) (by simp only [go_sem, seval, ler_snocE, List.length_append, dSomes_len, memEq, clrs, sR_len, sR_pure, sC_eq, strR_nil, strR_cons, V.cl]) (by simp only [go_sem, seval, ler_snocE, List.length_append, dSomes_len, memEq, clrs, sR_len, sR_pure, sC_eq, strR_nil, strR_cons, V.cl]) (by simp only [go_sem, seval, ler_snocE, List.length_append, dSomes_len, memEq, clrs, sR_len, sR_pure, sC_eq, strR_nil, strR_cons, swL_get, sw, swM, rnB] <;> rfl) (by simp only [go_sem, seval, ler_snocE, List.length_append, dSomes_len, memEq, clrs, sR_len, sR_pure, sC_eq, strR_nil, strR_cons, swL_get, sw, swM, rnB] <;> rfl) (by simp only [go_sem, seval, ler_snocE, List.length_append, dSomes_len, memEq, clrs, sR_len, sR_pure, sC_eq, strR_nil, strR_cons, swL_get, sw, swM, rnB] <;> rfl)) ?_
        refine Can.trans (Can.leAt 60 (sR (lets3 b (p + 1) k) ++ [[.i .i64 1, .s (([[120], [121], [122]] : List Str).getD k []), .s [105, 110, 116], .i .i64 1, .i .i64 (pickI b (p + 1 + k) 9), .s [], .sl false [], .i .i64 0, .i .i64 0, .s [], .sl false []]]) (by simp only [go_sem, seval, ler_snocE, List.length_append, dSomes_len, memEq, clrs, sR_len, sR_pure, sC_eq, strR_nil, strR_cons] <;> rfl) (by simp only [go_sem, seval, ler_snocE, List.length_append, dSomes_len, memEq, clrs, sR_len, sR_pure, sC_eq, strR_nil, strR_cons, ler, les, leV] <;> (first | trivial | simp)) (by simp only [go_sem, seval, ler_snocE, List.length_append, dSomes_len, memEq, clrs, sR_len, sR_pure, sC_eq, strR_nil, strR_cons] <;> rfl)) ?_
        exact Can.weak (Weak.lit (by simp only [go_sem, seval, ler_snocE, List.length_append, dSomes_len, memEq, clrs, sR_len, sR_pure, sC_eq, strR_nil, strR_cons, subM, leV, inns, innr, V.inn, us, true_or, or_true] <;> (rw [wrap64 (by omega) (by omega)]; simp)) (by simp only [go_sem, seval, ler_snocE, List.length_append, dSomes_len, memEq, clrs, sR_len, sR_pure, sC_eq, strR_nil, strR_cons, subM, leV, inns, innr, V.inn, us, true_or, or_true]) (by simp only [go_sem, seval, ler_snocE, List.length_append, dSomes_len, memEq, clrs, sR_len, sR_pure, sC_eq, strR_nil, strR_cons, subM, leV, inns, innr, V.inn, us, true_or, or_true] <;> (rw [show p + 1 + (k : Int) + 1 = p + 1 + ((k + 1 : Nat) : Int) by omega, sR_lets, sC_letL]; simp [wInt])))
      · refine AWp.exit ?_
        refine Exists.intro (()) ⟨?_, ?_⟩
        · trivial
        exact Can.weak (Weak.lit (by simp only [go_sem, seval, ler_snocE, List.length_append, dSomes_len, memEq, clrs, sR_len, sR_pure, sC_eq, strR_nil, strR_cons, subM, leV, inns, innr, V.inn, us, true_or, or_true] <;> (first | (have q := e1 h9; simp at h11; (obtain rfl : k = 3 := (by omega)); rw [q]; simp [lets3_len]; done) | (have q := e2 h9; rw [q]; simp; done))) (by simp only [go_sem, seval, ler_snocE, List.length_append, dSomes_len, memEq, clrs, sR_len, sR_pure, sC_eq, strR_nil, strR_cons, subM, leV, inns, innr, V.inn, us, true_or, or_true]) (by simp only [go_sem, seval, ler_snocE, List.length_append, dSomes_len, memEq, clrs, sR_len, sR_pure, sC_eq, strR_nil, strR_cons, subM, leV, inns, innr, V.inn, us, true_or, or_true] <;> (first | (have q := e1 h9; simp at h11; (obtain rfl : k = 3 := (by omega)); rw [q]; simp; omega) | (have q := e2 h9; rw [q]; simp [sR]; done))))
    · refine AWp.skip ?_
      refine Exists.intro (()) ⟨?_, ?_⟩
      · trivial
      refine Can.trans (Can.ownSlot 3 60 32 11 (by simp only [go_sem, seval, ler_snocE, List.length_append, dSomes_len, memEq, clrs, sR_len, sR_pure, sC_eq, strR_nil, strR_cons] <;> rfl) (by simp only [go_sem, seval, ler_snocE, List.length_append, dSomes_len, memEq, clrs, sR_len, sR_pure, sC_eq, strR_nil, strR_cons]) (by simp only [go_sem, seval, ler_snocE, List.length_append, dSomes_len, memEq, clrs, sR_len, sR_pure, sC_eq, strR_nil, strR_cons] <;> rfl)) ?_
      exact Can.weak (Weak.lit (by simp only [go_sem, seval, ler_snocE, List.length_append, dSomes_len, memEq, clrs, sR_len, sR_pure, sC_eq, strR_nil, strR_cons, subM, leV, inns, innr, V.inn, us, true_or, or_true] <;> (first | (have q := e1 h9; simp at h11; (obtain rfl : k = 3 := (by omega)); rw [q]; simp [lets3_len]; done) | (have q := e2 h9; rw [q]; simp; done))) (by simp only [go_sem, seval, ler_snocE, List.length_append, dSomes_len, memEq, clrs, sR_len, sR_pure, sC_eq, strR_nil, strR_cons, subM, leV, inns, innr, V.inn, us, true_or, or_true]) (by simp only [go_sem, seval, ler_snocE, List.length_append, dSomes_len, memEq, clrs, sR_len, sR_pure, sC_eq, strR_nil, strR_cons, subM, leV, inns, innr, V.inn, us, true_or, or_true] <;> (first | (have q := e1 h9; simp at h11; (obtain rfl : k = 3 := (by omega)); rw [q]; simp; omega) | (have q := e2 h9; rw [q]; simp [sR]; done))))
  refine AWp.seq ?_
  refine AWp.seq ?_
  refine AWp.rgn [callN [0] [] (pick_a b (dPa b p).2 6 hb (by omega) (by omega))] (by simp only [go_sem, seval, ler_snocE, List.length_append, dSomes_len, memEq, clrs, sR_len, sR_pure, sC_eq, strR_nil, strR_cons, wrap64 (show -9223372036854775808 ≤ 1 + pickI b (dPa b p).2 6 by omega) (by omega)]; rfl) ?_ ?_
  · (first | trivial | (simp; done))
  refine AWp.block ?_
  refine AWp.loopK (fun n : Nat => ⟨[.pt 0 2 0 0, .no, .no, .ow 60 11 0 ((dPa b p).1.length + n), .no, .i .i64 ((dPn b p - n : Nat) : Int), .no, .no, .no, .no, .no, .no, .no, .no, .no, .no, .no, .no, .no, .no, .no, .no, .no, .no, .no, .no, .no, .no, .no, .no, .no, .no, .no, .no, .no, .no, .no, .no], memOf [(0, rdB b (dSomes b n ((dPa b p).2 + 1)).2), (60, ⟨32, 11, sR ((dPa b p).1 ++ (dSomes b n ((dPa b p).2 + 1)).1)⟩)], us [60]⟩) (fun n : Nat => n ≤ dPn b p) (fun n : Nat => dPn b p - n) (0) ?_ ?_ (fun n hI => ?_)
  · simp
  · exact Can.weak (Weak.lit (by simp only [go_sem, seval, ler_snocE, List.length_append, dSomes_len, memEq, clrs, sR_len, sR_pure, sC_eq, strR_nil, strR_cons, subM, leV, inns, innr, V.inn, us, true_or, or_true] <;> (rw [← n3]; simp)) (by simp only [go_sem, seval, ler_snocE, List.length_append, dSomes_len, memEq, clrs, sR_len, sR_pure, sC_eq, strR_nil, strR_cons, subM, leV, inns, innr, V.inn, us, true_or, or_true]) (by simp only [go_sem, seval, ler_snocE, List.length_append, dSomes_len, memEq, clrs, sR_len, sR_pure, sC_eq, strR_nil, strR_cons, subM, leV, inns, innr, V.inn, us, true_or, or_true] <;> (simp [dSomes])))
  refine AWp.seq ?_
  refine AWp.seq ?_
  refine AWp.rgn [] (by simp only [go_sem, seval, ler_snocE, List.length_append, dSomes_len, memEq, clrs, sR_len, sR_pure, sC_eq, strR_nil, strR_cons]; rfl) ?_ ?_
  · (first | trivial | (simp; done))
  refine AWp.condB (by simp only [go_sem, seval, ler_snocE, List.length_append, dSomes_len, memEq, clrs, sR_len, sR_pure, sC_eq, strR_nil, strR_cons]; rfl) (by simp only [go_sem, seval, ler_snocE, List.length_append, dSomes_len, memEq, clrs, sR_len, sR_pure, sC_eq, strR_nil, strR_cons]) (fun h29 => ?_) (fun h29 => ?_)
  · refine AWp.skip ?_
    refine AWp.seq ?_
    refine AWp.block ?_
    refine AWp.rgn [callN [0] [] (l5Some_a b (dSomes b n ((dPa b p).2 + 1)).2 hb (by have := dSomes_p b (p := (dPa b p).2 + 1) (by omega) (by omega) n (by omega); omega) (by have := dSomes_p b (p := (dPa b p).2 + 1) (by omega) (by omega) n (by omega); omega))] (by simp only [go_sem, seval, ler_snocE, List.length_append, dSomes_len, memEq, clrs, sR_len, sR_pure, sC_eq, strR_nil, strR_cons]; rfl) ?_ ?_
    · simp only [decide_eq_true_eq] at h29; have q := D n (by omega); simp [sR_len]; omega
    refine AWp.rgn [] (by simp only [go_sem, seval, ler_snocE, List.length_append, dSomes_len, memEq, clrs, sR_len, sR_pure, sC_eq, strR_nil, strR_cons]; rfl) ?_ ?_
    · (first | trivial | (simp; done))
    refine Exists.intro (n + 1) ⟨?_, ?_, ?_⟩
    · simp at h29; omega
    · simp at h29; omega
    refine Can.trans (Can.swap 46 60 (by decide) (by decide) (by decide) (by decide) (by simp only [go_sem, seval, ler_snocE, List.length_append, dSomes_len, memEq, clrs, sR_len, sR_pure, sC_eq, strR_nil, strR_cons, V.cl]) (by simp only [go_sem, seval, ler_snocE, List.length_append, dSomes_len, memEq, clrs, sR_len, sR_pure, sC_eq, strR_nil, strR_cons, V.cl]) (by simp only [go_sem, seval, ler_snocE, List.length_append, dSomes_len, memEq, clrs, sR_len, sR_pure, sC_eq, strR_nil, strR_cons, swL_get, sw, swM, rnB] <;> rfl) (by simp only [go_sem, seval, ler_snocE, List.length_append, dSomes_len, memEq, clrs, sR_len, sR_pure, sC_eq, strR_nil, strR_cons, swL_get, sw, swM, rnB] <;> rfl) (by simp only [go_sem, seval, ler_snocE, List.length_append, dSomes_len, memEq, clrs, sR_len, sR_pure, sC_eq, strR_nil, strR_cons, swL_get, sw, swM, rnB] <;> rfl)) ?_
    exact Can.weak (Weak.lit (by simp only [go_sem, seval, ler_snocE, List.length_append, dSomes_len, memEq, clrs, sR_len, sR_pure, sC_eq, strR_nil, strR_cons, subM, leV, inns, innr, V.inn, us, true_or, or_true] <;> (simp only [decide_eq_true_eq] at h29; rw [wrap64 (by omega) (by omega)]; (try simp); omega)) (by simp only [go_sem, seval, ler_snocE, List.length_append, dSomes_len, memEq, clrs, sR_len, sR_pure, sC_eq, strR_nil, strR_cons, subM, leV, inns, innr, V.inn, us, true_or, or_true]) (by simp only [go_sem, seval, ler_snocE, List.length_append, dSomes_len, memEq, clrs, sR_len, sR_pure, sC_eq, strR_nil, strR_cons, subM, leV, inns, innr, V.inn, us, true_or, or_true] <;> (rw [dSomes_succ]; simp [sR_app, sR_sing, sC_eq])))
  · refine AWp.exit ?_
    refine AWp.seq ?_
    refine AWp.rgn [] (by simp only [go_sem, seval, ler_snocE, List.length_append, dSomes_len, memEq, clrs, sR_len, sR_pure, sC_eq, strR_nil, strR_cons]; rfl) ?_ ?_
    · (first | trivial | (simp; done))
    refine AWp.ret (And.intro (.inr rfl) ?_)
    exact Out.mem' (by simp only [Tryz.results129]; rfl) (by simp only [resCs, resC, go_sem, seval, ler_snocE, List.length_append, dSomes_len, memEq, clrs, sR_len, sR_pure, sC_eq, strR_nil, strR_cons]) (by simp only [resV, rns, rn, go_sem, seval, ler_snocE, List.length_append, dSomes_len, memEq, clrs, sR_len, sR_pure, sC_eq, strR_nil, strR_cons] <;> ((simp at h29; (obtain rfl : n = dPn b p := (by omega)); unfold dProg; simp [(D (dPn b p) n2).2.2.1]))) (by simp) rfl (by decide) (by simp only [go_sem, seval, ler_snocE, List.length_append, dSomes_len, memEq, clrs, sR_len, sR_pure, sC_eq, strR_nil, strR_cons]) (by simp only [clrs, go_sem, seval, ler_snocE, List.length_append, dSomes_len, memEq, clrs, sR_len, sR_pure, sC_eq, strR_nil, strR_cons]) (by simp only [memEq, go_sem, seval, ler_snocE, List.length_append, dSomes_len, memEq, clrs, sR_len, sR_pure, sC_eq, strR_nil, strR_cons] <;> ((simp at h29; (obtain rfl : n = dPn b p := (by omega)); unfold dProg; simp [rnr_pure, sR_pure])))
theorem l6Prog_a (b : Str) (p : Int) (hb : b.length ≤ 2000) (hp : 0 ≤ p) (hp2 : p < 100000) : ACall En 129 [.pt 0 2 0 0] [rdB b p] [.sl false (sR (dProg b p).1)] [rdB b (dProg b p).2] :=
  ACall.frzL (Lr := [rdB b (dProg b p).2]) (l6ProgO_a b p hb hp hp2) (by simp) (by simp [frzs, frz, sR_len, List.take_of_length_le])
end

section
set_option maxRecDepth 100000
set_option maxHeartbeats 4000000

def dBR (b : Str) : List Bl := (dProg b 0).1.map bof ++ (if pickI b (dProg b 0).2 12 = 0 then [(d7 b ((dProg b 0).2 + 1)).1] else [])
theorem allS_of {l : List Sl} (h : l.all okS = true) {k : Nat} (hk : k < l.length) : sms' (l.getD k S0) = true ∧ wf (l.getD k S0).expr = true ∧ wf (l.getD k S0).thn = true := okS_open (List.all_eq_true.1 h _ (getD_mem hk))
theorem bof_all {l : List Sl} (h : l.all okS = true) : allB (l.map bof) = true := by
  unfold allB
  rw [List.all_eq_true]
  intro x hx
  obtain ⟨s, hs, rfl⟩ := List.mem_map.1 hx
  exact smb_bof (okS_open (List.all_eq_true.1 h _ hs)).1
theorem dBR_p (b : Str) : (dBR b).length ≤ 10 ∧ allB (dBR b) = true := by
  obtain ⟨h1, h2, h3, h4, h5⟩ := dProg_p b (p := 0) (by decide) (by decide)
  obtain ⟨q1, q2, q3⟩ := d7_p b (p := (dProg b 0).2 + 1) (by omega) (by omega)
  unfold dBR
  split
  · refine ⟨by simp; omega, ?_⟩
    have := bof_all h5
    simp only [allB, List.all_append, List.all_cons, List.all_nil, q3, Bool.and_true] at this ⊢; exact this
  · exact ⟨by simp; omega, by rw [List.append_nil]; exact bof_all h5⟩
theorem bLR_map {l : List Sl} {k : Nat} (hk : k < l.length) : bLR ((l.take (k + 1)).map bof) = bLR ((l.take k).map bof) ++ [bC (bof (l.getD k S0))] := by
  rw [List.take_add_one, List.getElem?_eq_getElem hk, List.map_append, bLR_app, List.getD_eq_getElem?_getD, List.getElem?_eq_getElem hk]; rfl
theorem bLR_sing (b : Bl) : bLR [b] = [bC b] := rfl
theorem DrawBareRun_a (b : Str) : ACall En 62 [.sl false (byR b)] [] [.sl false (bLR (dBR (b.take 2000)))] [] := by
  have hb : (b.take 2000).length ≤ 2000 := by simp; omega
  obtain ⟨h1, h2, h3, h4, h5⟩ := dProg_p (b.take 2000) (p := 0) (by decide) (by decide)
  have hD : dBR (b.take 2000) = (dProg (b.take 2000) 0).1.map bof ++ (if pickI (b.take 2000) (dProg (b.take 2000) 0).2 12 = 0 then [(d7 (b.take 2000) ((dProg (b.take 2000) 0).2 + 1)).1] else []) := rfl
  generalize hP : dProg (b.take 2000) 0 = P at *
  have L6 := l6Prog_a (b.take 2000) 0 hb (by decide) (by decide)
  rw [hP] at L6
  refine acall_of_body (fn := Tryz.f62) [] Tryz.func62 rfl rfl (by simp) fun C => ?_
  rw [entry_eq]
  simp only [Tryz.ntmps62, List.length_cons, List.length_nil, Nat.reduceAdd, Nat.reduceSub, List.replicate_succ, List.replicate_zero, List.cons_append, List.nil_append, numL]
  refine AWp.seq ?_
  refine AWp.rgn [] (by simp only [go_sem, seval, memEq, clrs, sR_len, sR_pure, sC_eq, bC_eq, bLR_len, bLR_pure]; rfl) ?_ ?_
  · (first | trivial | (simp; done))
  refine AWp.seq ?_
  refine AWp.rgn [callN [] [90] (l12Open_a b)] (by simp only [go_sem, seval, memEq, clrs, sR_len, sR_pure, sC_eq, bC_eq, bLR_len, bLR_pure]; rfl) ?_ ?_
  · (first | trivial | (simp; done))
  refine AWp.seq ?_
  refine AWp.rgn [callN [90] [] L6] (by simp only [go_sem, seval, memEq, clrs, sR_len, sR_pure, sC_eq, bC_eq, bLR_len, bLR_pure]; rfl) ?_ ?_
  · (first | trivial | (simp; done))
  refine AWp.seq ?_
  refine AWp.rgn [] (by simp only [go_sem, seval, memEq, clrs, sR_len, sR_pure, sC_eq, bC_eq, bLR_len, bLR_pure]; rfl) ?_ ?_
  · (first | trivial | (simp; done))
  refine AWp.seq ?_
  refine AWp.seq ?_
  refine AWp.rgn [] (by simp only [go_sem, seval, memEq, clrs, sR_len, sR_pure, sC_eq, bC_eq, bLR_len, bLR_pure]; rfl) ?_ ?_
  · (first | trivial | (simp; done))
  refine AWp.block ?_
  refine AWp.loopK (fun k : Nat => ⟨[.no, .no, .no, .pt 90 2 0 0, .sl false (sR P.1), .ow 60 10 0 k, .i .i64 k, .no, .no, .no, .no, .no, .no, .no, .no, .no, .no, .no, .no, .no, .no, .no, .no, .no, .no, .no, .no, .no, .no, .no, .no, .no, .no, .no, .no], memOf [(90, rdB (b.take 2000) P.2), (60, ⟨64, 10, bLR ((P.1.take k).map bof)⟩)], us [90, 60]⟩) (fun k : Nat => k ≤ P.1.length) (fun k : Nat => P.1.length - k) (0) ?_ ?_ (fun k hI => ?_)
  · simp
  · refine Can.trans (Can.ownSlot 5 60 64 10 (by simp only [go_sem, seval, memEq, clrs, sR_len, sR_pure, sC_eq, bC_eq, bLR_len, bLR_pure] <;> rfl) (by simp only [go_sem, seval, memEq, clrs, sR_len, sR_pure, sC_eq, bC_eq, bLR_len, bLR_pure]) (by simp only [go_sem, seval, memEq, clrs, sR_len, sR_pure, sC_eq, bC_eq, bLR_len, bLR_pure] <;> rfl)) ?_
    exact Can.weak (Weak.lit (by simp only [go_sem, seval, memEq, clrs, sR_len, sR_pure, sC_eq, bC_eq, bLR_len, bLR_pure, subM, leV, inns, innr, V.inn, us, true_or, or_true] <;> (simp)) (by simp only [go_sem, seval, memEq, clrs, sR_len, sR_pure, sC_eq, bC_eq, bLR_len, bLR_pure, subM, leV, inns, innr, V.inn, us, true_or, or_true]) (by simp only [go_sem, seval, memEq, clrs, sR_len, sR_pure, sC_eq, bC_eq, bLR_len, bLR_pure, subM, leV, inns, innr, V.inn, us, true_or, or_true] <;> (simp [bLR])))
  refine AWp.seq ?_
  refine AWp.seq ?_
  refine AWp.rgn [] (by simp only [go_sem, seval, memEq, clrs, sR_len, sR_pure, sC_eq, bC_eq, bLR_len, bLR_pure]; rfl) ?_ ?_
  · (first | trivial | (simp; done))
  refine AWp.condB (by simp only [go_sem, seval, memEq, clrs, sR_len, sR_pure, sC_eq, bC_eq, bLR_len, bLR_pure]; rfl) (by simp only [go_sem, seval, memEq, clrs, sR_len, sR_pure, sC_eq, bC_eq, bLR_len, bLR_pure]) (fun h15 => ?_) (fun h15 => ?_)
  · refine AWp.skip ?_
    refine AWp.seq ?_
    refine AWp.block ?_
    refine AWp.rgn [call0 (l7Of_a (P.1.getD k S0) (allS_of h5 (by simpa using h15)).1 (allS_of h5 (by simpa using h15)).2.1 (allS_of h5 (by simpa using h15)).2.2)] (by simp only [go_sem, seval, memEq, clrs, sR_len, sR_pure, sC_eq, bC_eq, bLR_len, bLR_pure, sR_get (show k < P.1.length by simpa using h15)]; rfl) ?_ ?_
    · simp at h15; simp [fsOk]; omega
    refine AWp.rgn [] (by simp only [go_sem, seval, memEq, clrs, sR_len, sR_pure, sC_eq, bC_eq, bLR_len, bLR_pure]; rfl) ?_ ?_
    · (first | trivial | (simp; done))
    refine Exists.intro (k + 1) ⟨?_, ?_, ?_⟩
    · simp at h15; omega
    · simp at h15; omega
    refine Can.trans (Can.swap 35 60 (by decide) (by decide) (by decide) (by decide) (by simp only [go_sem, seval, memEq, clrs, sR_len, sR_pure, sC_eq, bC_eq, bLR_len, bLR_pure, V.cl]) (by simp only [go_sem, seval, memEq, clrs, sR_len, sR_pure, sC_eq, bC_eq, bLR_len, bLR_pure, V.cl]) (by simp only [go_sem, seval, memEq, clrs, sR_len, sR_pure, sC_eq, bC_eq, bLR_len, bLR_pure, swL_get, sw, swM, rnB] <;> rfl) (by simp only [go_sem, seval, memEq, clrs, sR_len, sR_pure, sC_eq, bC_eq, bLR_len, bLR_pure, swL_get, sw, swM, rnB] <;> rfl) (by simp only [go_sem, seval, memEq, clrs, sR_len, sR_pure, sC_eq, bC_eq, bLR_len, bLR_pure, swL_get, sw, swM, rnB] <;> rfl)) ?_
    exact Can.weak (Weak.lit (by simp only [go_sem, seval, memEq, clrs, sR_len, sR_pure, sC_eq, bC_eq, bLR_len, bLR_pure, subM, leV, inns, innr, V.inn, us, true_or, or_true] <;> (rw [wrap64 (by simp at h15; omega) (by simp at h15; omega)]; simp)) (by simp only [go_sem, seval, memEq, clrs, sR_len, sR_pure, sC_eq, bC_eq, bLR_len, bLR_pure, subM, leV, inns, innr, V.inn, us, true_or, or_true]) (by simp only [go_sem, seval, memEq, clrs, sR_len, sR_pure, sC_eq, bC_eq, bLR_len, bLR_pure, subM, leV, inns, innr, V.inn, us, true_or, or_true] <;> (rw [bLR_map (by simpa using h15)]; simp [bC_eq])))
  · refine AWp.exit ?_
    refine AWp.seqJ (fun u : Unit => ⟨[.no, .no, .no, .no, .no, .ow 60 10 0 (dBR (b.take 2000)).length, .no, .no, .no, .no, .no, .no, .no, .no, .no, .no, .no, .no, .no, .no, .no, .no, .no, .no, .no, .no, .no, .no, .no, .no, .no, .no, .no, .no, .no], memOf [(60, ⟨64, 10, bLR (dBR (b.take 2000))⟩)], us [60]⟩) (fun u : Unit => True) ?_ (fun u hJ => ?_)
    · refine AWp.seq ?_
      refine AWp.rgn [callN [90] [] (pick_a (b.take 2000) P.2 12 hb (by omega) (by omega))] (by simp only [go_sem, seval, memEq, clrs, sR_len, sR_pure, sC_eq, bC_eq, bLR_len, bLR_pure]; rfl) ?_ ?_
      · (first | trivial | (simp; done))
      refine AWp.condB (by simp only [go_sem, seval, memEq, clrs, sR_len, sR_pure, sC_eq, bC_eq, bLR_len, bLR_pure]; rfl) (by simp only [go_sem, seval, memEq, clrs, sR_len, sR_pure, sC_eq, bC_eq, bLR_len, bLR_pure]) (fun h28 => ?_) (fun h28 => ?_)
      · refine AWp.rgn [callN [90] [] (l7Bent_a (b.take 2000) (P.2 + 1) hb (by omega) (by omega))] (by simp only [go_sem, seval, memEq, clrs, sR_len, sR_pure, sC_eq, bC_eq, bLR_len, bLR_pure]; rfl) ?_ ?_
        · simp only [decide_eq_false_iff_not] at h15; simp [fsOk]; omega
        refine Exists.intro (()) ⟨?_, ?_⟩
        · trivial
        refine Can.trans (Can.swap 43 60 (by decide) (by decide) (by decide) (by decide) (by simp only [go_sem, seval, memEq, clrs, sR_len, sR_pure, sC_eq, bC_eq, bLR_len, bLR_pure, V.cl]) (by simp only [go_sem, seval, memEq, clrs, sR_len, sR_pure, sC_eq, bC_eq, bLR_len, bLR_pure, V.cl]) (by simp only [go_sem, seval, memEq, clrs, sR_len, sR_pure, sC_eq, bC_eq, bLR_len, bLR_pure, swL_get, sw, swM, rnB] <;> rfl) (by simp only [go_sem, seval, memEq, clrs, sR_len, sR_pure, sC_eq, bC_eq, bLR_len, bLR_pure, swL_get, sw, swM, rnB] <;> rfl) (by simp only [go_sem, seval, memEq, clrs, sR_len, sR_pure, sC_eq, bC_eq, bLR_len, bLR_pure, swL_get, sw, swM, rnB] <;> rfl)) ?_
        exact Can.weak (Weak.lit (by simp only [go_sem, seval, memEq, clrs, sR_len, sR_pure, sC_eq, bC_eq, bLR_len, bLR_pure, subM, leV, inns, innr, V.inn, us, true_or, or_true] <;> (simp only [decide_eq_false_iff_not] at h15; (obtain rfl : k = P.1.length := (by omega)); rw [hD]; first | (rw [if_pos (by simpa using h28)]; simp; done) | (rw [if_neg (by simpa using h28)]; simp; done))) (by simp only [go_sem, seval, memEq, clrs, sR_len, sR_pure, sC_eq, bC_eq, bLR_len, bLR_pure, subM, leV, inns, innr, V.inn, us, true_or, or_true]) (by simp only [go_sem, seval, memEq, clrs, sR_len, sR_pure, sC_eq, bC_eq, bLR_len, bLR_pure, subM, leV, inns, innr, V.inn, us, true_or, or_true] <;> (simp only [decide_eq_false_iff_not] at h15; (obtain rfl : k = P.1.length := (by omega)); rw [hD]; first | (rw [if_pos (by simpa using h28)]; simp [List.take_of_length_le, bLR_app, bLR_sing, bC_eq]; done) | (rw [if_neg (by simpa using h28)]; simp [List.take_of_length_le]; done))))
      · refine AWp.skip ?_
        refine Exists.intro (()) ⟨?_, ?_⟩
        · trivial
        exact Can.weak (Weak.lit (by simp only [go_sem, seval, memEq, clrs, sR_len, sR_pure, sC_eq, bC_eq, bLR_len, bLR_pure, subM, leV, inns, innr, V.inn, us, true_or, or_true] <;> (simp only [decide_eq_false_iff_not] at h15; (obtain rfl : k = P.1.length := (by omega)); rw [hD]; first | (rw [if_pos (by simpa using h28)]; simp; done) | (rw [if_neg (by simpa using h28)]; simp; done))) (by simp only [go_sem, seval, memEq, clrs, sR_len, sR_pure, sC_eq, bC_eq, bLR_len, bLR_pure, subM, leV, inns, innr, V.inn, us, true_or, or_true]) (by simp only [go_sem, seval, memEq, clrs, sR_len, sR_pure, sC_eq, bC_eq, bLR_len, bLR_pure, subM, leV, inns, innr, V.inn, us, true_or, or_true] <;> (simp only [decide_eq_false_iff_not] at h15; (obtain rfl : k = P.1.length := (by omega)); rw [hD]; first | (rw [if_pos (by simpa using h28)]; simp [List.take_of_length_le, bLR_app, bLR_sing, bC_eq]; done) | (rw [if_neg (by simpa using h28)]; simp [List.take_of_length_le]; done))))
    refine AWp.seq ?_
    refine AWp.rgn [] (by simp only [go_sem, seval, memEq, clrs, sR_len, sR_pure, sC_eq, bC_eq, bLR_len, bLR_pure]; rfl) ?_ ?_
    · (first | trivial | (simp; done))
    refine AWp.frz 60 (by simp only [go_sem, seval, memEq, clrs, sR_len, sR_pure, sC_eq, bC_eq, bLR_len, bLR_pure]; rfl) (by simp only [go_sem, seval, memEq, clrs, sR_len, sR_pure, sC_eq, bC_eq, bLR_len, bLR_pure]) (by simp only [go_sem, seval, memEq, clrs, sR_len, sR_pure, sC_eq, bC_eq, bLR_len, bLR_pure]; rfl) (by simp only [go_sem, seval, memEq, clrs, sR_len, sR_pure, sC_eq, bC_eq, bLR_len, bLR_pure]; rfl) ?_
    refine AWp.ret (And.intro (.inr rfl) ?_)
    exact Out.plain (by simp only [Tryz.results62]; rfl) (by simp only [resCs, resC, go_sem, seval, memEq, clrs, sR_len, sR_pure, sC_eq, bC_eq, bLR_len, bLR_pure] <;> (split <;> rfl)) (by simp only [resV, go_sem, seval, memEq, clrs, sR_len, sR_pure, sC_eq, bC_eq, bLR_len, bLR_pure] <;> (simp [List.take_of_length_le, bLR_len, peel])) (by simp only [go_sem, seval, memEq, clrs, sR_len, sR_pure, sC_eq, bC_eq, bLR_len, bLR_pure])
end
end Go.Proofs.YteihfmnmpdbkiaaGreatDoor
