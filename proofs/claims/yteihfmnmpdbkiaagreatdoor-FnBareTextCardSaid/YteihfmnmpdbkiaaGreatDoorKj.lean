/- Parts of the proof, one after another: What is drawn: expressions. | What is drawn: expressions that are ok, bent. | What is drawn: lines. Conditions: none. -/
import Derived.Test.YteihfmnmpdbkiaaGreatDoorKh
import Derived.Test.YteihfmnmpdbkiaaGreatDoorKi
import Derived.Test.YteihfmnmpdbkiaaGreatDoorKd
set_option linter.unusedVariables false
set_option linter.unusedSimpArgs false
namespace Go.Proofs.YteihfmnmpdbkiaaGreatDoor
section
set_option maxRecDepth 100000
set_option maxHeartbeats 1000000

theorem E.kind_mk (k n : Int) (s : Str) (r : List E) : (E.mk k n s r).kind = k := rfl
theorem E.n_mk (k n : Int) (s : Str) (r : List E) : (E.mk k n s r).n = n := rfl
theorem E.s_mk (k n : Int) (s : Str) (r : List E) : (E.mk k n s r).s = s := rfl
theorem E.kids_mk (k n : Int) (s : Str) (r : List E) : (E.mk k n s r).kids = r := rfl
abbrev rdB (b : Str) (p : Int) : Blk := ⟨147, 2, [[.sl false (byR b), .i .i64 p]]⟩
def lfE (b : Str) (p : Int) : E := if pickI b p 2 = 0 then .mk 1 (numI b (p + 1) [0, 1, 2, 7, 30, 1000000]) [] [] else .mk 2 0 (ofI b (p + 1) [[120], [121], [122], [120]]) []
def dE (b : Str) : Nat → Int → E × Int
  | 0, p => (lfE b p, p + 2)
  | d + 1, p =>
    if d = 0 then (lfE b p, p + 2)
    else if pickI b p 4 = 0 then (lfE b (p + 1), p + 3)
    else if pickI b (p + 1) 4 = 0 then (.mk 4 0 (ofI b (p + 2) [[105, 110, 116], [98, 111, 111, 108], [105, 110, 116]]) [(dE b d (p + 3)).1], (dE b d (p + 3)).2)
    else (.mk 3 0 (ofI b (p + 2) [[43], [45], [42], [60], [43], [42]]) [(dE b d (p + 3)).1, (dE b d (dE b d (p + 3)).2).1], (dE b d (dE b d (p + 3)).2).2)
theorem dE_p (b : Str) : ∀ (d : Nat) (p : Int), p ≤ (dE b d p).2 ∧ (dE b d p).2 ≤ p + 5 * 2 ^ d - 3
  | 0, p => by simp [dE]; omega
  | d + 1, p => by
    have e : (2 : Int) ^ (d + 1) = 2 * 2 ^ d := by rw [Int.pow_succ]; omega
    have e2 : (0 : Int) < 2 ^ d := Int.pow_pos (by decide)
    have h1 := dE_p b d (p + 3)
    have h2 := dE_p b d (dE b d (p + 3)).2
    simp only [dE]
    split
    · dsimp only; omega
    · split
      · dsimp only; omega
      · split <;> dsimp only <;> omega
theorem num_mem {b : Str} {p : Int} {l : List Int} (hl : 0 < l.length) (hp : 0 ≤ p) (hp2 : p < 1099511627776) : numI b p l ∈ l := by
  have := pickI_le b hp hp2 (show 1 ≤ (l.length : Int) by omega)
  exact getD_mem (by omega)
theorem of_mem {b : Str} {p : Int} {l : List Str} (hl : 0 < l.length) (hp : 0 ≤ p) (hp2 : p < 1099511627776) : ofI b p l ∈ l := by
  have := pickI_le b hp hp2 (show 1 ≤ (l.length : Int) by omega)
  exact getD_mem (by omega)
theorem form_num {n : Int} {d : Int} (hd : 1 ≤ d) (h : 0 ≤ n) (h1 : n ≤ 1000000) : form (.mk 1 n [] []) d = true := by simp [form, forms, shape, h, h1, hd]
theorem form_name {s : Str} {d : Int} (hd : 1 ≤ d) (h : isNm s = true) : form (.mk 2 0 s []) d = true := by simp [form, forms, shape, h, hd]
theorem lfE_form (b : Str) (p : Int) (hp : 0 ≤ p) (hp2 : p + 1 < 1099511627776) (d : Int) (hd : 1 ≤ d) : form (lfE b p) d = true ∧ sm (lfE b p) = true ∧ many (lfE b p) d = 1 := by
  unfold lfE
  split
  · have := num_mem (b := b) (l := [0, 1, 2, 7, 30, 1000000]) (by decide) (show 0 ≤ p + 1 by omega) hp2
    simp only [List.mem_cons, List.not_mem_nil, or_false] at this
    refine ⟨form_num hd (by omega) (by omega), by simp [sm, sms], by simp [many, manys]⟩
  · have := of_mem (b := b) (l := [[120], [121], [122], [120]]) (by decide) (show 0 ≤ p + 1 by omega) hp2
    simp only [List.mem_cons, List.not_mem_nil, or_false] at this
    refine ⟨form_name hd ?_, ?_, by simp [many, manys]⟩
    · rcases this with h | h | h | h <;> rw [h] <;> decide
    · rcases this with h | h | h | h <;> rw [h] <;> decide
theorem dE_form (b : Str) : ∀ (d : Nat) (p : Int), 0 ≤ p → p + 5 * 2 ^ (d + 1) < 1099511627776 → form (dE b (d + 1) p).1 ((d + 1 : Nat) : Int) = true ∧ sm (dE b (d + 1) p).1 = true
  | 0, p, hp, hp2 => by simp only [dE]; have := lfE_form b p hp (by omega) 1 (by decide); exact ⟨this.1, this.2.1⟩
  | d + 1, p, hp, hp2 => by
    have e : (2 : Int) ^ (d + 1 + 1) = 2 * 2 ^ (d + 1) := by rw [Int.pow_succ]; omega
    have e2 : (0 : Int) < 2 ^ (d + 1) := Int.pow_pos (by decide)
    have e3 : ((d + 1 + 1 : Nat) : Int) - 1 = ((d + 1 : Nat) : Int) := by omega
    have q1 := dE_p b (d + 1) (p + 3)
    have h1 := dE_form b d (p + 3) (by omega) (by omega)
    have h2 := dE_form b d (dE b (d + 1) (p + 3)).2 (by omega) (by omega)
    have e4 : (decide ((1 : Int) ≤ ((d + 1 + 1 : Nat) : Int))) = true := by simp; omega
    rw [dE, if_neg (by omega)]
    split
    · have := lfE_form b (p + 1) (by omega) (by omega) ((d + 1 + 1 : Nat) : Int) (by omega); exact ⟨this.1, this.2.1⟩
    · split
      · have := of_mem (b := b) (l := [[105, 110, 116], [98, 111, 111, 108], [105, 110, 116]]) (by decide) (show 0 ≤ p + 2 by omega) (by omega)
        simp only [List.mem_cons, List.not_mem_nil, or_false] at this
        have ht : isTyp (ofI b (p + 2) [[105, 110, 116], [98, 111, 111, 108], [105, 110, 116]]) = true := by rcases this with h | h | h <;> rw [h] <;> decide
        have hl := isTyp_len ht
        refine ⟨?_, ?_⟩
        · simp only [form, forms, shape, e3, e4, h1.1, ht]; rfl
        · simp only [sm, sms, h1.2, List.length_cons, List.length_nil, Bool.and_true, Bool.and_eq_true, decide_eq_true_eq]; omega
      · have := of_mem (b := b) (l := [[43], [45], [42], [60], [43], [42]]) (by decide) (show 0 ≤ p + 2 by omega) (by omega)
        simp only [List.mem_cons, List.not_mem_nil, or_false] at this
        have ht : isOp (ofI b (p + 2) [[43], [45], [42], [60], [43], [42]]) = true := by rcases this with h | h | h | h | h | h <;> rw [h] <;> decide
        have hl := isOp_len ht
        refine ⟨?_, ?_⟩
        · simp only [form, forms, shape, e3, e4, h1.1, h2.1, ht]; rfl
        · simp only [sm, sms, h1.2, h2.2, List.length_cons, List.length_nil, Bool.and_true, Bool.and_eq_true, decide_eq_true_eq]; omega
theorem dE_one (b : Str) (p : Int) : dE b 1 p = (lfE b p, p + 2) := by simp [dE]
theorem dE_step (b : Str) (d : Nat) (p : Int) : dE b (d + 1 + 1) p = if pickI b p 4 = 0 then (lfE b (p + 1), p + 3)
    else if pickI b (p + 1) 4 = 0 then (.mk 4 0 (ofI b (p + 2) [[105, 110, 116], [98, 111, 111, 108], [105, 110, 116]]) [(dE b (d + 1) (p + 3)).1], (dE b (d + 1) (p + 3)).2)
    else (.mk 3 0 (ofI b (p + 2) [[43], [45], [42], [60], [43], [42]]) [(dE b (d + 1) (p + 3)).1, (dE b (d + 1) (dE b (d + 1) (p + 3)).2).1], (dE b (d + 1) (dE b (d + 1) (p + 3)).2).2) := by
  rw [dE, if_neg (by omega)]
theorem l4ExprL_a (b : Str) (p deep : Int) (hb : b.length ≤ 2000) (hp : 0 ≤ p) (hp2 : p < 10000000000) (hd : deep ≤ 1) : ACall En 191 [.pt 0 2 0 0, .i .i64 deep] [rdB b p] [.ag (eC (lfE b p))] [rdB b (p + 2)] := by
  have hdd : decide (deep ≤ 1) = true := by simpa using hd
  refine acall_of_body (fn := Tryz.f191) [0] Tryz.func191 rfl rfl (by simp) fun C => ?_
  rw [entry_eq]
  simp only [Tryz.ntmps191, List.length_cons, List.length_nil, Nat.reduceAdd, Nat.reduceSub, List.replicate_succ, List.replicate_zero, List.cons_append, List.nil_append, numL]
  refine AWp.seq ?_
  refine AWp.rgn [] (by simp only [go_sem, seval, hdd, memEq, clrs, inR_nil, inR_cons, strR_nil, strR_cons]; rfl) ?_ ?_
  · (first | trivial | (simp; done))
  refine AWp.seq ?_
  refine AWp.seq ?_
  refine AWp.rgn [callN [0] [] (pick_a b p 4 hb hp (by omega))] (by simp only [go_sem, seval, hdd, memEq, clrs, inR_nil, inR_cons, strR_nil, strR_cons]; rfl) ?_ ?_
  · (first | trivial | (simp; done))
  refine AWp.condB (by simp only [go_sem, seval, hdd, memEq, clrs, inR_nil, inR_cons, strR_nil, strR_cons]; rfl) (by simp only [go_sem, seval, hdd, memEq, clrs, inR_nil, inR_cons, strR_nil, strR_cons]) (fun h11 => ?_) (fun h11 => ?_)
  · refine AWp.seq ?_
    refine AWp.seq ?_
    refine AWp.rgn [callN [0] [] (pick_a b p 2 hb hp (by omega))] (by simp only [go_sem, seval, hdd, memEq, clrs, inR_nil, inR_cons, strR_nil, strR_cons]; rfl) ?_ ?_
    · (first | trivial | (simp; done))
    refine AWp.condB (by simp only [go_sem, seval, hdd, memEq, clrs, inR_nil, inR_cons, strR_nil, strR_cons]; rfl) (by simp only [go_sem, seval, hdd, memEq, clrs, inR_nil, inR_cons, strR_nil, strR_cons]) (fun h14 => ?_) (fun h14 => ?_)
    · refine AWp.seq ?_
      refine AWp.rgn [callN [0] [] (num_a b (p + 1) [0, 1, 2, 7, 30, 1000000] (by decide) hb (by omega) (by omega))] (by simp only [go_sem, seval, hdd, memEq, clrs, inR_nil, inR_cons, strR_nil, strR_cons]; rfl) ?_ ?_
      · (first | trivial | (simp; done))
      refine AWp.ret (And.intro (.inr rfl) ?_)
      exact Out.memL' (by simp only [Tryz.results191]; rfl) (by simp only [resCs, resC, go_sem, seval, hdd, memEq, clrs, inR_nil, inR_cons, strR_nil, strR_cons]) (by simp only [resV, rns, rn, go_sem, seval, hdd, memEq, clrs, inR_nil, inR_cons, strR_nil, strR_cons] <;> (simp at h14; simp [lfE, h14, eC_eq, E.kind_mk, E.n_mk, E.s_mk, E.kids_mk, eR, ler])) (by simp) rfl (by decide) (by simp only [go_sem, seval, hdd, memEq, clrs, inR_nil, inR_cons, strR_nil, strR_cons]) (by simp only [clrs, go_sem, seval, hdd, memEq, clrs, inR_nil, inR_cons, strR_nil, strR_cons]) (by simp only [memEq, go_sem, seval, hdd, memEq, clrs, inR_nil, inR_cons, strR_nil, strR_cons] <;> (rw [show p + 1 + 1 = p + 2 by omega]))
    · refine AWp.skip ?_
      refine AWp.seq ?_
      refine AWp.rgn [callN [0] [] (of_a b (p + 1) [[120], [121], [122], [120]] (by decide) hb (by omega) (by omega))] (by simp only [go_sem, seval, hdd, memEq, clrs, inR_nil, inR_cons, strR_nil, strR_cons]; rfl) ?_ ?_
      · (first | trivial | (simp; done))
      refine AWp.ret (And.intro (.inr rfl) ?_)
      exact Out.memL' (by simp only [Tryz.results191]; rfl) (by simp only [resCs, resC, go_sem, seval, hdd, memEq, clrs, inR_nil, inR_cons, strR_nil, strR_cons]) (by simp only [resV, rns, rn, go_sem, seval, hdd, memEq, clrs, inR_nil, inR_cons, strR_nil, strR_cons] <;> (simp at h14; simp [lfE, h14, eC_eq, E.kind_mk, E.n_mk, E.s_mk, E.kids_mk, eR, ler])) (by simp) rfl (by decide) (by simp only [go_sem, seval, hdd, memEq, clrs, inR_nil, inR_cons, strR_nil, strR_cons]) (by simp only [clrs, go_sem, seval, hdd, memEq, clrs, inR_nil, inR_cons, strR_nil, strR_cons]) (by simp only [memEq, go_sem, seval, hdd, memEq, clrs, inR_nil, inR_cons, strR_nil, strR_cons] <;> (rw [show p + 1 + 1 = p + 2 by omega]))
  · exact absurd h11 (by simp)
theorem l4Expr_a (b : Str) (hb : b.length ≤ 2000) (d : Nat) : ∀ p : Int, 0 ≤ p → p + 5 * 2 ^ (d + 1) < 10000000000 → d < 10 →
    ACall En 191 [.pt 0 2 0 0, .i .i64 ((d + 1 : Nat) : Int)] [rdB b p] [.ag (eC (dE b (d + 1) p).1)] [rdB b (dE b (d + 1) p).2] := by
  induction d with
  | zero => intro p hp hp2 _; rw [dE_one]; exact l4ExprL_a b p _ hb hp (by omega) (by decide)
  | succ d ih =>
  intro p hp hp2 hd10
  have e : (2 : Int) ^ (d + 1 + 1) = 2 * 2 ^ (d + 1) := by rw [Int.pow_succ]; omega
  have e2 : (0 : Int) < 2 ^ (d + 1) := Int.pow_pos (by decide)
  have q1 := dE_p b (d + 1) (p + 3)
  have hdd : decide (((d + 1 + 1 : Nat) : Int) ≤ 1) = false := by simp; omega
  have hw : IntKind.i64.wrap (((d + 1 + 1 : Nat) : Int) - 1) = ((d + 1 : Nat) : Int) := by rw [wrap64 (by omega) (by omega)]; omega
  have A := fun (c1 : ¬ pickI b p 4 = 0) => ih (p + 3) (by omega) (by omega) (by omega)
  have B := fun (c1 : ¬ pickI b p 4 = 0) => ih (dE b (d + 1) (p + 3)).2 (by omega) (by omega) (by omega)
  refine acall_of_body (fn := Tryz.f191) [0] Tryz.func191 rfl rfl (by simp) fun C => ?_
  rw [entry_eq]
  simp only [Tryz.ntmps191, List.length_cons, List.length_nil, Nat.reduceAdd, Nat.reduceSub, List.replicate_succ, List.replicate_zero, List.cons_append, List.nil_append, numL]
  refine AWp.seq ?_
  refine AWp.rgn [] (by simp only [go_sem, seval, hdd, hw, memEq, clrs, inR_nil, inR_cons, strR_nil, strR_cons, show p + 1 + 1 = p + 2 from by omega, show p + 2 + 1 = p + 3 from by omega]; rfl) ?_ ?_
  · (first | trivial | (simp; done))
  refine AWp.seq ?_
  refine AWp.seq ?_
  refine AWp.rgn [callN [0] [] (pick_a b p 4 hb hp (by omega))] (by simp only [go_sem, seval, hdd, hw, memEq, clrs, inR_nil, inR_cons, strR_nil, strR_cons, show p + 1 + 1 = p + 2 from by omega, show p + 2 + 1 = p + 3 from by omega]; rfl) ?_ ?_
  · (first | trivial | (simp; done))
  refine AWp.condB (by simp only [go_sem, seval, hdd, hw, memEq, clrs, inR_nil, inR_cons, strR_nil, strR_cons, show p + 1 + 1 = p + 2 from by omega, show p + 2 + 1 = p + 3 from by omega]; rfl) (by simp only [go_sem, seval, hdd, hw, memEq, clrs, inR_nil, inR_cons, strR_nil, strR_cons, show p + 1 + 1 = p + 2 from by omega, show p + 2 + 1 = p + 3 from by omega]) (fun h11 => ?_) (fun h11 => ?_)
  · refine AWp.seq ?_
    refine AWp.seq ?_
    refine AWp.rgn [callN [0] [] (pick_a b (p + 1) 2 hb (by omega) (by omega))] (by simp only [go_sem, seval, hdd, hw, memEq, clrs, inR_nil, inR_cons, strR_nil, strR_cons, show p + 1 + 1 = p + 2 from by omega, show p + 2 + 1 = p + 3 from by omega]; rfl) ?_ ?_
    · (first | trivial | (simp; done))
    refine AWp.condB (by simp only [go_sem, seval, hdd, hw, memEq, clrs, inR_nil, inR_cons, strR_nil, strR_cons, show p + 1 + 1 = p + 2 from by omega, show p + 2 + 1 = p + 3 from by omega]; rfl) (by simp only [go_sem, seval, hdd, hw, memEq, clrs, inR_nil, inR_cons, strR_nil, strR_cons, show p + 1 + 1 = p + 2 from by omega, show p + 2 + 1 = p + 3 from by omega]) (fun h14 => ?_) (fun h14 => ?_)
    · refine AWp.seq ?_
      refine AWp.rgn [callN [0] [] (num_a b (p + 1 + 1) [0, 1, 2, 7, 30, 1000000] (by decide) hb (by omega) (by omega))] (by simp only [go_sem, seval, hdd, hw, memEq, clrs, inR_nil, inR_cons, strR_nil, strR_cons, show p + 1 + 1 = p + 2 from by omega, show p + 2 + 1 = p + 3 from by omega]; rfl) ?_ ?_
      · (first | trivial | (simp; done))
      refine AWp.ret (And.intro (.inr rfl) ?_)
      exact Out.memL' (by simp only [Tryz.results191]; rfl) (by simp only [resCs, resC, go_sem, seval, hdd, hw, memEq, clrs, inR_nil, inR_cons, strR_nil, strR_cons, show p + 1 + 1 = p + 2 from by omega, show p + 2 + 1 = p + 3 from by omega]) (by simp only [resV, rns, rn, go_sem, seval, hdd, hw, memEq, clrs, inR_nil, inR_cons, strR_nil, strR_cons, show p + 1 + 1 = p + 2 from by omega, show p + 2 + 1 = p + 3 from by omega] <;> (simp at h11 h14; simp [dE_step, lfE, h11, h14, eC_eq, E.kind_mk, E.n_mk, E.s_mk, E.kids_mk, eR, ler, les, leV, ler_refl, show p + 1 + 1 = p + 2 by omega])) (by simp) rfl (by decide) (by simp only [go_sem, seval, hdd, hw, memEq, clrs, inR_nil, inR_cons, strR_nil, strR_cons, show p + 1 + 1 = p + 2 from by omega, show p + 2 + 1 = p + 3 from by omega]) (by simp only [clrs, go_sem, seval, hdd, hw, memEq, clrs, inR_nil, inR_cons, strR_nil, strR_cons, show p + 1 + 1 = p + 2 from by omega, show p + 2 + 1 = p + 3 from by omega]) (by simp only [memEq, go_sem, seval, hdd, hw, memEq, clrs, inR_nil, inR_cons, strR_nil, strR_cons, show p + 1 + 1 = p + 2 from by omega, show p + 2 + 1 = p + 3 from by omega] <;> (simp at h11; simp [dE_step, h11]))
    · refine AWp.skip ?_
      refine AWp.seq ?_
      refine AWp.rgn [callN [0] [] (of_a b (p + 1 + 1) [[120], [121], [122], [120]] (by decide) hb (by omega) (by omega))] (by simp only [go_sem, seval, hdd, hw, memEq, clrs, inR_nil, inR_cons, strR_nil, strR_cons, show p + 1 + 1 = p + 2 from by omega, show p + 2 + 1 = p + 3 from by omega]; rfl) ?_ ?_
      · (first | trivial | (simp; done))
      refine AWp.ret (And.intro (.inr rfl) ?_)
      exact Out.memL' (by simp only [Tryz.results191]; rfl) (by simp only [resCs, resC, go_sem, seval, hdd, hw, memEq, clrs, inR_nil, inR_cons, strR_nil, strR_cons, show p + 1 + 1 = p + 2 from by omega, show p + 2 + 1 = p + 3 from by omega]) (by simp only [resV, rns, rn, go_sem, seval, hdd, hw, memEq, clrs, inR_nil, inR_cons, strR_nil, strR_cons, show p + 1 + 1 = p + 2 from by omega, show p + 2 + 1 = p + 3 from by omega] <;> (simp at h11 h14; simp [dE_step, lfE, h11, h14, eC_eq, E.kind_mk, E.n_mk, E.s_mk, E.kids_mk, eR, ler, les, leV, ler_refl, show p + 1 + 1 = p + 2 by omega])) (by simp) rfl (by decide) (by simp only [go_sem, seval, hdd, hw, memEq, clrs, inR_nil, inR_cons, strR_nil, strR_cons, show p + 1 + 1 = p + 2 from by omega, show p + 2 + 1 = p + 3 from by omega]) (by simp only [clrs, go_sem, seval, hdd, hw, memEq, clrs, inR_nil, inR_cons, strR_nil, strR_cons, show p + 1 + 1 = p + 2 from by omega, show p + 2 + 1 = p + 3 from by omega]) (by simp only [memEq, go_sem, seval, hdd, hw, memEq, clrs, inR_nil, inR_cons, strR_nil, strR_cons, show p + 1 + 1 = p + 2 from by omega, show p + 2 + 1 = p + 3 from by omega] <;> (simp at h11; simp [dE_step, h11]))
  · refine AWp.skip ?_
    refine AWp.seq ?_
    refine AWp.seq ?_
    refine AWp.rgn [callN [0] [] (pick_a b (p + 1) 4 hb (by omega) (by omega))] (by simp only [go_sem, seval, hdd, hw, memEq, clrs, inR_nil, inR_cons, strR_nil, strR_cons, show p + 1 + 1 = p + 2 from by omega, show p + 2 + 1 = p + 3 from by omega]; rfl) ?_ ?_
    · (first | trivial | (simp; done))
    refine AWp.condB (by simp only [go_sem, seval, hdd, hw, memEq, clrs, inR_nil, inR_cons, strR_nil, strR_cons, show p + 1 + 1 = p + 2 from by omega, show p + 2 + 1 = p + 3 from by omega]; rfl) (by simp only [go_sem, seval, hdd, hw, memEq, clrs, inR_nil, inR_cons, strR_nil, strR_cons, show p + 1 + 1 = p + 2 from by omega, show p + 2 + 1 = p + 3 from by omega]) (fun h25 => ?_) (fun h25 => ?_)
    · refine AWp.seq ?_
      refine AWp.rgn [callN [0] [] (of_a b (p + 1 + 1) [[105, 110, 116], [98, 111, 111, 108], [105, 110, 116]] (by decide) hb (by omega) (by omega)), callN [0] [] (A (by simpa using h11))] (by simp only [go_sem, seval, hdd, hw, memEq, clrs, inR_nil, inR_cons, strR_nil, strR_cons, show p + 1 + 1 = p + 2 from by omega, show p + 2 + 1 = p + 3 from by omega]; rfl) ?_ ?_
      · (first | trivial | (simp; done))
      refine AWp.ret (And.intro (.inr rfl) ?_)
      exact Out.memL' (by simp only [Tryz.results191]; rfl) (by simp only [resCs, resC, go_sem, seval, hdd, hw, memEq, clrs, inR_nil, inR_cons, strR_nil, strR_cons, show p + 1 + 1 = p + 2 from by omega, show p + 2 + 1 = p + 3 from by omega]) (by simp only [resV, rns, rn, go_sem, seval, hdd, hw, memEq, clrs, inR_nil, inR_cons, strR_nil, strR_cons, show p + 1 + 1 = p + 2 from by omega, show p + 2 + 1 = p + 3 from by omega] <;> (simp at h11 h25; simp [dE_step, h11, h25, eC_eq, E.kind_mk, E.n_mk, E.s_mk, E.kids_mk, eR, ler, les, leV, ler_refl, show p + 1 + 1 = p + 2 by omega])) (by simp) rfl (by decide) (by simp only [go_sem, seval, hdd, hw, memEq, clrs, inR_nil, inR_cons, strR_nil, strR_cons, show p + 1 + 1 = p + 2 from by omega, show p + 2 + 1 = p + 3 from by omega]) (by simp only [clrs, go_sem, seval, hdd, hw, memEq, clrs, inR_nil, inR_cons, strR_nil, strR_cons, show p + 1 + 1 = p + 2 from by omega, show p + 2 + 1 = p + 3 from by omega]) (by simp only [memEq, go_sem, seval, hdd, hw, memEq, clrs, inR_nil, inR_cons, strR_nil, strR_cons, show p + 1 + 1 = p + 2 from by omega, show p + 2 + 1 = p + 3 from by omega] <;> (simp at h11 h25; simp [dE_step, h11, h25]))
    · refine AWp.skip ?_
      refine AWp.seq ?_
      refine AWp.rgn [callN [0] [] (of_a b (p + 1 + 1) [[43], [45], [42], [60], [43], [42]] (by decide) hb (by omega) (by omega)), callN [0] [] (A (by simpa using h11)), callN [0] [] (B (by simpa using h11))] (by simp only [go_sem, seval, hdd, hw, memEq, clrs, inR_nil, inR_cons, strR_nil, strR_cons, show p + 1 + 1 = p + 2 from by omega, show p + 2 + 1 = p + 3 from by omega]; rfl) ?_ ?_
      · (first | trivial | (simp; done))
      refine AWp.ret (And.intro (.inr rfl) ?_)
      exact Out.memL' (by simp only [Tryz.results191]; rfl) (by simp only [resCs, resC, go_sem, seval, hdd, hw, memEq, clrs, inR_nil, inR_cons, strR_nil, strR_cons, show p + 1 + 1 = p + 2 from by omega, show p + 2 + 1 = p + 3 from by omega]) (by simp only [resV, rns, rn, go_sem, seval, hdd, hw, memEq, clrs, inR_nil, inR_cons, strR_nil, strR_cons, show p + 1 + 1 = p + 2 from by omega, show p + 2 + 1 = p + 3 from by omega] <;> (simp at h11 h25; simp [dE_step, h11, h25, eC_eq, E.kind_mk, E.n_mk, E.s_mk, E.kids_mk, eR, ler, les, leV, ler_refl, show p + 1 + 1 = p + 2 by omega])) (by simp) rfl (by decide) (by simp only [go_sem, seval, hdd, hw, memEq, clrs, inR_nil, inR_cons, strR_nil, strR_cons, show p + 1 + 1 = p + 2 from by omega, show p + 2 + 1 = p + 3 from by omega]) (by simp only [clrs, go_sem, seval, hdd, hw, memEq, clrs, inR_nil, inR_cons, strR_nil, strR_cons, show p + 1 + 1 = p + 2 from by omega, show p + 2 + 1 = p + 3 from by omega]) (by simp only [memEq, go_sem, seval, hdd, hw, memEq, clrs, inR_nil, inR_cons, strR_nil, strR_cons, show p + 1 + 1 = p + 2 from by omega, show p + 2 + 1 = p + 3 from by omega] <;> (simp at h11 h25; simp [dE_step, h11, h25]))
end

section
set_option maxRecDepth 100000
set_option maxHeartbeats 1000000

theorem eok_2 {e : E} (h : form e ((2 : Nat) : Int) = true) : eok e = true := by
  have h1 := form_mono e 2 3 h
  have h2 := (many_le e 2 h).2
  have h3 : (2 : Int) ^ 2 - 1 = 3 := by decide
  have e5 : ((2 + 3 : Nat) : Int) = 5 := by decide
  rw [e5] at h1
  simp only [eok, Bool.and_eq_true, decide_eq_true_eq]
  refine ⟨h1.1, ?_⟩
  rw [h1.2]
  have : (2 : Int) ^ (2 : Nat) = 4 := by decide
  omega
def dS0 (b : Str) (p : Int) : E × Int := dE b ((pickI b p 4).toNat + 1) (p + 1)
def dSome (b : Str) (p : Int) : E × Int := if eok (dS0 b p).1 then dS0 b p else dE b 2 (dS0 b p).2
theorem dS0_p (b : Str) {p : Int} (hp : 0 ≤ p) (hp2 : p < 1000000000) : p ≤ (dS0 b p).2 ∧ (dS0 b p).2 ≤ p + 100 ∧ sm (dS0 b p).1 = true ∧ (pickI b p 4).toNat < 4 := by
  have h1 := pickI_le b hp (by omega) (show (1 : Int) ≤ 4 by decide)
  have h2 : (pickI b p 4).toNat < 4 := by omega
  have h3 := dE_p b ((pickI b p 4).toNat + 1) (p + 1)
  have h4 : ∀ k : Nat, k < 4 → (5 : Int) * 2 ^ (k + 1) ≤ 80 := by decide
  have h5 := h4 _ h2
  unfold dS0
  exact ⟨by omega, by omega, (dE_form b _ (p + 1) (by omega) (by omega)).2, h2⟩
theorem dSome_p (b : Str) {p : Int} (hp : 0 ≤ p) (hp2 : p < 1000000000) : p ≤ (dSome b p).2 ∧ (dSome b p).2 ≤ p + 200 ∧ sm (dSome b p).1 = true ∧ eok (dSome b p).1 = true := by
  obtain ⟨h1, h2, h3, _⟩ := dS0_p b hp hp2
  unfold dSome
  split
  · rename_i h; exact ⟨h1, by omega, h3, h⟩
  · have h4 := dE_p b 2 (dS0 b p).2
    have h5 := dE_form b 1 (dS0 b p).2 (by omega) (by omega)
    have h6 : (5 : Int) * 2 ^ 2 = 20 := by decide
    exact ⟨by omega, by omega, h5.2, eok_2 h5.1⟩
theorem l4Some_a (b : Str) (p : Int) (hb : b.length ≤ 2000) (hp : 0 ≤ p) (hp2 : p < 1000000000) : ACall En 190 [.pt 0 2 0 0] [rdB b p] [.ag (eC (dSome b p).1)] [rdB b (dSome b p).2] := by
  obtain ⟨h1, h2, h3, h4⟩ := dS0_p b hp hp2
  have hk : ∀ k : Nat, k < 4 → (5 : Int) * 2 ^ (k + 1) ≤ 80 := by decide
  have hr := pickI_le b hp (by omega) (show (1 : Int) ≤ 4 by decide)
  have hw : IntKind.i64.wrap (1 + pickI b p 4) = (((pickI b p 4).toNat + 1 : Nat) : Int) := by rw [wrap64 (by omega) (by omega)]; omega
  have A := l4Expr_a b hb (pickI b p 4).toNat (p + 1) (by omega) (by have := hk _ h4; omega) (by omega)
  have A2 := l4Expr_a b hb 1 (dS0 b p).2 (by omega) (by have : (5 : Int) * 2 ^ (1 + 1) = 20 := (by decide); omega) (by decide)
  rw [show ((1 + 1 : Nat) : Int) = 2 from rfl, show 1 + 1 = 2 from rfl] at A2
  rw [show dE b ((pickI b p 4).toNat + 1) (p + 1) = dS0 b p from rfl] at A
  refine acall_of_body (fn := Tryz.f190) [0] Tryz.func190 rfl rfl (by simp) fun C => ?_
  rw [entry_eq]
  simp only [Tryz.ntmps190, List.length_cons, List.length_nil, Nat.reduceAdd, Nat.reduceSub, List.replicate_succ, List.replicate_zero, List.cons_append, List.nil_append, numL]
  refine AWp.seq ?_
  refine AWp.rgn [] (by simp only [go_sem, seval, hw, memEq, clrs]; rfl) ?_ ?_
  · (first | trivial | (simp; done))
  refine AWp.seq ?_
  refine AWp.rgn [callN [0] [] (pick_a b p 4 hb hp (by omega)), callN [0] [] A] (by simp only [go_sem, seval, hw, memEq, clrs]; rfl) ?_ ?_
  · (first | trivial | (simp; done))
  refine AWp.seq ?_
  refine AWp.seq ?_
  refine AWp.rgn [call0 (sExprOk_a (dS0 b p).1 h3)] (by simp only [go_sem, seval, hw, memEq, clrs]; rfl) ?_ ?_
  · (first | trivial | (simp; done))
  refine AWp.condB (by simp only [go_sem, seval, hw, memEq, clrs]; rfl) (by simp only [go_sem, seval, hw, memEq, clrs]) (fun h11 => ?_) (fun h11 => ?_)
  · refine AWp.seq ?_
    refine AWp.rgn [callN [0] [] A2] (by simp only [go_sem, seval, hw, memEq, clrs]; rfl) ?_ ?_
    · (first | trivial | (simp; done))
    refine AWp.ret (And.intro (.inr rfl) ?_)
    exact Out.mem' (by simp only [Tryz.results190]; rfl) (by simp only [resCs, resC, go_sem, seval, hw, memEq, clrs]) (by simp only [resV, rns, rn, go_sem, seval, hw, memEq, clrs] <;> (simp at h11; simp [dSome, h11, eC_eq])) (by simp) rfl (by decide) (by simp only [go_sem, seval, hw, memEq, clrs]) (by simp only [clrs, go_sem, seval, hw, memEq, clrs]) (by simp only [memEq, go_sem, seval, hw, memEq, clrs] <;> (simp at h11; simp [dSome, h11]))
  · refine AWp.skip ?_
    refine AWp.seq ?_
    refine AWp.rgn [] (by simp only [go_sem, seval, hw, memEq, clrs]; rfl) ?_ ?_
    · (first | trivial | (simp; done))
    refine AWp.ret (And.intro (.inr rfl) ?_)
    exact Out.mem' (by simp only [Tryz.results190]; rfl) (by simp only [resCs, resC, go_sem, seval, hw, memEq, clrs]) (by simp only [resV, rns, rn, go_sem, seval, hw, memEq, clrs] <;> (simp at h11; simp [dSome, h11, eC_eq])) (by simp) rfl (by decide) (by simp only [go_sem, seval, hw, memEq, clrs]) (by simp only [clrs, go_sem, seval, hw, memEq, clrs]) (by simp only [memEq, go_sem, seval, hw, memEq, clrs] <;> (simp at h11; simp [dSome, h11]))
def asN : Nat → E → E
  | 0, e => e
  | k + 1, e => .mk 4 0 [105, 110, 116] [asN k e]
theorem asN_sm {e : E} (h : sm e = true) : ∀ k, sm (asN k e) = true
  | 0 => h
  | k + 1 => by simp only [asN, sm, sms, asN_sm h k]; simp
def bentE (b : Str) (q k : Int) (e : E) : E :=
  if k = 0 then .mk (numI b q [0, 5, 3, 4]) e.n e.s e.kids
  else if k = 1 then .mk e.kind (numI b q [1, -1, 1000001]) e.s e.kids
  else if k = 2 then .mk e.kind e.n (ofI b q [[108, 101, 116], [88], [60], [105, 110, 116], [120]]) e.kids
  else if k = 3 then asN 5 e
  else e
def bentP (q k : Int) : Int := if k = 0 ∨ k = 1 ∨ k = 2 then q + 1 else q
def dBent (b : Str) (p : Int) : E × Int := (bentE b ((dSome b p).2 + 1) (pickI b (dSome b p).2 48) (dSome b p).1, bentP ((dSome b p).2 + 1) (pickI b (dSome b p).2 48))
theorem dBent_p (b : Str) {p : Int} (hp : 0 ≤ p) (hp2 : p < 1000000000) : p ≤ (dBent b p).2 ∧ (dBent b p).2 ≤ p + 300 ∧ sm (dBent b p).1 = true := by
  obtain ⟨h1, h2, h3, h4⟩ := dSome_p b hp hp2
  have hs := sm_open h3
  have hk := sm_kids h3
  refine ⟨by simp only [dBent, bentP]; split <;> omega, by simp only [dBent, bentP]; split <;> omega, ?_⟩
  simp only [dBent, bentE]
  split
  · simp only [sm, Bool.and_eq_true, decide_eq_true_eq]; exact ⟨⟨hs.1, hk⟩, hs.2.2⟩
  · split
    · simp only [sm, Bool.and_eq_true, decide_eq_true_eq]; exact ⟨⟨hs.1, hk⟩, hs.2.2⟩
    · split
      · have := of_mem (b := b) (p := (dSome b p).2 + 1) (l := [[108, 101, 116], [88], [60], [105, 110, 116], [120]]) (by decide) (by omega) (by omega)
        simp only [List.mem_cons, List.not_mem_nil, or_false] at this
        simp only [sm, Bool.and_eq_true, decide_eq_true_eq]
        refine ⟨⟨?_, hk⟩, hs.2.2⟩
        rcases this with h | h | h | h | h <;> rw [h] <;> decide
      · split
        · exact asN_sm h3 5
        · exact h3
theorem l4Bent_a (b : Str) (p : Int) (hb : b.length ≤ 2000) (hp : 0 ≤ p) (hp2 : p < 1000000000) : ACall En 148 [.pt 0 2 0 0] [rdB b p] [.ag (eC (dBent b p).1)] [rdB b (dBent b p).2] := by
  obtain ⟨h1, h2, h3, _⟩ := dSome_p b hp hp2
  refine acall_of_body (fn := Tryz.f148) [0] Tryz.func148 rfl rfl (by simp) fun C => ?_
  rw [entry_eq]
  simp only [Tryz.ntmps148, List.length_cons, List.length_nil, Nat.reduceAdd, Nat.reduceSub, List.replicate_succ, List.replicate_zero, List.cons_append, List.nil_append, numL]
  refine AWp.seq ?_
  refine AWp.rgn [] (by simp only [go_sem, seval, memEq, clrs, inR_nil, inR_cons, strR_nil, strR_cons]; rfl) ?_ ?_
  · (first | trivial | (simp; done))
  refine AWp.seq ?_
  refine AWp.rgn [callN [0] [] (l4Some_a b p hb hp hp2)] (by simp only [go_sem, seval, memEq, clrs, inR_nil, inR_cons, strR_nil, strR_cons]; rfl) ?_ ?_
  · (first | trivial | (simp; done))
  refine AWp.seqJ (fun u : Unit => ⟨[.no, .no, .pt 12 4 0 0, .pt 13 4 0 0, .no, .no, .no, .no, .no, .no, .no, .no, .no, .no, .no, .no, .no, .no, .no, .no, .no, .no, .no, .no, .no, .no, .no, .no, .no, .no, .no, .no, .no, .no, .no, .no, .no], memOf [(0, rdB b (dBent b p).2), (12, ⟨30, 4, [[.i .i64 0, .i .i64 0, .s [], .sl true []]]⟩), (13, ⟨30, 4, [eC (dBent b p).1]⟩)], us [12, 13]⟩) (fun u : Unit => True) ?_ (fun u hJ => ?_)
  · refine AWp.seq ?_
    refine AWp.rgn [callN [0] [] (pick_a b (dSome b p).2 48 hb (by omega) (by omega))] (by simp only [go_sem, seval, memEq, clrs, inR_nil, inR_cons, strR_nil, strR_cons]; rfl) ?_ ?_
    · (first | trivial | (simp; done))
    refine AWp.block ?_
    refine AWp.seq ?_
    refine AWp.rgn [] (by simp only [go_sem, seval, memEq, clrs, inR_nil, inR_cons, strR_nil, strR_cons]; rfl) ?_ ?_
    · (first | trivial | (simp; done))
    refine AWp.condB (by simp only [go_sem, seval, memEq, clrs, inR_nil, inR_cons, strR_nil, strR_cons]; rfl) (by simp only [go_sem, seval, memEq, clrs, inR_nil, inR_cons, strR_nil, strR_cons]) (fun h9 => ?_) (fun h9 => ?_)
    · refine AWp.rgn [callN [0] [] (num_a b ((dSome b p).2 + 1) [0, 5, 3, 4] (by decide) hb (by omega) (by omega))] (by simp only [go_sem, seval, memEq, clrs, inR_nil, inR_cons, strR_nil, strR_cons]; rfl) ?_ ?_
      · (first | trivial | (simp; done))
      refine Exists.intro (()) ⟨?_, ?_⟩
      · trivial
      exact Can.weak (Weak.lit (by simp only [go_sem, seval, memEq, clrs, inR_nil, inR_cons, strR_nil, strR_cons, subM, leV, inns, innr, V.inn, us, true_or, or_true] <;> (simp)) (by simp only [go_sem, seval, memEq, clrs, inR_nil, inR_cons, strR_nil, strR_cons, subM, leV, inns, innr, V.inn, us, true_or, or_true]) (by simp only [go_sem, seval, memEq, clrs, inR_nil, inR_cons, strR_nil, strR_cons, subM, leV, inns, innr, V.inn, us, true_or, or_true] <;> ((try (have := hI); try (have hk5 : k = 5 := by simp at h30; omega); try subst hk5); simp_all [dBent, bentE, bentP, E.kind_mk, E.n_mk, E.s_mk, E.kids_mk]; done)))
    · refine AWp.seq ?_
      refine AWp.rgn [] (by simp only [go_sem, seval, memEq, clrs, inR_nil, inR_cons, strR_nil, strR_cons]; rfl) ?_ ?_
      · (first | trivial | (simp; done))
      refine AWp.condB (by simp only [go_sem, seval, memEq, clrs, inR_nil, inR_cons, strR_nil, strR_cons]; rfl) (by simp only [go_sem, seval, memEq, clrs, inR_nil, inR_cons, strR_nil, strR_cons]) (fun h15 => ?_) (fun h15 => ?_)
      · refine AWp.rgn [callN [0] [] (num_a b ((dSome b p).2 + 1) [1, -1, 1000001] (by decide) hb (by omega) (by omega))] (by simp only [go_sem, seval, memEq, clrs, inR_nil, inR_cons, strR_nil, strR_cons]; rfl) ?_ ?_
        · (first | trivial | (simp; done))
        refine Exists.intro (()) ⟨?_, ?_⟩
        · trivial
        exact Can.weak (Weak.lit (by simp only [go_sem, seval, memEq, clrs, inR_nil, inR_cons, strR_nil, strR_cons, subM, leV, inns, innr, V.inn, us, true_or, or_true] <;> (simp)) (by simp only [go_sem, seval, memEq, clrs, inR_nil, inR_cons, strR_nil, strR_cons, subM, leV, inns, innr, V.inn, us, true_or, or_true]) (by simp only [go_sem, seval, memEq, clrs, inR_nil, inR_cons, strR_nil, strR_cons, subM, leV, inns, innr, V.inn, us, true_or, or_true] <;> ((try (have := hI); try (have hk5 : k = 5 := by simp at h30; omega); try subst hk5); simp_all [dBent, bentE, bentP, E.kind_mk, E.n_mk, E.s_mk, E.kids_mk]; done)))
      · refine AWp.seq ?_
        refine AWp.rgn [] (by simp only [go_sem, seval, memEq, clrs, inR_nil, inR_cons, strR_nil, strR_cons]; rfl) ?_ ?_
        · (first | trivial | (simp; done))
        refine AWp.condB (by simp only [go_sem, seval, memEq, clrs, inR_nil, inR_cons, strR_nil, strR_cons]; rfl) (by simp only [go_sem, seval, memEq, clrs, inR_nil, inR_cons, strR_nil, strR_cons]) (fun h21 => ?_) (fun h21 => ?_)
        · refine AWp.rgn [callN [0] [] (of_a b ((dSome b p).2 + 1) [[108, 101, 116], [88], [60], [105, 110, 116], [120]] (by decide) hb (by omega) (by omega))] (by simp only [go_sem, seval, memEq, clrs, inR_nil, inR_cons, strR_nil, strR_cons]; rfl) ?_ ?_
          · (first | trivial | (simp; done))
          refine Exists.intro (()) ⟨?_, ?_⟩
          · trivial
          exact Can.weak (Weak.lit (by simp only [go_sem, seval, memEq, clrs, inR_nil, inR_cons, strR_nil, strR_cons, subM, leV, inns, innr, V.inn, us, true_or, or_true] <;> (simp)) (by simp only [go_sem, seval, memEq, clrs, inR_nil, inR_cons, strR_nil, strR_cons, subM, leV, inns, innr, V.inn, us, true_or, or_true]) (by simp only [go_sem, seval, memEq, clrs, inR_nil, inR_cons, strR_nil, strR_cons, subM, leV, inns, innr, V.inn, us, true_or, or_true] <;> ((try (have := hI); try (have hk5 : k = 5 := by simp at h30; omega); try subst hk5); simp_all [dBent, bentE, bentP, E.kind_mk, E.n_mk, E.s_mk, E.kids_mk]; done)))
        · refine AWp.seq ?_
          refine AWp.rgn [] (by simp only [go_sem, seval, memEq, clrs, inR_nil, inR_cons, strR_nil, strR_cons]; rfl) ?_ ?_
          · (first | trivial | (simp; done))
          refine AWp.condB (by simp only [go_sem, seval, memEq, clrs, inR_nil, inR_cons, strR_nil, strR_cons]; rfl) (by simp only [go_sem, seval, memEq, clrs, inR_nil, inR_cons, strR_nil, strR_cons]) (fun h27 => ?_) (fun h27 => ?_)
          · refine AWp.seq ?_
            refine AWp.rgn [] (by simp only [go_sem, seval, memEq, clrs, inR_nil, inR_cons, strR_nil, strR_cons]; rfl) ?_ ?_
            · (first | trivial | (simp; done))
            refine AWp.block ?_
            refine AWp.loopK (fun k : Nat => ⟨[.no, .no, .pt 12 4 0 0, .pt 13 4 0 0, .i .i64 k, .no, .no, .no, .no, .no, .no, .no, .no, .no, .no, .no, .no, .no, .no, .no, .no, .no, .no, .no, .no, .no, .no, .no, .no, .no, .no, .no, .no, .no, .no, .no, .no], memOf [(0, rdB b ((dSome b p).2 + 1)), (12, ⟨30, 4, [[.i .i64 0, .i .i64 0, .s [], .sl true []]]⟩), (13, ⟨30, 4, [eC (asN k (dSome b p).1)]⟩)], us [12, 13]⟩) (fun k : Nat => k ≤ 5) (fun k : Nat => 5 - k) (0) ?_ ?_ (fun k hI => ?_)
            · simp
            · exact Can.weak (Weak.lit (by simp only [go_sem, seval, memEq, clrs, inR_nil, inR_cons, strR_nil, strR_cons, subM, leV, inns, innr, V.inn, us, true_or, or_true] <;> (rfl)) (by simp only [go_sem, seval, memEq, clrs, inR_nil, inR_cons, strR_nil, strR_cons, subM, leV, inns, innr, V.inn, us, true_or, or_true]) (by simp only [go_sem, seval, memEq, clrs, inR_nil, inR_cons, strR_nil, strR_cons, subM, leV, inns, innr, V.inn, us, true_or, or_true] <;> (simp [asN])))
            refine AWp.seq ?_
            refine AWp.seq ?_
            refine AWp.rgn [] (by simp only [go_sem, seval, memEq, clrs, inR_nil, inR_cons, strR_nil, strR_cons]; rfl) ?_ ?_
            · (first | trivial | (simp; done))
            refine AWp.condB (by simp only [go_sem, seval, memEq, clrs, inR_nil, inR_cons, strR_nil, strR_cons]; rfl) (by simp only [go_sem, seval, memEq, clrs, inR_nil, inR_cons, strR_nil, strR_cons]) (fun h30 => ?_) (fun h30 => ?_)
            · refine AWp.skip ?_
              refine AWp.seq ?_
              refine AWp.block ?_
              refine AWp.rgn [] (by simp only [go_sem, seval, memEq, clrs, inR_nil, inR_cons, strR_nil, strR_cons]; rfl) ?_ ?_
              · (first | trivial | (simp; done))
              refine AWp.rgn [] (by simp only [go_sem, seval, memEq, clrs, inR_nil, inR_cons, strR_nil, strR_cons]; rfl) ?_ ?_
              · (first | trivial | (simp; done))
              refine Exists.intro (k + 1) ⟨?_, ?_, ?_⟩
              · simp at h30; omega
              · simp at h30; omega
              refine Can.trans (Can.leAt 13 ([[.i .i64 4, .i .i64 0, .s [105, 110, 116], .sl false [eC (asN k (dSome b p).1)]]]) (by simp only [go_sem, seval, memEq, clrs, inR_nil, inR_cons, strR_nil, strR_cons] <;> rfl) (by simp only [go_sem, seval, memEq, clrs, inR_nil, inR_cons, strR_nil, strR_cons, ler, les, leV] <;> (first | trivial | simp)) (by simp only [go_sem, seval, memEq, clrs, inR_nil, inR_cons, strR_nil, strR_cons] <;> rfl)) ?_
              exact Can.weak (Weak.lit (by simp only [go_sem, seval, memEq, clrs, inR_nil, inR_cons, strR_nil, strR_cons, subM, leV, inns, innr, V.inn, us, true_or, or_true] <;> (rw [wrap64 (by simp at h30; omega) (by simp at h30; omega)]; simp)) (by simp only [go_sem, seval, memEq, clrs, inR_nil, inR_cons, strR_nil, strR_cons, subM, leV, inns, innr, V.inn, us, true_or, or_true]) (by simp only [go_sem, seval, memEq, clrs, inR_nil, inR_cons, strR_nil, strR_cons, subM, leV, inns, innr, V.inn, us, true_or, or_true] <;> (simp [asN, E.kind_mk, E.n_mk, E.s_mk, E.kids_mk, eR, eC_eq])))
            · refine AWp.exit ?_
              refine Exists.intro (()) ⟨?_, ?_⟩
              · trivial
              exact Can.weak (Weak.lit (by simp only [go_sem, seval, memEq, clrs, inR_nil, inR_cons, strR_nil, strR_cons, subM, leV, inns, innr, V.inn, us, true_or, or_true] <;> (simp)) (by simp only [go_sem, seval, memEq, clrs, inR_nil, inR_cons, strR_nil, strR_cons, subM, leV, inns, innr, V.inn, us, true_or, or_true]) (by simp only [go_sem, seval, memEq, clrs, inR_nil, inR_cons, strR_nil, strR_cons, subM, leV, inns, innr, V.inn, us, true_or, or_true] <;> ((try (have := hI); try (have hk5 : k = 5 := by simp at h30; omega); try subst hk5); simp_all [dBent, bentE, bentP, E.kind_mk, E.n_mk, E.s_mk, E.kids_mk]; done)))
          · refine AWp.skip ?_
            refine Exists.intro (()) ⟨?_, ?_⟩
            · trivial
            exact Can.weak (Weak.lit (by simp only [go_sem, seval, memEq, clrs, inR_nil, inR_cons, strR_nil, strR_cons, subM, leV, inns, innr, V.inn, us, true_or, or_true] <;> (simp)) (by simp only [go_sem, seval, memEq, clrs, inR_nil, inR_cons, strR_nil, strR_cons, subM, leV, inns, innr, V.inn, us, true_or, or_true]) (by simp only [go_sem, seval, memEq, clrs, inR_nil, inR_cons, strR_nil, strR_cons, subM, leV, inns, innr, V.inn, us, true_or, or_true] <;> ((try (have := hI); try (have hk5 : k = 5 := by simp at h30; omega); try subst hk5); simp_all [dBent, bentE, bentP, E.kind_mk, E.n_mk, E.s_mk, E.kids_mk]; done)))
  refine AWp.seq ?_
  refine AWp.rgn [] (by simp only [go_sem, seval, memEq, clrs, inR_nil, inR_cons, strR_nil, strR_cons]; rfl) ?_ ?_
  · (first | trivial | (simp; done))
  refine AWp.ret (And.intro (.inr rfl) ?_)
  exact Out.mem' (by simp only [Tryz.results148]; rfl) (by simp only [resCs, resC, go_sem, seval, memEq, clrs, inR_nil, inR_cons, strR_nil, strR_cons]) (by simp only [resV, rns, rn, go_sem, seval, memEq, clrs, inR_nil, inR_cons, strR_nil, strR_cons] <;> (simp [eC_eq])) (by simp) rfl (by decide) (by simp only [go_sem, seval, memEq, clrs, inR_nil, inR_cons, strR_nil, strR_cons]) (by simp only [clrs, go_sem, seval, memEq, clrs, inR_nil, inR_cons, strR_nil, strR_cons]) (by simp only [memEq, go_sem, seval, memEq, clrs, inR_nil, inR_cons, strR_nil, strR_cons] <;> (simp))
end

section
set_option maxRecDepth 100000
set_option maxHeartbeats 1000000

def sC (s : Sl) : List V := .i .i64 s.kind :: .s s.name :: .s s.type :: (eC s.expr ++ eC s.thn)
theorem sC_eq (s : Sl) : sC s = [.i .i64 s.kind, .s s.name, .s s.type, .i .i64 s.expr.kind, .i .i64 s.expr.n, .s s.expr.s, .sl false (eR s.expr.kids), .i .i64 s.thn.kind, .i .i64 s.thn.n, .s s.thn.s, .sl false (eR s.thn.kids)] := by
  simp only [sC, eC_eq]; rfl
def sms' (s : Sl) : Bool := decide (s.name.length < 4611686018427387904) && decide (s.type.length < 4611686018427387904) && sm s.expr && sm s.thn
theorem sms_open {s : Sl} (h : sms' s = true) : s.name.length < 4611686018427387904 ∧ s.type.length < 4611686018427387904 ∧ sm s.expr = true ∧ sm s.thn = true := by
  simp only [sms', Bool.and_eq_true, decide_eq_true_eq] at h; exact ⟨h.1.1.1, h.1.1.2, h.1.2, h.2⟩
def d5 (b : Str) (p k : Int) : Sl × Int :=
  if k = 0 then (S0, (dSome b p).2)
  else if k = 1 then (⟨1, ofI b (dSome b p).2 [[120], [121], [122]], ofI b ((dSome b p).2 + 1) [[105, 110, 116], [105, 110, 116], [98, 111, 111, 108]], (dSome b p).1, E0⟩, (dSome b p).2 + 2)
  else if k = 3 then (⟨3, [], [], (dSome b p).1, (dE b 2 (dSome b p).2).1⟩, (dE b 2 (dSome b p).2).2)
  else (⟨k, [], [], (dSome b p).1, E0⟩, (dSome b p).2)
def d5Some (b : Str) (p : Int) : Sl × Int := d5 b (p + 1) (numI b p [1, 1, 2, 2, 3, 3, 0])
theorem E0_k : E0.kind = 0 := rfl
theorem E0_n : E0.n = 0 := rfl
theorem E0_s : E0.s = [] := rfl
theorem E0_kids : E0.kids = [] := rfl
theorem eR_nil : eR [] = [] := by simp only [eR]
theorem wf_E0 : wf E0 = true := by decide
theorem sm_E0 : sm E0 = true := by decide
theorem of_len {b : Str} {p : Int} {l : List Str} (hl : 0 < l.length) (hp : 0 ≤ p) (hp2 : p < 1099511627776) (k : Nat) (h : ∀ s ∈ l, s.length ≤ k) : (ofI b p l).length ≤ k := h _ (of_mem hl hp hp2)
theorem d5Some_p (b : Str) {p : Int} (hp : 0 ≤ p) (hp2 : p < 100000000) : p ≤ (d5Some b p).2 ∧ (d5Some b p).2 ≤ p + 300 ∧ sms' (d5Some b p).1 = true ∧ wf (d5Some b p).1.expr = true ∧ wf (d5Some b p).1.thn = true ∧ ((d5Some b p).1.kind = 0 ∨ (d5Some b p).1.kind = 1 ∨ (d5Some b p).1.kind = 2 ∨ (d5Some b p).1.kind = 3) := by
  obtain ⟨h1, h2, h3, h4⟩ := dSome_p b (p := p + 1) (by omega) (by omega)
  have hk := num_mem (b := b) (p := p) (l := [1, 1, 2, 2, 3, 3, 0]) (by decide) hp (by omega)
  have h5 := dE_p b 2 (dSome b (p + 1)).2
  have h6 := dE_form b 1 (dSome b (p + 1)).2 (by omega) (by omega)
  have h7 : (5 : Int) * 2 ^ 2 = 20 := by decide
  have l1 := of_len (b := b) (p := (dSome b (p + 1)).2) (l := [[120], [121], [122]]) (by decide) (by omega) (by omega) 4 (by decide)
  have l2 := of_len (b := b) (p := (dSome b (p + 1)).2 + 1) (l := [[105, 110, 116], [105, 110, 116], [98, 111, 111, 108]]) (by decide) (by omega) (by omega) 4 (by decide)
  simp only [List.mem_cons, List.not_mem_nil, or_false] at hk
  unfold d5Some
  generalize numI b p [1, 1, 2, 2, 3, 3, 0] = k at hk
  unfold d5
  split
  · refine ⟨by dsimp only; omega, by dsimp only; omega, show sms' S0 = true by decide, wf_E0, wf_E0, .inl rfl⟩
  · split
    · refine ⟨by dsimp only; omega, by dsimp only; omega, ?_, eok_wf h4, wf_E0, .inr (.inl rfl)⟩
      simp only [sms', h3, sm_E0, Bool.and_true, Bool.and_eq_true, decide_eq_true_eq]; omega
    · split
      · exact ⟨by dsimp only; omega, by dsimp only; omega, by simp only [sms', h3, h6.2, List.length_nil]; rfl, eok_wf h4, form_wf _ _ h6.1, .inr (.inr (.inr rfl))⟩
      · exact ⟨by dsimp only; omega, by dsimp only; omega, by simp only [sms', h3, sm_E0, List.length_nil]; rfl, eok_wf h4, wf_E0, by dsimp only; omega⟩
theorem l5Some_a (b : Str) (p : Int) (hb : b.length ≤ 2000) (hp : 0 ≤ p) (hp2 : p < 100000000) : ACall En 146 [.pt 0 2 0 0] [rdB b p] [.ag (sC (d5Some b p).1)] [rdB b (d5Some b p).2] := by
  obtain ⟨h1, h2, h3, h4⟩ := dSome_p b (p := p + 1) (by omega) (by omega)
  have A2 := l4Expr_a b hb 1 (dSome b (p + 1)).2 (by omega) (by have : (5 : Int) * 2 ^ (1 + 1) = 20 := (by decide); omega) (by decide)
  rw [show ((1 + 1 : Nat) : Int) = 2 from rfl, show 1 + 1 = 2 from rfl] at A2
  refine acall_of_body (fn := Tryz.f146) [0] Tryz.func146 rfl rfl (by simp) fun C => ?_
  rw [entry_eq]
  simp only [Tryz.ntmps146, List.length_cons, List.length_nil, Nat.reduceAdd, Nat.reduceSub, List.replicate_succ, List.replicate_zero, List.cons_append, List.nil_append, numL]
  refine AWp.seq ?_
  refine AWp.rgn [] (by simp only [go_sem, seval, memEq, clrs, inR_nil, inR_cons, strR_nil, strR_cons, sC_eq]; rfl) ?_ ?_
  · (first | trivial | (simp; done))
  refine AWp.seq ?_
  refine AWp.rgn [callN [0] [] (num_a b p [1, 1, 2, 2, 3, 3, 0] (by decide) hb (by omega) (by omega)), callN [0] [] (l4Some_a b (p + 1) hb (by omega) (by omega))] (by simp only [go_sem, seval, memEq, clrs, inR_nil, inR_cons, strR_nil, strR_cons, sC_eq]; rfl) ?_ ?_
  · (first | trivial | (simp; done))
  refine AWp.seq ?_
  refine AWp.seq ?_
  refine AWp.rgn [] (by simp only [go_sem, seval, memEq, clrs, inR_nil, inR_cons, strR_nil, strR_cons, sC_eq]; rfl) ?_ ?_
  · (first | trivial | (simp; done))
  refine AWp.block ?_
  refine AWp.seq ?_
  refine AWp.rgn [] (by simp only [go_sem, seval, memEq, clrs, inR_nil, inR_cons, strR_nil, strR_cons, sC_eq]; rfl) ?_ ?_
  · (first | trivial | (simp; done))
  refine AWp.condB (by simp only [go_sem, seval, memEq, clrs, inR_nil, inR_cons, strR_nil, strR_cons, sC_eq]; rfl) (by simp only [go_sem, seval, memEq, clrs, inR_nil, inR_cons, strR_nil, strR_cons, sC_eq]) (fun h12 => ?_) (fun h12 => ?_)
  · refine AWp.seq ?_
    refine AWp.rgn [] (by simp only [go_sem, seval, memEq, clrs, inR_nil, inR_cons, strR_nil, strR_cons, sC_eq]; rfl) ?_ ?_
    · (first | trivial | (simp; done))
    refine AWp.ret (And.intro (.inr rfl) ?_)
    exact Out.memL' (by simp only [Tryz.results146]; rfl) (by simp only [resCs, resC, go_sem, seval, memEq, clrs, inR_nil, inR_cons, strR_nil, strR_cons, sC_eq]) (by simp only [resV, rns, rn, go_sem, seval, memEq, clrs, inR_nil, inR_cons, strR_nil, strR_cons, sC_eq] <;> (simp at h12; simp [d5Some, d5, h12, sC_eq, S0, E0_k, E0_n, E0_s, E0_kids, eR_nil, ler])) (by simp) rfl (by decide) (by simp only [go_sem, seval, memEq, clrs, inR_nil, inR_cons, strR_nil, strR_cons, sC_eq]) (by simp only [clrs, go_sem, seval, memEq, clrs, inR_nil, inR_cons, strR_nil, strR_cons, sC_eq]) (by simp only [memEq, go_sem, seval, memEq, clrs, inR_nil, inR_cons, strR_nil, strR_cons, sC_eq] <;> (simp at h12; simp [d5Some, d5, h12]))
  · refine AWp.seq ?_
    refine AWp.rgn [] (by simp only [go_sem, seval, memEq, clrs, inR_nil, inR_cons, strR_nil, strR_cons, sC_eq]; rfl) ?_ ?_
    · (first | trivial | (simp; done))
    refine AWp.condB (by simp only [go_sem, seval, memEq, clrs, inR_nil, inR_cons, strR_nil, strR_cons, sC_eq]; rfl) (by simp only [go_sem, seval, memEq, clrs, inR_nil, inR_cons, strR_nil, strR_cons, sC_eq]) (fun h15 => ?_) (fun h15 => ?_)
    · refine AWp.seq ?_
      refine AWp.rgn [callN [0] [] (of_a b (dSome b (p + 1)).2 [[120], [121], [122]] (by decide) hb (by omega) (by omega))] (by simp only [go_sem, seval, memEq, clrs, inR_nil, inR_cons, strR_nil, strR_cons, sC_eq]; rfl) ?_ ?_
      · (first | trivial | (simp; done))
      refine AWp.rgn [callN [0] [] (of_a b ((dSome b (p + 1)).2 + 1) [[105, 110, 116], [105, 110, 116], [98, 111, 111, 108]] (by decide) hb (by omega) (by omega))] (by simp only [go_sem, seval, memEq, clrs, inR_nil, inR_cons, strR_nil, strR_cons, sC_eq]; rfl) ?_ ?_
      · (first | trivial | (simp; done))
      refine AWp.seq ?_
      refine AWp.rgn [] (by simp only [go_sem, seval, memEq, clrs, inR_nil, inR_cons, strR_nil, strR_cons, sC_eq]; rfl) ?_ ?_
      · (first | trivial | (simp; done))
      refine AWp.ret (And.intro (.inr rfl) ?_)
      exact Out.memL' (by simp only [Tryz.results146]; rfl) (by simp only [resCs, resC, go_sem, seval, memEq, clrs, inR_nil, inR_cons, strR_nil, strR_cons, sC_eq]) (by simp only [resV, rns, rn, go_sem, seval, memEq, clrs, inR_nil, inR_cons, strR_nil, strR_cons, sC_eq] <;> (simp at h12 h15; simp [d5Some, d5, h12, h15, sC_eq, E0_k, E0_n, E0_s, E0_kids, eR_nil, ler, ler_refl])) (by simp) rfl (by decide) (by simp only [go_sem, seval, memEq, clrs, inR_nil, inR_cons, strR_nil, strR_cons, sC_eq]) (by simp only [clrs, go_sem, seval, memEq, clrs, inR_nil, inR_cons, strR_nil, strR_cons, sC_eq]) (by simp only [memEq, go_sem, seval, memEq, clrs, inR_nil, inR_cons, strR_nil, strR_cons, sC_eq] <;> (simp at h12 h15; simp [d5Some, d5, h12, h15]; omega))
    · refine AWp.seq ?_
      refine AWp.rgn [] (by simp only [go_sem, seval, memEq, clrs, inR_nil, inR_cons, strR_nil, strR_cons, sC_eq]; rfl) ?_ ?_
      · (first | trivial | (simp; done))
      refine AWp.condB (by simp only [go_sem, seval, memEq, clrs, inR_nil, inR_cons, strR_nil, strR_cons, sC_eq]; rfl) (by simp only [go_sem, seval, memEq, clrs, inR_nil, inR_cons, strR_nil, strR_cons, sC_eq]) (fun h25 => ?_) (fun h25 => ?_)
      · refine AWp.rgn [callN [0] [] A2] (by simp only [go_sem, seval, memEq, clrs, inR_nil, inR_cons, strR_nil, strR_cons, sC_eq]; rfl) ?_ ?_
        · (first | trivial | (simp; done))
        refine AWp.seq ?_
        refine AWp.rgn [] (by simp only [go_sem, seval, memEq, clrs, inR_nil, inR_cons, strR_nil, strR_cons, sC_eq]; rfl) ?_ ?_
        · (first | trivial | (simp; done))
        refine AWp.ret (And.intro (.inr rfl) ?_)
        exact Out.memL' (by simp only [Tryz.results146]; rfl) (by simp only [resCs, resC, go_sem, seval, memEq, clrs, inR_nil, inR_cons, strR_nil, strR_cons, sC_eq]) (by simp only [resV, rns, rn, go_sem, seval, memEq, clrs, inR_nil, inR_cons, strR_nil, strR_cons, sC_eq] <;> (simp at h12 h15 h25; simp [d5Some, d5, h12, h15, h25, sC_eq, E0_k, E0_n, E0_s, E0_kids, eR_nil, ler, ler_refl])) (by simp) rfl (by decide) (by simp only [go_sem, seval, memEq, clrs, inR_nil, inR_cons, strR_nil, strR_cons, sC_eq]) (by simp only [clrs, go_sem, seval, memEq, clrs, inR_nil, inR_cons, strR_nil, strR_cons, sC_eq]) (by simp only [memEq, go_sem, seval, memEq, clrs, inR_nil, inR_cons, strR_nil, strR_cons, sC_eq] <;> (simp at h12 h15 h25; simp [d5Some, d5, h12, h15, h25]))
      · refine AWp.skip ?_
        refine AWp.seq ?_
        refine AWp.rgn [] (by simp only [go_sem, seval, memEq, clrs, inR_nil, inR_cons, strR_nil, strR_cons, sC_eq]; rfl) ?_ ?_
        · (first | trivial | (simp; done))
        refine AWp.ret (And.intro (.inr rfl) ?_)
        exact Out.memL' (by simp only [Tryz.results146]; rfl) (by simp only [resCs, resC, go_sem, seval, memEq, clrs, inR_nil, inR_cons, strR_nil, strR_cons, sC_eq]) (by simp only [resV, rns, rn, go_sem, seval, memEq, clrs, inR_nil, inR_cons, strR_nil, strR_cons, sC_eq] <;> (simp at h12 h15 h25; simp [d5Some, d5, h12, h15, h25, sC_eq, E0_k, E0_n, E0_s, E0_kids, eR_nil, ler, ler_refl])) (by simp) rfl (by decide) (by simp only [go_sem, seval, memEq, clrs, inR_nil, inR_cons, strR_nil, strR_cons, sC_eq]) (by simp only [clrs, go_sem, seval, memEq, clrs, inR_nil, inR_cons, strR_nil, strR_cons, sC_eq]) (by simp only [memEq, go_sem, seval, memEq, clrs, inR_nil, inR_cons, strR_nil, strR_cons, sC_eq] <;> (simp at h12 h15 h25; simp [d5Some, d5, h12, h15, h25]))
theorem l7Of_a (s : Sl) (hs : sms' s = true) (w1 : wf s.expr = true) (w2 : wf s.thn = true) : ACall En 130 [.ag (sC s)] [] [.ag (bC (bof s))] [] := by
  obtain ⟨s1, s2, s3, s4⟩ := sms_open hs
  refine acall_of_body (fn := Tryz.f130) [] Tryz.func130 rfl rfl (by simp) fun C => ?_
  rw [entry_eq]
  simp only [Tryz.ntmps130, List.length_cons, List.length_nil, Nat.reduceAdd, Nat.reduceSub, List.replicate_succ, List.replicate_zero, List.cons_append, List.nil_append, numL]
  refine AWp.seq ?_
  refine AWp.rgn [] (by simp only [go_sem, seval, sC_eq, bC_eq]; rfl) ?_ ?_
  · (first | trivial | (simp; done))
  refine AWp.seq ?_
  refine AWp.rgn [] (by simp only [go_sem, seval, sC_eq, bC_eq]; rfl) ?_ ?_
  · (first | trivial | (simp; done))
  refine AWp.seq ?_
  refine AWp.seq ?_
  refine AWp.rgn [] (by simp only [go_sem, seval, sC_eq, bC_eq]; rfl) ?_ ?_
  · (first | trivial | (simp; done))
  refine AWp.condB (by simp only [go_sem, seval, sC_eq, bC_eq]; rfl) (by simp only [go_sem, seval, sC_eq, bC_eq]) (fun h11 => ?_) (fun h11 => ?_)
  · refine AWp.rgn [call0 (l4Bare_a s.expr w1 s3)] (by simp only [go_sem, seval, sC_eq, bC_eq]; rfl) ?_ ?_
    · (first | trivial | (simp; done))
    refine AWp.seq ?_
    refine AWp.seq ?_
    refine AWp.rgn [] (by simp only [go_sem, seval, sC_eq, bC_eq]; rfl) ?_ ?_
    · (first | trivial | (simp; done))
    refine AWp.condB (by simp only [go_sem, seval, sC_eq, bC_eq]; rfl) (by simp only [go_sem, seval, sC_eq, bC_eq]) (fun h18 => ?_) (fun h18 => ?_)
    · refine AWp.rgn [call0 (l4Bare_a s.thn w2 s4)] (by simp only [go_sem, seval, sC_eq, bC_eq]; rfl) ?_ ?_
      · (first | trivial | (simp; done))
      refine AWp.seq ?_
      refine AWp.rgn [] (by simp only [go_sem, seval, sC_eq, bC_eq]; rfl) ?_ ?_
      · (first | trivial | (simp; done))
      refine AWp.ret (And.intro (.inr rfl) ?_)
      exact Out.plainL (by simp only [Tryz.results130]; rfl) (by simp only [resCs, resC, go_sem, seval, sC_eq, bC_eq] <;> (split <;> rfl)) (by simp only [resV, go_sem, seval, sC_eq, bC_eq] <;> (simp at h11 h18; simp [bof, h11, h18, bC_eq, E0_k, E0_n, E0_s, E0_kids, eR_nil, ler, ler_refl])) (by simp only [go_sem, seval, sC_eq, bC_eq])
    · refine AWp.skip ?_
      refine AWp.seq ?_
      refine AWp.rgn [] (by simp only [go_sem, seval, sC_eq, bC_eq]; rfl) ?_ ?_
      · (first | trivial | (simp; done))
      refine AWp.ret (And.intro (.inr rfl) ?_)
      exact Out.plainL (by simp only [Tryz.results130]; rfl) (by simp only [resCs, resC, go_sem, seval, sC_eq, bC_eq] <;> (split <;> rfl)) (by simp only [resV, go_sem, seval, sC_eq, bC_eq] <;> (simp at h11 h18; simp [bof, h11, h18, bC_eq, E0_k, E0_n, E0_s, E0_kids, eR_nil, ler, ler_refl])) (by simp only [go_sem, seval, sC_eq, bC_eq])
  · refine AWp.skip ?_
    refine AWp.seq ?_
    refine AWp.seq ?_
    refine AWp.rgn [] (by simp only [go_sem, seval, sC_eq, bC_eq]; rfl) ?_ ?_
    · (first | trivial | (simp; done))
    refine AWp.condB (by simp only [go_sem, seval, sC_eq, bC_eq]; rfl) (by simp only [go_sem, seval, sC_eq, bC_eq]) (fun h18 => ?_) (fun h18 => ?_)
    · refine AWp.rgn [call0 (l4Bare_a s.thn w2 s4)] (by simp only [go_sem, seval, sC_eq, bC_eq]; rfl) ?_ ?_
      · (first | trivial | (simp; done))
      refine AWp.seq ?_
      refine AWp.rgn [] (by simp only [go_sem, seval, sC_eq, bC_eq]; rfl) ?_ ?_
      · (first | trivial | (simp; done))
      refine AWp.ret (And.intro (.inr rfl) ?_)
      exact Out.plainL (by simp only [Tryz.results130]; rfl) (by simp only [resCs, resC, go_sem, seval, sC_eq, bC_eq] <;> (split <;> rfl)) (by simp only [resV, go_sem, seval, sC_eq, bC_eq] <;> (simp at h11 h18; omega)) (by simp only [go_sem, seval, sC_eq, bC_eq])
    · refine AWp.skip ?_
      refine AWp.seq ?_
      refine AWp.rgn [] (by simp only [go_sem, seval, sC_eq, bC_eq]; rfl) ?_ ?_
      · (first | trivial | (simp; done))
      refine AWp.ret (And.intro (.inr rfl) ?_)
      exact Out.plainL (by simp only [Tryz.results130]; rfl) (by simp only [resCs, resC, go_sem, seval, sC_eq, bC_eq] <;> (split <;> rfl)) (by simp only [resV, go_sem, seval, sC_eq, bC_eq] <;> (simp at h11 h18; simp [bof, h11, h18, bC_eq, E0_k, E0_n, E0_s, E0_kids, eR_nil, ler, ler_refl])) (by simp only [go_sem, seval, sC_eq, bC_eq])
def bentB (b : Str) (q k : Int) (x : Bl) : Bl × Int :=
  if k = 0 then ({ x with kind := numI b q [0, 4, 1, 2, 3] }, q + 1)
  else if k = 1 then ({ x with name := ofI b q [[120], [112, 114, 105, 110, 116], [88], []] }, q + 1)
  else if k = 2 then ({ x with expr := (dBent b q).1 }, (dBent b q).2)
  else if k = 3 then ({ x with thn := (dBent b q).1 }, (dBent b q).2)
  else (x, q)
def d7 (b : Str) (p : Int) : Bl × Int := bentB b ((d5Some b p).2 + 1) (pickI b (d5Some b p).2 40) (bof (d5Some b p).1)
theorem smb_bof {s : Sl} (h : sms' s = true) : smb (bof s) = true := by
  obtain ⟨s1, s2, s3, s4⟩ := sms_open h
  unfold smb bof
  simp only [s1, decide_true, Bool.true_and]
  split <;> split <;> simp [sm_bare, s3, s4, sm_E0]
theorem d7_p (b : Str) {p : Int} (hp : 0 ≤ p) (hp2 : p < 100000000) : p ≤ (d7 b p).2 ∧ (d7 b p).2 ≤ p + 700 ∧ smb (d7 b p).1 = true := by
  obtain ⟨h1, h2, h3, _⟩ := d5Some_p b hp hp2
  have hs := smb_bof h3
  obtain ⟨s1, s2, s3⟩ := smb_open hs
  obtain ⟨q1, q2, q3⟩ := dBent_p b (p := (d5Some b p).2 + 1) (by omega) (by omega)
  have l1 := of_len (b := b) (p := (d5Some b p).2 + 1) (l := [[120], [112, 114, 105, 110, 116], [88], []]) (by decide) (by omega) (by omega) 5 (by decide)
  unfold d7 bentB
  split
  · exact ⟨by dsimp only; omega, by dsimp only; omega, hs⟩
  · split
    · refine ⟨by dsimp only; omega, by dsimp only; omega, ?_⟩
      simp only [smb, s2, s3, Bool.and_true, decide_eq_true_eq]; omega
    · split
      · exact ⟨by dsimp only; omega, by dsimp only; omega, by simp only [smb, s1, q3, s3, decide_true, Bool.and_self]⟩
      · split
        · exact ⟨by dsimp only; omega, by dsimp only; omega, by simp only [smb, s1, s2, q3, decide_true, Bool.and_self]⟩
        · exact ⟨by dsimp only; omega, by dsimp only; omega, hs⟩
theorem l7Bent_a (b : Str) (p : Int) (hb : b.length ≤ 2000) (hp : 0 ≤ p) (hp2 : p < 100000000) : ACall En 108 [.pt 0 2 0 0] [rdB b p] [.ag (bC (d7 b p).1)] [rdB b (d7 b p).2] := by
  obtain ⟨h1, h2, h3, w1, w2, _⟩ := d5Some_p b hp hp2
  refine acall_of_body (fn := Tryz.f108) [0] Tryz.func108 rfl rfl (by simp) fun C => ?_
  rw [entry_eq]
  simp only [Tryz.ntmps108, List.length_cons, List.length_nil, Nat.reduceAdd, Nat.reduceSub, List.replicate_succ, List.replicate_zero, List.cons_append, List.nil_append, numL]
  refine AWp.seq ?_
  refine AWp.rgn [] (by simp only [go_sem, seval, memEq, clrs, inR_nil, inR_cons, strR_nil, strR_cons, sC_eq, bC_eq]; rfl) ?_ ?_
  · (first | trivial | (simp; done))
  refine AWp.seq ?_
  refine AWp.rgn [callN [0] [] (l5Some_a b p hb hp hp2), call0 (l7Of_a (d5Some b p).1 h3 w1 w2)] (by simp only [go_sem, seval, memEq, clrs, inR_nil, inR_cons, strR_nil, strR_cons, sC_eq, bC_eq]; rfl) ?_ ?_
  · (first | trivial | (simp; done))
  refine AWp.seq ?_
  refine AWp.seq ?_
  refine AWp.rgn [callN [0] [] (pick_a b (d5Some b p).2 40 hb (by omega) (by omega))] (by simp only [go_sem, seval, memEq, clrs, inR_nil, inR_cons, strR_nil, strR_cons, sC_eq, bC_eq]; rfl) ?_ ?_
  · (first | trivial | (simp; done))
  refine AWp.block ?_
  refine AWp.seq ?_
  refine AWp.rgn [] (by simp only [go_sem, seval, memEq, clrs, inR_nil, inR_cons, strR_nil, strR_cons, sC_eq, bC_eq]; rfl) ?_ ?_
  · (first | trivial | (simp; done))
  refine AWp.condB (by simp only [go_sem, seval, memEq, clrs, inR_nil, inR_cons, strR_nil, strR_cons, sC_eq, bC_eq]; rfl) (by simp only [go_sem, seval, memEq, clrs, inR_nil, inR_cons, strR_nil, strR_cons, sC_eq, bC_eq]) (fun h9 => ?_) (fun h9 => ?_)
  · refine AWp.rgn [callN [0] [] (num_a b ((d5Some b p).2 + 1) [0, 4, 1, 2, 3] (by decide) hb (by omega) (by omega))] (by simp only [go_sem, seval, memEq, clrs, inR_nil, inR_cons, strR_nil, strR_cons, sC_eq, bC_eq]; rfl) ?_ ?_
    · (first | trivial | (simp; done))
    refine AWp.seq ?_
    refine AWp.rgn [] (by simp only [go_sem, seval, memEq, clrs, inR_nil, inR_cons, strR_nil, strR_cons, sC_eq, bC_eq]; rfl) ?_ ?_
    · (first | trivial | (simp; done))
    refine AWp.ret (And.intro (.inr rfl) ?_)
    exact Out.mem' (by simp only [Tryz.results108]; rfl) (by simp only [resCs, resC, go_sem, seval, memEq, clrs, inR_nil, inR_cons, strR_nil, strR_cons, sC_eq, bC_eq]) (by simp only [resV, rns, rn, go_sem, seval, memEq, clrs, inR_nil, inR_cons, strR_nil, strR_cons, sC_eq, bC_eq] <;> (simp at h9; simp [d7, bentB, h9])) (by simp) rfl (by decide) (by simp only [go_sem, seval, memEq, clrs, inR_nil, inR_cons, strR_nil, strR_cons, sC_eq, bC_eq]) (by simp only [clrs, go_sem, seval, memEq, clrs, inR_nil, inR_cons, strR_nil, strR_cons, sC_eq, bC_eq]) (by simp only [memEq, go_sem, seval, memEq, clrs, inR_nil, inR_cons, strR_nil, strR_cons, sC_eq, bC_eq] <;> (simp at h9; simp [d7, bentB, h9]))
  · refine AWp.seq ?_
    refine AWp.rgn [] (by simp only [go_sem, seval, memEq, clrs, inR_nil, inR_cons, strR_nil, strR_cons, sC_eq, bC_eq]; rfl) ?_ ?_
    · (first | trivial | (simp; done))
    refine AWp.condB (by simp only [go_sem, seval, memEq, clrs, inR_nil, inR_cons, strR_nil, strR_cons, sC_eq, bC_eq]; rfl) (by simp only [go_sem, seval, memEq, clrs, inR_nil, inR_cons, strR_nil, strR_cons, sC_eq, bC_eq]) (fun h15 => ?_) (fun h15 => ?_)
    · refine AWp.rgn [callN [0] [] (of_a b ((d5Some b p).2 + 1) [[120], [112, 114, 105, 110, 116], [88], []] (by decide) hb (by omega) (by omega))] (by simp only [go_sem, seval, memEq, clrs, inR_nil, inR_cons, strR_nil, strR_cons, sC_eq, bC_eq]; rfl) ?_ ?_
      · (first | trivial | (simp; done))
      refine AWp.seq ?_
      refine AWp.rgn [] (by simp only [go_sem, seval, memEq, clrs, inR_nil, inR_cons, strR_nil, strR_cons, sC_eq, bC_eq]; rfl) ?_ ?_
      · (first | trivial | (simp; done))
      refine AWp.ret (And.intro (.inr rfl) ?_)
      exact Out.mem' (by simp only [Tryz.results108]; rfl) (by simp only [resCs, resC, go_sem, seval, memEq, clrs, inR_nil, inR_cons, strR_nil, strR_cons, sC_eq, bC_eq]) (by simp only [resV, rns, rn, go_sem, seval, memEq, clrs, inR_nil, inR_cons, strR_nil, strR_cons, sC_eq, bC_eq] <;> (simp at h9 h15; simp [d7, bentB, h9, h15])) (by simp) rfl (by decide) (by simp only [go_sem, seval, memEq, clrs, inR_nil, inR_cons, strR_nil, strR_cons, sC_eq, bC_eq]) (by simp only [clrs, go_sem, seval, memEq, clrs, inR_nil, inR_cons, strR_nil, strR_cons, sC_eq, bC_eq]) (by simp only [memEq, go_sem, seval, memEq, clrs, inR_nil, inR_cons, strR_nil, strR_cons, sC_eq, bC_eq] <;> (simp at h9 h15; simp [d7, bentB, h9, h15]))
    · refine AWp.seq ?_
      refine AWp.rgn [] (by simp only [go_sem, seval, memEq, clrs, inR_nil, inR_cons, strR_nil, strR_cons, sC_eq, bC_eq]; rfl) ?_ ?_
      · (first | trivial | (simp; done))
      refine AWp.condB (by simp only [go_sem, seval, memEq, clrs, inR_nil, inR_cons, strR_nil, strR_cons, sC_eq, bC_eq]; rfl) (by simp only [go_sem, seval, memEq, clrs, inR_nil, inR_cons, strR_nil, strR_cons, sC_eq, bC_eq]) (fun h21 => ?_) (fun h21 => ?_)
      · refine AWp.rgn [callN [0] [] (l4Bent_a b ((d5Some b p).2 + 1) hb (by omega) (by omega))] (by simp only [go_sem, seval, memEq, clrs, inR_nil, inR_cons, strR_nil, strR_cons, sC_eq, bC_eq]; rfl) ?_ ?_
        · (first | trivial | (simp; done))
        refine AWp.seq ?_
        refine AWp.rgn [] (by simp only [go_sem, seval, memEq, clrs, inR_nil, inR_cons, strR_nil, strR_cons, sC_eq, bC_eq]; rfl) ?_ ?_
        · (first | trivial | (simp; done))
        refine AWp.ret (And.intro (.inr rfl) ?_)
        exact Out.mem' (by simp only [Tryz.results108]; rfl) (by simp only [resCs, resC, go_sem, seval, memEq, clrs, inR_nil, inR_cons, strR_nil, strR_cons, sC_eq, bC_eq]) (by simp only [resV, rns, rn, go_sem, seval, memEq, clrs, inR_nil, inR_cons, strR_nil, strR_cons, sC_eq, bC_eq] <;> (simp at h9 h15 h21; simp [d7, bentB, h9, h15, h21])) (by simp) rfl (by decide) (by simp only [go_sem, seval, memEq, clrs, inR_nil, inR_cons, strR_nil, strR_cons, sC_eq, bC_eq]) (by simp only [clrs, go_sem, seval, memEq, clrs, inR_nil, inR_cons, strR_nil, strR_cons, sC_eq, bC_eq]) (by simp only [memEq, go_sem, seval, memEq, clrs, inR_nil, inR_cons, strR_nil, strR_cons, sC_eq, bC_eq] <;> (simp at h9 h15 h21; simp [d7, bentB, h9, h15, h21]))
      · refine AWp.seq ?_
        refine AWp.rgn [] (by simp only [go_sem, seval, memEq, clrs, inR_nil, inR_cons, strR_nil, strR_cons, sC_eq, bC_eq]; rfl) ?_ ?_
        · (first | trivial | (simp; done))
        refine AWp.condB (by simp only [go_sem, seval, memEq, clrs, inR_nil, inR_cons, strR_nil, strR_cons, sC_eq, bC_eq]; rfl) (by simp only [go_sem, seval, memEq, clrs, inR_nil, inR_cons, strR_nil, strR_cons, sC_eq, bC_eq]) (fun h26 => ?_) (fun h26 => ?_)
        · refine AWp.rgn [callN [0] [] (l4Bent_a b ((d5Some b p).2 + 1) hb (by omega) (by omega))] (by simp only [go_sem, seval, memEq, clrs, inR_nil, inR_cons, strR_nil, strR_cons, sC_eq, bC_eq]; rfl) ?_ ?_
          · (first | trivial | (simp; done))
          refine AWp.seq ?_
          refine AWp.rgn [] (by simp only [go_sem, seval, memEq, clrs, inR_nil, inR_cons, strR_nil, strR_cons, sC_eq, bC_eq]; rfl) ?_ ?_
          · (first | trivial | (simp; done))
          refine AWp.ret (And.intro (.inr rfl) ?_)
          exact Out.mem' (by simp only [Tryz.results108]; rfl) (by simp only [resCs, resC, go_sem, seval, memEq, clrs, inR_nil, inR_cons, strR_nil, strR_cons, sC_eq, bC_eq]) (by simp only [resV, rns, rn, go_sem, seval, memEq, clrs, inR_nil, inR_cons, strR_nil, strR_cons, sC_eq, bC_eq] <;> (simp at h9 h15 h21 h26; simp [d7, bentB, h9, h15, h21, h26])) (by simp) rfl (by decide) (by simp only [go_sem, seval, memEq, clrs, inR_nil, inR_cons, strR_nil, strR_cons, sC_eq, bC_eq]) (by simp only [clrs, go_sem, seval, memEq, clrs, inR_nil, inR_cons, strR_nil, strR_cons, sC_eq, bC_eq]) (by simp only [memEq, go_sem, seval, memEq, clrs, inR_nil, inR_cons, strR_nil, strR_cons, sC_eq, bC_eq] <;> (simp at h9 h15 h21 h26; simp [d7, bentB, h9, h15, h21, h26]))
        · refine AWp.skip ?_
          refine AWp.seq ?_
          refine AWp.rgn [] (by simp only [go_sem, seval, memEq, clrs, inR_nil, inR_cons, strR_nil, strR_cons, sC_eq, bC_eq]; rfl) ?_ ?_
          · (first | trivial | (simp; done))
          refine AWp.ret (And.intro (.inr rfl) ?_)
          exact Out.mem' (by simp only [Tryz.results108]; rfl) (by simp only [resCs, resC, go_sem, seval, memEq, clrs, inR_nil, inR_cons, strR_nil, strR_cons, sC_eq, bC_eq]) (by simp only [resV, rns, rn, go_sem, seval, memEq, clrs, inR_nil, inR_cons, strR_nil, strR_cons, sC_eq, bC_eq] <;> (simp at h9 h15 h21 h26; simp [d7, bentB, h9, h15, h21, h26])) (by simp) rfl (by decide) (by simp only [go_sem, seval, memEq, clrs, inR_nil, inR_cons, strR_nil, strR_cons, sC_eq, bC_eq]) (by simp only [clrs, go_sem, seval, memEq, clrs, inR_nil, inR_cons, strR_nil, strR_cons, sC_eq, bC_eq]) (by simp only [memEq, go_sem, seval, memEq, clrs, inR_nil, inR_cons, strR_nil, strR_cons, sC_eq, bC_eq] <;> (simp at h9 h15 h21 h26; simp [d7, bentB, h9, h15, h21, h26]))
end
end Go.Proofs.YteihfmnmpdbkiaaGreatDoor
