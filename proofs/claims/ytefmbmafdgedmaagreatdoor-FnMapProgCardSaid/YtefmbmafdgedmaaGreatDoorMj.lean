/- What is drawn: expressions. Conditions: none. -/
import Derived.Test.YtefmbmafdgedmaaGreatDoorMh
import Derived.Test.YtefmbmafdgedmaaGreatDoorMi
import Derived.Test.YtefmbmafdgedmaaGreatDoorMd
set_option linter.unusedVariables false
set_option linter.unusedSimpArgs false
namespace Go.Proofs.YtefmbmafdgedmaaGreatDoor
section
set_option maxRecDepth 100000
set_option maxHeartbeats 1000000
theorem E.kind_mk (k n : Int) (s : Str) (r : List E) : (E.mk k n s r).kind = k := rfl
theorem E.n_mk (k n : Int) (s : Str) (r : List E) : (E.mk k n s r).n = n := rfl
theorem E.s_mk (k n : Int) (s : Str) (r : List E) : (E.mk k n s r).s = s := rfl
theorem E.kids_mk (k n : Int) (s : Str) (r : List E) : (E.mk k n s r).kids = r := rfl
abbrev rdB (b : Str) (p : Int) : Blk := ⟨113, 2, [[.sl false (byR b), .i .i64 p]]⟩
def wInt : Str := [105, 110, 116]
def lfE (b : Str) (p : Int) : E := if b9_ b p 2 = 0 then .mk 1 (q7_ b (p + 1) [0, 1, 2, 7, 30, 1000000]) [] [] else .mk 2 0 (ofI b (p + 1) [[120], [121], [122], [120]]) []
def dE (b : Str) : Nat → Int → E × Int
 | 0, p => (lfE b p, p + 2)
 | d + 1, p =>
  if d = 0 then (lfE b p, p + 2)
  else if b9_ b p 4 = 0 then (lfE b (p + 1), p + 3)
  else if b9_ b (p + 1) 4 = 0 then (.mk 4 0 (ofI b (p + 2) [[105, 110, 116], [98, 111, 111, 108], [105, 110, 116]]) [(dE b d (p + 3)).1], (dE b d (p + 3)).2)
  else (.mk 3 0 (ofI b (p + 2) [[43], [45], [42], [60], [43], [42]]) [(dE b d (p + 3)).1, (dE b d (dE b d (p + 3)).2).1], (dE b d (dE b d (p + 3)).2).2)
theorem tn_ (b : Str) : ∀ (d : Nat) (p : Int), p ≤ (dE b d p).2 ∧ (dE b d p).2 ≤ p + 5 * 2 ^ d - 3
 | 0, p => by simp [dE]; omega
 | d + 1, p => by
  have e : (2 : Int) ^ (d + 1) = 2 * 2 ^ d := by rw [Int.pow_succ]; omega
  have e2 : (0 : Int) < 2 ^ d := Int.pow_pos (by decide)
  have h1 := tn_ b d (p + 3)
  have h2 := tn_ b d (dE b d (p + 3)).2
  simp only [dE]
  split
  ·dsimp only; omega
  ·split
   ·dsimp only; omega
   ·split <;> dsimp only <;> omega
theorem ug_ {b : Str} {p : Int} {l : List Int} (hl : 0 < l.length) (hp : 0 ≤ p) (hp2 : p < 1099511627776) : q7_ b p l ∈ l := by
 have := fj_ b hp hp2 (show 1 ≤ (l.length : Int) by omega)
 exact bh_ (by omega)
theorem lg_ {b : Str} {p : Int} {l : List Str} (hl : 0 < l.length) (hp : 0 ≤ p) (hp2 : p < 1099511627776) : ofI b p l ∈ l := by
 have := fj_ b hp hp2 (show 1 ≤ (l.length : Int) by omega)
 exact bh_ (by omega)
theorem y6_ {n : Int} {d : Int} (hd : 1 ≤ d) (h : 0 ≤ n) (h1 : n ≤ 1000000) : form (.mk 1 n [] []) d = true := by simp [form, ce_, shape, h, h1, hd]
theorem u5_ {s : Str} {d : Int} (hd : 1 ≤ d) (h : hy_ s = true) : form (.mk 2 0 s []) d = true := by simp [form, ce_, shape, h, hd]
theorem qn_ (b : Str) (p : Int) (hp : 0 ≤ p) (hp2 : p + 1 < 1099511627776) (d : Int) (hd : 1 ≤ d) : form (lfE b p) d = true ∧ sm (lfE b p) = true ∧ many (lfE b p) d = 1 := by
 unfold lfE
 split
 ·have := ug_ (b := b) (l := [0, 1, 2, 7, 30, 1000000]) (by decide) (show 0 ≤ p + 1 by omega) hp2
  simp only [List.mem_cons, List.not_mem_nil, or_false] at this
  refine ⟨y6_ hd (by omega) (by omega), by simp [sm, sms], by simp [many, cb_]⟩
 ·have := lg_ (b := b) (l := [[120], [121], [122], [120]]) (by decide) (show 0 ≤ p + 1 by omega) hp2
  simp only [List.mem_cons, List.not_mem_nil, or_false] at this
  refine ⟨u5_ hd ?_, ?_, by simp [many, cb_]⟩
  ·rcases this with h | h | h | h <;> rw [h] <;> decide
  ·rcases this with h | h | h | h <;> rw [h] <;> decide
theorem iz_ (b : Str) : ∀ (d : Nat) (p : Int), 0 ≤ p → p + 5 * 2 ^ (d + 1) < 1099511627776 → form (dE b (d + 1) p).1 ((d + 1 : Nat) : Int) = true ∧ sm (dE b (d + 1) p).1 = true
 | 0, p, hp, hp2 => by simp only [dE]; have := qn_ b p hp (by omega) 1 (by decide); exact ⟨this.1, this.2.1⟩
 | d + 1, p, hp, hp2 => by
  have e : (2 : Int) ^ (d + 1 + 1) = 2 * 2 ^ (d + 1) := by rw [Int.pow_succ]; omega
  have e2 : (0 : Int) < 2 ^ (d + 1) := Int.pow_pos (by decide)
  have e3 : ((d + 1 + 1 : Nat) : Int) - 1 = ((d + 1 : Nat) : Int) := by omega
  have q1 := tn_ b (d + 1) (p + 3)
  have h1 := iz_ b d (p + 3) (by omega) (by omega)
  have h2 := iz_ b d (dE b (d + 1) (p + 3)).2 (by omega) (by omega)
  have e4 : (decide ((1 : Int) ≤ ((d + 1 + 1 : Nat) : Int))) = true := by simp; omega
  rw [dE, if_neg (by omega)]
  split
  ·have := qn_ b (p + 1) (by omega) (by omega) ((d + 1 + 1 : Nat) : Int) (by omega); exact ⟨this.1, this.2.1⟩
  ·split
   ·have := lg_ (b := b) (l := [[105, 110, 116], [98, 111, 111, 108], [105, 110, 116]]) (by decide) (show 0 ≤ p + 2 by omega) (by omega)
    simp only [List.mem_cons, List.not_mem_nil, or_false] at this
    have ht : ef_ (ofI b (p + 2) [[105, 110, 116], [98, 111, 111, 108], [105, 110, 116]]) = true := by rcases this with h | h | h <;> rw [h] <;> decide
    have hl := jh_ ht
    refine ⟨?_, ?_⟩
    ·simp only [form, ce_, shape, e3, e4, h1.1, ht]; rfl
    ·simp only [sm, sms, h1.2, List.length_cons, List.length_nil, Bool.and_true, Bool.and_eq_true, decide_eq_true_eq]; omega
   ·have := lg_ (b := b) (l := [[43], [45], [42], [60], [43], [42]]) (by decide) (show 0 ≤ p + 2 by omega) (by omega)
    simp only [List.mem_cons, List.not_mem_nil, or_false] at this
    have ht : gn_ (ofI b (p + 2) [[43], [45], [42], [60], [43], [42]]) = true := by rcases this with h | h | h | h | h | h <;> rw [h] <;> decide
    have hl := rt_ ht
    refine ⟨?_, ?_⟩
    ·simp only [form, ce_, shape, e3, e4, h1.1, h2.1, ht]; rfl
    ·simp only [sm, sms, h1.2, h2.2, List.length_cons, List.length_nil, Bool.and_true, Bool.and_eq_true, decide_eq_true_eq]; omega
theorem ad3_ (b : Str) (p : Int) : dE b 1 p = (lfE b p, p + 2) := by simp [dE]
theorem ft_ (b : Str) (d : Nat) (p : Int) : dE b (d + 1 + 1) p = if b9_ b p 4 = 0 then (lfE b (p + 1), p + 3)
  else if b9_ b (p + 1) 4 = 0 then (.mk 4 0 (ofI b (p + 2) [[105, 110, 116], [98, 111, 111, 108], [105, 110, 116]]) [(dE b (d + 1) (p + 3)).1], (dE b (d + 1) (p + 3)).2)
  else (.mk 3 0 (ofI b (p + 2) [[43], [45], [42], [60], [43], [42]]) [(dE b (d + 1) (p + 3)).1, (dE b (d + 1) (dE b (d + 1) (p + 3)).2).1], (dE b (d + 1) (dE b (d + 1) (p + 3)).2).2) := by
 rw [dE, if_neg (by omega)]
theorem wk_ (b : Str) (p deep : Int) (hb : b.length ≤ 2000) (hp : 0 ≤ p) (hp2 : p < 10000000000) (hd : deep ≤ 1) : ACall En 188 [.pt 0 2 0 0, .i .i64 deep] [rdB b p] [.ag (eC (lfE b p))] [rdB b (p + 2)] := by
 have hdd : decide (deep ≤ 1) = true := by simpa using hd
 refine ap_ (fn := Tryz.f188) [0] Tryz.func188 rfl rfl (by simp) fun C => ?_
 rw [a0_]
 simp only [Tryz.ntmps188, List.length_cons, List.length_nil, Nat.reduceAdd, Nat.reduceSub, List.replicate_succ, List.replicate_zero, List.cons_append, List.nil_append, bq_]
 refine .seq (.rgn [] (by simp only [go_sem, seval, hdd, al_, ar_, av_, aq_, ak_, ah_]; rfl) ?_ ?_)
 ·first | trivial | simp
 refine .seq (.seq (.rgn [bv_ [0] [] (ec_ b p 4 hb hp (by omega))] (by simp only [go_sem, seval, hdd, al_, ar_, av_, aq_, ak_, ah_]; rfl) ?_ ?_))
 ·first | trivial | simp
 refine .condB (by simp only [go_sem, seval, hdd, al_, ar_, av_, aq_, ak_, ah_]; rfl) (by simp only [go_sem, seval, hdd, al_, ar_, av_, aq_, ak_, ah_]) (fun h11 => ?_) (fun h11 => ?_)
 ·refine .seq (.seq (.rgn [bv_ [0] [] (ec_ b p 2 hb hp (by omega))] (by simp only [go_sem, seval, hdd, al_, ar_, av_, aq_, ak_, ah_]; rfl) ?_ ?_))
  ·first | trivial | simp
  refine .condB (by simp only [go_sem, seval, hdd, al_, ar_, av_, aq_, ak_, ah_]; rfl) (by simp only [go_sem, seval, hdd, al_, ar_, av_, aq_, ak_, ah_]) (fun h14 => ?_) (fun h14 => ?_)
  ·refine .seq (.rgn [bv_ [0] [] (ok_ b (p + 1) [0, 1, 2, 7, 30, 1000000] (by decide) hb (by omega) (by omega))] (by simp only [go_sem, seval, hdd, al_, ar_, av_, aq_, ak_, ah_]; rfl) ?_ ?_)
   ·first | trivial | simp
   refine .ret ⟨.inr rfl, ?_⟩
   exact Out.memL' (by simp only [Tryz.results188]; rfl) (by simp only [a1_, bc_, go_sem, seval, hdd, al_, ar_, av_, aq_, ak_, ah_]) (by simp only [ba_, rns, rn, go_sem, seval, hdd, al_, ar_, av_, aq_, ak_, ah_] <;> (simp at h14; simp [lfE, h14, eg_, E.kind_mk, E.n_mk, E.s_mk, E.kids_mk, eR, ler])) (by simp) rfl (by decide) (by simp only [go_sem, seval, hdd, al_, ar_, av_, aq_, ak_, ah_]) (by simp only [ar_, go_sem, seval, hdd, al_, ar_, av_, aq_, ak_, ah_]) (by simp only [al_, go_sem, seval, hdd, al_, ar_, av_, aq_, ak_, ah_] <;> (rw [show p + 1 + 1 = p + 2 by omega]))
  ·refine .skip (.seq (.rgn [bv_ [0] [] (pa_ b (p + 1) [[120], [121], [122], [120]] (by decide) hb (by omega) (by omega))] (by simp only [go_sem, seval, hdd, al_, ar_, av_, aq_, ak_, ah_]; rfl) ?_ ?_))
   ·first | trivial | simp
   refine .ret ⟨.inr rfl, ?_⟩
   exact Out.memL' (by simp only [Tryz.results188]; rfl) (by simp only [a1_, bc_, go_sem, seval, hdd, al_, ar_, av_, aq_, ak_, ah_]) (by simp only [ba_, rns, rn, go_sem, seval, hdd, al_, ar_, av_, aq_, ak_, ah_] <;> (simp at h14; simp [lfE, h14, eg_, E.kind_mk, E.n_mk, E.s_mk, E.kids_mk, eR, ler])) (by simp) rfl (by decide) (by simp only [go_sem, seval, hdd, al_, ar_, av_, aq_, ak_, ah_]) (by simp only [ar_, go_sem, seval, hdd, al_, ar_, av_, aq_, ak_, ah_]) (by simp only [al_, go_sem, seval, hdd, al_, ar_, av_, aq_, ak_, ah_] <;> (rw [show p + 1 + 1 = p + 2 by omega]))
 ·exact absurd h11 (by simp)
theorem mb_ (b : Str) (hb : b.length ≤ 2000) (d : Nat) : ∀ p : Int, 0 ≤ p → p + 5 * 2 ^ (d + 1) < 10000000000 → d < 10 →
  ACall En 188 [.pt 0 2 0 0, .i .i64 ((d + 1 : Nat) : Int)] [rdB b p] [.ag (eC (dE b (d + 1) p).1)] [rdB b (dE b (d + 1) p).2] := by
 induction d with
 | zero => intro p hp hp2 _; rw [ad3_]; exact wk_ b p _ hb hp (by omega) (by decide)
 | succ d ih =>
 intro p hp hp2 hd10
 have e : (2 : Int) ^ (d + 1 + 1) = 2 * 2 ^ (d + 1) := by rw [Int.pow_succ]; omega
 have e2 : (0 : Int) < 2 ^ (d + 1) := Int.pow_pos (by decide)
 have q1 := tn_ b (d + 1) (p + 3)
 have hdd : decide (((d + 1 + 1 : Nat) : Int) ≤ 1) = false := by simp; omega
 have hw : IntKind.i64.wrap (((d + 1 + 1 : Nat) : Int) - 1) = ((d + 1 : Nat) : Int) := by rw [a7_ (by omega) (by omega)]; omega
 have A := fun (c1 : ¬ b9_ b p 4 = 0) => ih (p + 3) (by omega) (by omega) (by omega)
 have B := fun (c1 : ¬ b9_ b p 4 = 0) => ih (dE b (d + 1) (p + 3)).2 (by omega) (by omega) (by omega)
 refine ap_ (fn := Tryz.f188) [0] Tryz.func188 rfl rfl (by simp) fun C => ?_
 rw [a0_]
 simp only [Tryz.ntmps188, List.length_cons, List.length_nil, Nat.reduceAdd, Nat.reduceSub, List.replicate_succ, List.replicate_zero, List.cons_append, List.nil_append, bq_]
 refine .seq (.rgn [] (by simp only [go_sem, seval, hdd, hw, al_, ar_, av_, aq_, ak_, ah_, show p + 1 + 1 = p + 2 from by omega, show p + 2 + 1 = p + 3 from by omega]; rfl) ?_ ?_)
 ·first | trivial | simp
 refine .seq (.seq (.rgn [bv_ [0] [] (ec_ b p 4 hb hp (by omega))] (by simp only [go_sem, seval, hdd, hw, al_, ar_, av_, aq_, ak_, ah_, show p + 1 + 1 = p + 2 from by omega, show p + 2 + 1 = p + 3 from by omega]; rfl) ?_ ?_))
 ·first | trivial | simp
 refine .condB (by simp only [go_sem, seval, hdd, hw, al_, ar_, av_, aq_, ak_, ah_, show p + 1 + 1 = p + 2 from by omega, show p + 2 + 1 = p + 3 from by omega]; rfl) (by simp only [go_sem, seval, hdd, hw, al_, ar_, av_, aq_, ak_, ah_, show p + 1 + 1 = p + 2 from by omega, show p + 2 + 1 = p + 3 from by omega]) (fun h11 => ?_) (fun h11 => ?_)
 ·refine .seq (.seq (.rgn [bv_ [0] [] (ec_ b (p + 1) 2 hb (by omega) (by omega))] (by simp only [go_sem, seval, hdd, hw, al_, ar_, av_, aq_, ak_, ah_, show p + 1 + 1 = p + 2 from by omega, show p + 2 + 1 = p + 3 from by omega]; rfl) ?_ ?_))
  ·first | trivial | simp
  refine .condB (by simp only [go_sem, seval, hdd, hw, al_, ar_, av_, aq_, ak_, ah_, show p + 1 + 1 = p + 2 from by omega, show p + 2 + 1 = p + 3 from by omega]; rfl) (by simp only [go_sem, seval, hdd, hw, al_, ar_, av_, aq_, ak_, ah_, show p + 1 + 1 = p + 2 from by omega, show p + 2 + 1 = p + 3 from by omega]) (fun h14 => ?_) (fun h14 => ?_)
  ·refine .seq (.rgn [bv_ [0] [] (ok_ b (p + 1 + 1) [0, 1, 2, 7, 30, 1000000] (by decide) hb (by omega) (by omega))] (by simp only [go_sem, seval, hdd, hw, al_, ar_, av_, aq_, ak_, ah_, show p + 1 + 1 = p + 2 from by omega, show p + 2 + 1 = p + 3 from by omega]; rfl) ?_ ?_)
   ·first | trivial | simp
   refine .ret ⟨.inr rfl, ?_⟩
   exact Out.memL' (by simp only [Tryz.results188]; rfl) (by simp only [a1_, bc_, go_sem, seval, hdd, hw, al_, ar_, av_, aq_, ak_, ah_, show p + 1 + 1 = p + 2 from by omega, show p + 2 + 1 = p + 3 from by omega]) (by simp only [ba_, rns, rn, go_sem, seval, hdd, hw, al_, ar_, av_, aq_, ak_, ah_, show p + 1 + 1 = p + 2 from by omega, show p + 2 + 1 = p + 3 from by omega] <;> (simp at h11 h14; simp [ft_, lfE, h11, h14, eg_, E.kind_mk, E.n_mk, E.s_mk, E.kids_mk, eR, ler, les, leV, bo_, show p + 1 + 1 = p + 2 by omega])) (by simp) rfl (by decide) (by simp only [go_sem, seval, hdd, hw, al_, ar_, av_, aq_, ak_, ah_, show p + 1 + 1 = p + 2 from by omega, show p + 2 + 1 = p + 3 from by omega]) (by simp only [ar_, go_sem, seval, hdd, hw, al_, ar_, av_, aq_, ak_, ah_, show p + 1 + 1 = p + 2 from by omega, show p + 2 + 1 = p + 3 from by omega]) (by simp only [al_, go_sem, seval, hdd, hw, al_, ar_, av_, aq_, ak_, ah_, show p + 1 + 1 = p + 2 from by omega, show p + 2 + 1 = p + 3 from by omega] <;> (simp at h11; simp [ft_, h11]))
  ·refine .skip (.seq (.rgn [bv_ [0] [] (pa_ b (p + 1 + 1) [[120], [121], [122], [120]] (by decide) hb (by omega) (by omega))] (by simp only [go_sem, seval, hdd, hw, al_, ar_, av_, aq_, ak_, ah_, show p + 1 + 1 = p + 2 from by omega, show p + 2 + 1 = p + 3 from by omega]; rfl) ?_ ?_))
   ·first | trivial | simp
   refine .ret ⟨.inr rfl, ?_⟩
   exact Out.memL' (by simp only [Tryz.results188]; rfl) (by simp only [a1_, bc_, go_sem, seval, hdd, hw, al_, ar_, av_, aq_, ak_, ah_, show p + 1 + 1 = p + 2 from by omega, show p + 2 + 1 = p + 3 from by omega]) (by simp only [ba_, rns, rn, go_sem, seval, hdd, hw, al_, ar_, av_, aq_, ak_, ah_, show p + 1 + 1 = p + 2 from by omega, show p + 2 + 1 = p + 3 from by omega] <;> (simp at h11 h14; simp [ft_, lfE, h11, h14, eg_, E.kind_mk, E.n_mk, E.s_mk, E.kids_mk, eR, ler, les, leV, bo_, show p + 1 + 1 = p + 2 by omega])) (by simp) rfl (by decide) (by simp only [go_sem, seval, hdd, hw, al_, ar_, av_, aq_, ak_, ah_, show p + 1 + 1 = p + 2 from by omega, show p + 2 + 1 = p + 3 from by omega]) (by simp only [ar_, go_sem, seval, hdd, hw, al_, ar_, av_, aq_, ak_, ah_, show p + 1 + 1 = p + 2 from by omega, show p + 2 + 1 = p + 3 from by omega]) (by simp only [al_, go_sem, seval, hdd, hw, al_, ar_, av_, aq_, ak_, ah_, show p + 1 + 1 = p + 2 from by omega, show p + 2 + 1 = p + 3 from by omega] <;> (simp at h11; simp [ft_, h11]))
 ·refine .skip (.seq (.seq (.rgn [bv_ [0] [] (ec_ b (p + 1) 4 hb (by omega) (by omega))] (by simp only [go_sem, seval, hdd, hw, al_, ar_, av_, aq_, ak_, ah_, show p + 1 + 1 = p + 2 from by omega, show p + 2 + 1 = p + 3 from by omega]; rfl) ?_ ?_)))
  ·first | trivial | simp
  refine .condB (by simp only [go_sem, seval, hdd, hw, al_, ar_, av_, aq_, ak_, ah_, show p + 1 + 1 = p + 2 from by omega, show p + 2 + 1 = p + 3 from by omega]; rfl) (by simp only [go_sem, seval, hdd, hw, al_, ar_, av_, aq_, ak_, ah_, show p + 1 + 1 = p + 2 from by omega, show p + 2 + 1 = p + 3 from by omega]) (fun h25 => ?_) (fun h25 => ?_)
  ·refine .seq (.rgn [bv_ [0] [] (pa_ b (p + 1 + 1) [[105, 110, 116], [98, 111, 111, 108], [105, 110, 116]] (by decide) hb (by omega) (by omega)), bv_ [0] [] (A (by simpa using h11))] (by simp only [go_sem, seval, hdd, hw, al_, ar_, av_, aq_, ak_, ah_, show p + 1 + 1 = p + 2 from by omega, show p + 2 + 1 = p + 3 from by omega]; rfl) ?_ ?_)
   ·first | trivial | simp
   refine .ret ⟨.inr rfl, ?_⟩
   exact Out.memL' (by simp only [Tryz.results188]; rfl) (by simp only [a1_, bc_, go_sem, seval, hdd, hw, al_, ar_, av_, aq_, ak_, ah_, show p + 1 + 1 = p + 2 from by omega, show p + 2 + 1 = p + 3 from by omega]) (by simp only [ba_, rns, rn, go_sem, seval, hdd, hw, al_, ar_, av_, aq_, ak_, ah_, show p + 1 + 1 = p + 2 from by omega, show p + 2 + 1 = p + 3 from by omega] <;> (simp at h11 h25; simp [ft_, h11, h25, eg_, E.kind_mk, E.n_mk, E.s_mk, E.kids_mk, eR, ler, les, leV, bo_, show p + 1 + 1 = p + 2 by omega])) (by simp) rfl (by decide) (by simp only [go_sem, seval, hdd, hw, al_, ar_, av_, aq_, ak_, ah_, show p + 1 + 1 = p + 2 from by omega, show p + 2 + 1 = p + 3 from by omega]) (by simp only [ar_, go_sem, seval, hdd, hw, al_, ar_, av_, aq_, ak_, ah_, show p + 1 + 1 = p + 2 from by omega, show p + 2 + 1 = p + 3 from by omega]) (by simp only [al_, go_sem, seval, hdd, hw, al_, ar_, av_, aq_, ak_, ah_, show p + 1 + 1 = p + 2 from by omega, show p + 2 + 1 = p + 3 from by omega] <;> (simp at h11 h25; simp [ft_, h11, h25]))
  ·refine .skip (.seq (.rgn [bv_ [0] [] (pa_ b (p + 1 + 1) [[43], [45], [42], [60], [43], [42]] (by decide) hb (by omega) (by omega)), bv_ [0] [] (A (by simpa using h11)), bv_ [0] [] (B (by simpa using h11))] (by simp only [go_sem, seval, hdd, hw, al_, ar_, av_, aq_, ak_, ah_, show p + 1 + 1 = p + 2 from by omega, show p + 2 + 1 = p + 3 from by omega]; rfl) ?_ ?_))
   ·first | trivial | simp
   refine .ret ⟨.inr rfl, ?_⟩
   exact Out.memL' (by simp only [Tryz.results188]; rfl) (by simp only [a1_, bc_, go_sem, seval, hdd, hw, al_, ar_, av_, aq_, ak_, ah_, show p + 1 + 1 = p + 2 from by omega, show p + 2 + 1 = p + 3 from by omega]) (by simp only [ba_, rns, rn, go_sem, seval, hdd, hw, al_, ar_, av_, aq_, ak_, ah_, show p + 1 + 1 = p + 2 from by omega, show p + 2 + 1 = p + 3 from by omega] <;> (simp at h11 h25; simp [ft_, h11, h25, eg_, E.kind_mk, E.n_mk, E.s_mk, E.kids_mk, eR, ler, les, leV, bo_, show p + 1 + 1 = p + 2 by omega])) (by simp) rfl (by decide) (by simp only [go_sem, seval, hdd, hw, al_, ar_, av_, aq_, ak_, ah_, show p + 1 + 1 = p + 2 from by omega, show p + 2 + 1 = p + 3 from by omega]) (by simp only [ar_, go_sem, seval, hdd, hw, al_, ar_, av_, aq_, ak_, ah_, show p + 1 + 1 = p + 2 from by omega, show p + 2 + 1 = p + 3 from by omega]) (by simp only [al_, go_sem, seval, hdd, hw, al_, ar_, av_, aq_, ak_, ah_, show p + 1 + 1 = p + 2 from by omega, show p + 2 + 1 = p + 3 from by omega] <;> (simp at h11 h25; simp [ft_, h11, h25]))
end
section
set_option maxRecDepth 100000
set_option maxHeartbeats 1000000
theorem afp_ {e : E} (h : form e ((2 : Nat) : Int) = true) : eok e = true := by
 have h1 := jq_ e 2 3 h
 have h2 := (ig_ e 2 h).2
 have h3 : (2 : Int) ^ 2 - 1 = 3 := by decide
 have e5 : ((2 + 3 : Nat) : Int) = 5 := by decide
 rw [e5] at h1
 simp only [eok, Bool.and_eq_true, decide_eq_true_eq]
 refine ⟨h1.1, ?_⟩
 rw [h1.2]
 have : (2 : Int) ^ (2 : Nat) = 4 := by decide
 omega
def dS0 (b : Str) (p : Int) : E × Int := dE b ((b9_ b p 4).toNat + 1) (p + 1)
def b8_ (b : Str) (p : Int) : E × Int := if eok (dS0 b p).1 then dS0 b p else dE b 2 (dS0 b p).2
theorem ada_ (b : Str) {p : Int} (hp : 0 ≤ p) (hp2 : p < 1000000000) : p ≤ (dS0 b p).2 ∧ (dS0 b p).2 ≤ p + 100 ∧ sm (dS0 b p).1 = true ∧ (b9_ b p 4).toNat < 4 := by
 have h1 := fj_ b hp (by omega) (show (1 : Int) ≤ 4 by decide)
 have h2 : (b9_ b p 4).toNat < 4 := by omega
 have h3 := tn_ b ((b9_ b p 4).toNat + 1) (p + 1)
 have h4 : ∀ k : Nat, k < 4 → (5 : Int) * 2 ^ (k + 1) ≤ 80 := by decide
 have h5 := h4 _ h2
 unfold dS0
 exact ⟨by omega, by omega, (iz_ b _ (p + 1) (by omega) (by omega)).2, h2⟩
theorem k9_ (b : Str) {p : Int} (hp : 0 ≤ p) (hp2 : p < 1000000000) : p ≤ (b8_ b p).2 ∧ (b8_ b p).2 ≤ p + 200 ∧ sm (b8_ b p).1 = true ∧ eok (b8_ b p).1 = true := by
 obtain ⟨h1, h2, h3, _⟩ := ada_ b hp hp2
 unfold b8_
 split
 ·rename_i h; exact ⟨h1, by omega, h3, h⟩
 ·have h4 := tn_ b 2 (dS0 b p).2
  have h5 := iz_ b 1 (dS0 b p).2 (by omega) (by omega)
  have h6 : (5 : Int) * 2 ^ 2 = 20 := by decide
  exact ⟨by omega, by omega, h5.2, afp_ h5.1⟩
theorem q5_ (b : Str) (p : Int) (hb : b.length ≤ 2000) (hp : 0 ≤ p) (hp2 : p < 1000000000) : ACall En 187 [.pt 0 2 0 0] [rdB b p] [.ag (eC (b8_ b p).1)] [rdB b (b8_ b p).2] := by
 obtain ⟨h1, h2, h3, h4⟩ := ada_ b hp hp2
 have hk : ∀ k : Nat, k < 4 → (5 : Int) * 2 ^ (k + 1) ≤ 80 := by decide
 have hr := fj_ b hp (by omega) (show (1 : Int) ≤ 4 by decide)
 have hw : IntKind.i64.wrap (1 + b9_ b p 4) = (((b9_ b p 4).toNat + 1 : Nat) : Int) := by rw [a7_ (by omega) (by omega)]; omega
 have A := mb_ b hb (b9_ b p 4).toNat (p + 1) (by omega) (by have := hk _ h4; omega) (by omega)
 have A2 := mb_ b hb 1 (dS0 b p).2 (by omega) (by have : (5 : Int) * 2 ^ (1 + 1) = 20 := (by decide); omega) (by decide)
 rw [show ((1 + 1 : Nat) : Int) = 2 from rfl, show 1 + 1 = 2 from rfl] at A2
 rw [show dE b ((b9_ b p 4).toNat + 1) (p + 1) = dS0 b p from rfl] at A
 refine ap_ (fn := Tryz.f187) [0] Tryz.func187 rfl rfl (by simp) fun C => ?_
 rw [a0_]
 simp only [Tryz.ntmps187, List.length_cons, List.length_nil, Nat.reduceAdd, Nat.reduceSub, List.replicate_succ, List.replicate_zero, List.cons_append, List.nil_append, bq_]
 refine .seq (.rgn [] (by simp only [go_sem, seval, hw, al_, ar_]; rfl) ?_ ?_)
 ·first | trivial | simp
 refine .seq (.rgn [bv_ [0] [] (ec_ b p 4 hb hp (by omega)), bv_ [0] [] A] (by simp only [go_sem, seval, hw, al_, ar_]; rfl) ?_ ?_)
 ·first | trivial | simp
 refine .seq (.seq (.rgn [a5_ (f7_ (dS0 b p).1 h3)] (by simp only [go_sem, seval, hw, al_, ar_]; rfl) ?_ ?_))
 ·first | trivial | simp
 refine .condB (by simp only [go_sem, seval, hw, al_, ar_]; rfl) (by simp only [go_sem, seval, hw, al_, ar_]) (fun h11 => ?_) (fun h11 => ?_)
 ·refine .seq (.rgn [bv_ [0] [] A2] (by simp only [go_sem, seval, hw, al_, ar_]; rfl) ?_ ?_)
  ·first | trivial | simp
  refine .ret ⟨.inr rfl, ?_⟩
  exact Out.mem' (by simp only [Tryz.results187]; rfl) (by simp only [a1_, bc_, go_sem, seval, hw, al_, ar_]) (by simp only [ba_, rns, rn, go_sem, seval, hw, al_, ar_] <;> (simp at h11; simp [b8_, h11, eg_])) (by simp) rfl (by decide) (by simp only [go_sem, seval, hw, al_, ar_]) (by simp only [ar_, go_sem, seval, hw, al_, ar_]) (by simp only [al_, go_sem, seval, hw, al_, ar_] <;> (simp at h11; simp [b8_, h11]))
 ·refine .skip (.seq (.rgn [] (by simp only [go_sem, seval, hw, al_, ar_]; rfl) ?_ ?_))
  ·first | trivial | simp
  refine .ret ⟨.inr rfl, ?_⟩
  exact Out.mem' (by simp only [Tryz.results187]; rfl) (by simp only [a1_, bc_, go_sem, seval, hw, al_, ar_]) (by simp only [ba_, rns, rn, go_sem, seval, hw, al_, ar_] <;> (simp at h11; simp [b8_, h11, eg_])) (by simp) rfl (by decide) (by simp only [go_sem, seval, hw, al_, ar_]) (by simp only [ar_, go_sem, seval, hw, al_, ar_]) (by simp only [al_, go_sem, seval, hw, al_, ar_] <;> (simp at h11; simp [b8_, h11]))
def asN : Nat → E → E
 | 0, e => e
 | k + 1, e => .mk 4 0 [105, 110, 116] [asN k e]
theorem yt_ {e : E} (h : sm e = true) : ∀ k, sm (asN k e) = true
 | 0 => h
 | k + 1 => by simp only [asN, sm, sms, yt_ h k]; simp
def m0_ (b : Str) (q k : Int) (e : E) : E :=
 if k = 0 then .mk (q7_ b q [0, 5, 3, 4]) e.n e.s e.kids
 else if k = 1 then .mk e.kind (q7_ b q [1, -1, 1000001]) e.s e.kids
 else if k = 2 then .mk e.kind e.n (ofI b q [[108, 101, 116], [88], [60], [105, 110, 116], [120]]) e.kids
 else if k = 3 then asN 5 e
 else e
def km_ (q k : Int) : Int := if k = 0 ∨ k = 1 ∨ k = 2 then q + 1 else q
def ew_ (b : Str) (p : Int) : E × Int := (m0_ b ((b8_ b p).2 + 1) (b9_ b (b8_ b p).2 48) (b8_ b p).1, km_ ((b8_ b p).2 + 1) (b9_ b (b8_ b p).2 48))
theorem aaj_ (b : Str) {p : Int} (hp : 0 ≤ p) (hp2 : p < 1000000000) : p ≤ (ew_ b p).2 ∧ (ew_ b p).2 ≤ p + 300 ∧ sm (ew_ b p).1 = true := by
 obtain ⟨h1, h2, h3, h4⟩ := k9_ b hp hp2
 have hs := dx_ h3
 have hk := tt_ h3
 refine ⟨by simp only [ew_, km_]; split <;> omega, by simp only [ew_, km_]; split <;> omega, ?_⟩
 simp only [ew_, m0_]
 split
 ·simp only [sm, Bool.and_eq_true, decide_eq_true_eq]; exact ⟨⟨hs.1, hk⟩, hs.2.2⟩
 ·split
  ·simp only [sm, Bool.and_eq_true, decide_eq_true_eq]; exact ⟨⟨hs.1, hk⟩, hs.2.2⟩
  ·split
   ·have := lg_ (b := b) (p := (b8_ b p).2 + 1) (l := [[108, 101, 116], [88], [60], [105, 110, 116], [120]]) (by decide) (by omega) (by omega)
    simp only [List.mem_cons, List.not_mem_nil, or_false] at this
    simp only [sm, Bool.and_eq_true, decide_eq_true_eq]
    refine ⟨⟨?_, hk⟩, hs.2.2⟩
    rcases this with h | h | h | h | h <;> rw [h] <;> decide
   ·split
    ·exact yt_ h3 5
    ·exact h3
theorem xk_ (b : Str) (p : Int) (hb : b.length ≤ 2000) (hp : 0 ≤ p) (hp2 : p < 1000000000) : ACall En 139 [.pt 0 2 0 0] [rdB b p] [.ag (eC (ew_ b p).1)] [rdB b (ew_ b p).2] := by
 obtain ⟨h1, h2, h3, _⟩ := k9_ b hp hp2
 refine ap_ (fn := Tryz.f139) [0] Tryz.func139 rfl rfl (by simp) fun C => ?_
 rw [a0_]
 simp only [Tryz.ntmps139, List.length_cons, List.length_nil, Nat.reduceAdd, Nat.reduceSub, List.replicate_succ, List.replicate_zero, List.cons_append, List.nil_append, bq_]
 refine .seq (.rgn [] (by simp only [go_sem, seval, al_, ar_, av_, aq_, ak_, ah_]; rfl) ?_ ?_)
 ·first | trivial | simp
 refine .seq (.rgn [bv_ [0] [] (q5_ b p hb hp hp2)] (by simp only [go_sem, seval, al_, ar_, av_, aq_, ak_, ah_]; rfl) ?_ ?_)
 ·first | trivial | simp
 refine .seqJ (fun u : Unit => ⟨[.no, .no, .pt 12 4 0 0, .pt 13 4 0 0, .no, .no, .no, .no, .no, .no, .no, .no, .no, .no, .no, .no, .no, .no, .no, .no, .no, .no, .no, .no, .no, .no, .no, .no, .no, .no, .no, .no, .no, .no, .no, .no, .no], a6_ [(0, rdB b (ew_ b p).2), (12, ⟨48, 4, [[.i .i64 0, .i .i64 0, .s [], .sl true []]]⟩), (13, ⟨48, 4, [eC (ew_ b p).1]⟩)], us [12, 13]⟩) (fun u : Unit => True) ?_ (fun u hJ => ?_)
 ·refine .seq (.rgn [bv_ [0] [] (ec_ b (b8_ b p).2 48 hb (by omega) (by omega))] (by simp only [go_sem, seval, al_, ar_, av_, aq_, ak_, ah_]; rfl) ?_ ?_)
  ·first | trivial | simp
  refine .block (.seq (.rgn [] (by simp only [go_sem, seval, al_, ar_, av_, aq_, ak_, ah_]; rfl) ?_ ?_))
  ·first | trivial | simp
  refine .condB (by simp only [go_sem, seval, al_, ar_, av_, aq_, ak_, ah_]; rfl) (by simp only [go_sem, seval, al_, ar_, av_, aq_, ak_, ah_]) (fun h9 => ?_) (fun h9 => ?_)
  ·refine .rgn [bv_ [0] [] (ok_ b ((b8_ b p).2 + 1) [0, 5, 3, 4] (by decide) hb (by omega) (by omega))] (by simp only [go_sem, seval, al_, ar_, av_, aq_, ak_, ah_]; rfl) ?_ ?_
   ·first | trivial | simp
   refine Exists.intro (()) ⟨?_, ?_⟩
   ·trivial
   exact Can.weak (Weak.lit (by simp only [go_sem, seval, al_, ar_, av_, aq_, ak_, ah_, aw_, leV, at_, au_, V.inn, us, true_or, or_true] <;> (simp)) (by simp only [go_sem, seval, al_, ar_, av_, aq_, ak_, ah_, aw_, leV, at_, au_, V.inn, us, true_or, or_true]) (by simp only [go_sem, seval, al_, ar_, av_, aq_, ak_, ah_, aw_, leV, at_, au_, V.inn, us, true_or, or_true] <;> ((try (have := hI); try (have hk5 : k = 5 := by simp at h30; omega); try subst hk5); simp_all [ew_, m0_, km_, E.kind_mk, E.n_mk, E.s_mk, E.kids_mk]; done)))
  ·refine .seq (.rgn [] (by simp only [go_sem, seval, al_, ar_, av_, aq_, ak_, ah_]; rfl) ?_ ?_)
   ·first | trivial | simp
   refine .condB (by simp only [go_sem, seval, al_, ar_, av_, aq_, ak_, ah_]; rfl) (by simp only [go_sem, seval, al_, ar_, av_, aq_, ak_, ah_]) (fun h15 => ?_) (fun h15 => ?_)
   ·refine .rgn [bv_ [0] [] (ok_ b ((b8_ b p).2 + 1) [1, -1, 1000001] (by decide) hb (by omega) (by omega))] (by simp only [go_sem, seval, al_, ar_, av_, aq_, ak_, ah_]; rfl) ?_ ?_
    ·first | trivial | simp
    refine Exists.intro (()) ⟨?_, ?_⟩
    ·trivial
    exact Can.weak (Weak.lit (by simp only [go_sem, seval, al_, ar_, av_, aq_, ak_, ah_, aw_, leV, at_, au_, V.inn, us, true_or, or_true] <;> (simp)) (by simp only [go_sem, seval, al_, ar_, av_, aq_, ak_, ah_, aw_, leV, at_, au_, V.inn, us, true_or, or_true]) (by simp only [go_sem, seval, al_, ar_, av_, aq_, ak_, ah_, aw_, leV, at_, au_, V.inn, us, true_or, or_true] <;> ((try (have := hI); try (have hk5 : k = 5 := by simp at h30; omega); try subst hk5); simp_all [ew_, m0_, km_, E.kind_mk, E.n_mk, E.s_mk, E.kids_mk]; done)))
   ·refine .seq (.rgn [] (by simp only [go_sem, seval, al_, ar_, av_, aq_, ak_, ah_]; rfl) ?_ ?_)
    ·first | trivial | simp
    refine .condB (by simp only [go_sem, seval, al_, ar_, av_, aq_, ak_, ah_]; rfl) (by simp only [go_sem, seval, al_, ar_, av_, aq_, ak_, ah_]) (fun h21 => ?_) (fun h21 => ?_)
    ·refine .rgn [bv_ [0] [] (pa_ b ((b8_ b p).2 + 1) [[108, 101, 116], [88], [60], [105, 110, 116], [120]] (by decide) hb (by omega) (by omega))] (by simp only [go_sem, seval, al_, ar_, av_, aq_, ak_, ah_]; rfl) ?_ ?_
     ·first | trivial | simp
     refine Exists.intro (()) ⟨?_, ?_⟩
     ·trivial
     exact Can.weak (Weak.lit (by simp only [go_sem, seval, al_, ar_, av_, aq_, ak_, ah_, aw_, leV, at_, au_, V.inn, us, true_or, or_true] <;> (simp)) (by simp only [go_sem, seval, al_, ar_, av_, aq_, ak_, ah_, aw_, leV, at_, au_, V.inn, us, true_or, or_true]) (by simp only [go_sem, seval, al_, ar_, av_, aq_, ak_, ah_, aw_, leV, at_, au_, V.inn, us, true_or, or_true] <;> ((try (have := hI); try (have hk5 : k = 5 := by simp at h30; omega); try subst hk5); simp_all [ew_, m0_, km_, E.kind_mk, E.n_mk, E.s_mk, E.kids_mk]; done)))
    ·refine .seq (.rgn [] (by simp only [go_sem, seval, al_, ar_, av_, aq_, ak_, ah_]; rfl) ?_ ?_)
     ·first | trivial | simp
     refine .condB (by simp only [go_sem, seval, al_, ar_, av_, aq_, ak_, ah_]; rfl) (by simp only [go_sem, seval, al_, ar_, av_, aq_, ak_, ah_]) (fun h27 => ?_) (fun h27 => ?_)
     ·refine .seq (.rgn [] (by simp only [go_sem, seval, al_, ar_, av_, aq_, ak_, ah_]; rfl) ?_ ?_)
      ·first | trivial | simp
      refine .block (.loopK (fun k : Nat => ⟨[.no, .no, .pt 12 4 0 0, .pt 13 4 0 0, .i .i64 k, .no, .no, .no, .no, .no, .no, .no, .no, .no, .no, .no, .no, .no, .no, .no, .no, .no, .no, .no, .no, .no, .no, .no, .no, .no, .no, .no, .no, .no, .no, .no, .no], a6_ [(0, rdB b ((b8_ b p).2 + 1)), (12, ⟨48, 4, [[.i .i64 0, .i .i64 0, .s [], .sl true []]]⟩), (13, ⟨48, 4, [eC (asN k (b8_ b p).1)]⟩)], us [12, 13]⟩) (fun k : Nat => k ≤ 5) (fun k : Nat => 5 - k) (0) ?_ ?_ (fun k hI => ?_))
      ·simp
      ·exact Can.weak (Weak.lit (by simp only [go_sem, seval, al_, ar_, av_, aq_, ak_, ah_, aw_, leV, at_, au_, V.inn, us, true_or, or_true] <;> (rfl)) (by simp only [go_sem, seval, al_, ar_, av_, aq_, ak_, ah_, aw_, leV, at_, au_, V.inn, us, true_or, or_true]) (by simp only [go_sem, seval, al_, ar_, av_, aq_, ak_, ah_, aw_, leV, at_, au_, V.inn, us, true_or, or_true] <;> (simp [asN])))
      refine .seq (.seq (.rgn [] (by simp only [go_sem, seval, al_, ar_, av_, aq_, ak_, ah_]; rfl) ?_ ?_))
      ·first | trivial | simp
      refine .condB (by simp only [go_sem, seval, al_, ar_, av_, aq_, ak_, ah_]; rfl) (by simp only [go_sem, seval, al_, ar_, av_, aq_, ak_, ah_]) (fun h30 => ?_) (fun h30 => ?_)
      ·refine .skip (.seq (.block (.rgn [] (by simp only [go_sem, seval, al_, ar_, av_, aq_, ak_, ah_]; rfl) ?_ ?_)))
       ·first | trivial | simp
       refine .rgn [] (by simp only [go_sem, seval, al_, ar_, av_, aq_, ak_, ah_]; rfl) ?_ ?_
       ·first | trivial | simp
       refine Exists.intro (k + 1) ⟨?_, ?_, ?_⟩
       ·simp at h30; omega
       ·simp at h30; omega
       refine Can.trans (Can.leAt 13 ([[.i .i64 4, .i .i64 0, .s [105, 110, 116], .sl false [eC (asN k (b8_ b p).1)]]]) (by simp only [go_sem, seval, al_, ar_, av_, aq_, ak_, ah_] <;> rfl) (by simp only [go_sem, seval, al_, ar_, av_, aq_, ak_, ah_, ler, les, leV] <;> (first | trivial | simp)) (by simp only [go_sem, seval, al_, ar_, av_, aq_, ak_, ah_] <;> rfl)) ?_
       exact Can.weak (Weak.lit (by simp only [go_sem, seval, al_, ar_, av_, aq_, ak_, ah_, aw_, leV, at_, au_, V.inn, us, true_or, or_true] <;> (rw [a7_ (by simp at h30; omega) (by simp at h30; omega)]; simp)) (by simp only [go_sem, seval, al_, ar_, av_, aq_, ak_, ah_, aw_, leV, at_, au_, V.inn, us, true_or, or_true]) (by simp only [go_sem, seval, al_, ar_, av_, aq_, ak_, ah_, aw_, leV, at_, au_, V.inn, us, true_or, or_true] <;> (simp [asN, E.kind_mk, E.n_mk, E.s_mk, E.kids_mk, eR, eg_])))
      ·refine .exit ?_
       refine Exists.intro (()) ⟨?_, ?_⟩
       ·trivial
       exact Can.weak (Weak.lit (by simp only [go_sem, seval, al_, ar_, av_, aq_, ak_, ah_, aw_, leV, at_, au_, V.inn, us, true_or, or_true] <;> (simp)) (by simp only [go_sem, seval, al_, ar_, av_, aq_, ak_, ah_, aw_, leV, at_, au_, V.inn, us, true_or, or_true]) (by simp only [go_sem, seval, al_, ar_, av_, aq_, ak_, ah_, aw_, leV, at_, au_, V.inn, us, true_or, or_true] <;> ((try (have := hI); try (have hk5 : k = 5 := by simp at h30; omega); try subst hk5); simp_all [ew_, m0_, km_, E.kind_mk, E.n_mk, E.s_mk, E.kids_mk]; done)))
     ·refine .skip ?_
      refine Exists.intro (()) ⟨?_, ?_⟩
      ·trivial
      exact Can.weak (Weak.lit (by simp only [go_sem, seval, al_, ar_, av_, aq_, ak_, ah_, aw_, leV, at_, au_, V.inn, us, true_or, or_true] <;> (simp)) (by simp only [go_sem, seval, al_, ar_, av_, aq_, ak_, ah_, aw_, leV, at_, au_, V.inn, us, true_or, or_true]) (by simp only [go_sem, seval, al_, ar_, av_, aq_, ak_, ah_, aw_, leV, at_, au_, V.inn, us, true_or, or_true] <;> ((try (have := hI); try (have hk5 : k = 5 := by simp at h30; omega); try subst hk5); simp_all [ew_, m0_, km_, E.kind_mk, E.n_mk, E.s_mk, E.kids_mk]; done)))
 refine .seq (.rgn [] (by simp only [go_sem, seval, al_, ar_, av_, aq_, ak_, ah_]; rfl) ?_ ?_)
 ·first | trivial | simp
 refine .ret ⟨.inr rfl, ?_⟩
 exact Out.mem' (by simp only [Tryz.results139]; rfl) (by simp only [a1_, bc_, go_sem, seval, al_, ar_, av_, aq_, ak_, ah_]) (by simp only [ba_, rns, rn, go_sem, seval, al_, ar_, av_, aq_, ak_, ah_] <;> (simp [eg_])) (by simp) rfl (by decide) (by simp only [go_sem, seval, al_, ar_, av_, aq_, ak_, ah_]) (by simp only [ar_, go_sem, seval, al_, ar_, av_, aq_, ak_, ah_]) (by simp only [al_, go_sem, seval, al_, ar_, av_, aq_, ak_, ah_] <;> (simp))
end
section
set_option maxRecDepth 100000
set_option maxHeartbeats 1000000
def sC (s : Sl) : List V := .i .i64 s.kind :: .s s.name :: .s s.type :: (eC s.expr ++ eC s.thn)
theorem ae_ (s : Sl) : sC s = [.i .i64 s.kind, .s s.name, .s s.type, .i .i64 s.expr.kind, .i .i64 s.expr.n, .s s.expr.s, .sl false (eR s.expr.kids), .i .i64 s.thn.kind, .i .i64 s.thn.n, .s s.thn.s, .sl false (eR s.thn.kids)] := by
 simp only [sC, eg_]; rfl
def d7_ (s : Sl) : Bool := decide (s.name.length < 4611686018427387904) && decide (s.type.length < 4611686018427387904) && sm s.expr && sm s.thn
theorem eu_ {s : Sl} (h : d7_ s = true) : s.name.length < 4611686018427387904 ∧ s.type.length < 4611686018427387904 ∧ sm s.expr = true ∧ sm s.thn = true := by
 simp only [d7_, Bool.and_eq_true, decide_eq_true_eq] at h; exact ⟨h.1.1.1, h.1.1.2, h.1.2, h.2⟩
def d5 (b : Str) (p k : Int) : Sl × Int :=
 if k = 0 then (S0, (b8_ b p).2)
 else if k = 1 then (⟨1, ofI b (b8_ b p).2 [[120], [121], [122]], ofI b ((b8_ b p).2 + 1) [[105, 110, 116], [105, 110, 116], [98, 111, 111, 108]], (b8_ b p).1, E0⟩, (b8_ b p).2 + 2)
 else if k = 3 then (⟨3, [], [], (b8_ b p).1, (dE b 2 (b8_ b p).2).1⟩, (dE b 2 (b8_ b p).2).2)
 else (⟨k, [], [], (b8_ b p).1, E0⟩, (b8_ b p).2)
def b6_ (b : Str) (p : Int) : Sl × Int := d5 b (p + 1) (q7_ b p [1, 1, 2, 2, 3, 3, 0])
theorem px_ : E0.kind = 0 := rfl
theorem o3_ : E0.n = 0 := rfl
theorem ot_ : E0.s = [] := rfl
theorem fc_ : E0.kids = [] := rfl
theorem gm_ : eR [] = [] := by simp only [eR]
theorem kh_ : wf E0 = true := by decide
theorem xj_ : sm E0 = true := by decide
theorem o7_ {b : Str} {p : Int} {l : List Str} (hl : 0 < l.length) (hp : 0 ≤ p) (hp2 : p < 1099511627776) (k : Nat) (h : ∀ s ∈ l, s.length ≤ k) : (ofI b p l).length ≤ k := h _ (lg_ hl hp hp2)
theorem lr_ (b : Str) {p : Int} (hp : 0 ≤ p) (hp2 : p < 100000000) : p ≤ (b6_ b p).2 ∧ (b6_ b p).2 ≤ p + 300 ∧ d7_ (b6_ b p).1 = true ∧ wf (b6_ b p).1.expr = true ∧ wf (b6_ b p).1.thn = true ∧ ((b6_ b p).1.kind = 0 ∨ (b6_ b p).1.kind = 1 ∨ (b6_ b p).1.kind = 2 ∨ (b6_ b p).1.kind = 3) := by
 obtain ⟨h1, h2, h3, h4⟩ := k9_ b (p := p + 1) (by omega) (by omega)
 have hk := ug_ (b := b) (p := p) (l := [1, 1, 2, 2, 3, 3, 0]) (by decide) hp (by omega)
 have h5 := tn_ b 2 (b8_ b (p + 1)).2
 have h6 := iz_ b 1 (b8_ b (p + 1)).2 (by omega) (by omega)
 have h7 : (5 : Int) * 2 ^ 2 = 20 := by decide
 have l1 := o7_ (b := b) (p := (b8_ b (p + 1)).2) (l := [[120], [121], [122]]) (by decide) (by omega) (by omega) 4 (by decide)
 have l2 := o7_ (b := b) (p := (b8_ b (p + 1)).2 + 1) (l := [[105, 110, 116], [105, 110, 116], [98, 111, 111, 108]]) (by decide) (by omega) (by omega) 4 (by decide)
 simp only [List.mem_cons, List.not_mem_nil, or_false] at hk
 unfold b6_
 generalize q7_ b p [1, 1, 2, 2, 3, 3, 0] = k at hk
 unfold d5
 split
 ·refine ⟨by dsimp only; omega, by dsimp only; omega, show d7_ S0 = true by decide, kh_, kh_, .inl rfl⟩
 ·split
  ·refine ⟨by dsimp only; omega, by dsimp only; omega, ?_, gv_ h4, kh_, .inr (.inl rfl)⟩
   simp only [d7_, h3, xj_, Bool.and_true, Bool.and_eq_true, decide_eq_true_eq]; omega
  ·split
   ·exact ⟨by dsimp only; omega, by dsimp only; omega, by simp only [d7_, h3, h6.2, List.length_nil]; rfl, gv_ h4, o8_ _ _ h6.1, .inr (.inr (.inr rfl))⟩
   ·exact ⟨by dsimp only; omega, by dsimp only; omega, by simp only [d7_, h3, xj_, List.length_nil]; rfl, gv_ h4, kh_, by dsimp only; omega⟩
theorem rs_ (b : Str) (p : Int) (hb : b.length ≤ 2000) (hp : 0 ≤ p) (hp2 : p < 100000000) : ACall En 136 [.pt 0 2 0 0] [rdB b p] [.ag (sC (b6_ b p).1)] [rdB b (b6_ b p).2] := by
 obtain ⟨h1, h2, h3, h4⟩ := k9_ b (p := p + 1) (by omega) (by omega)
 have A2 := mb_ b hb 1 (b8_ b (p + 1)).2 (by omega) (by have : (5 : Int) * 2 ^ (1 + 1) = 20 := (by decide); omega) (by decide)
 rw [show ((1 + 1 : Nat) : Int) = 2 from rfl, show 1 + 1 = 2 from rfl] at A2
 refine ap_ (fn := Tryz.f136) [0] Tryz.func136 rfl rfl (by simp) fun C => ?_
 rw [a0_]
 simp only [Tryz.ntmps136, List.length_cons, List.length_nil, Nat.reduceAdd, Nat.reduceSub, List.replicate_succ, List.replicate_zero, List.cons_append, List.nil_append, bq_]
 refine .seq (.rgn [] (by simp only [go_sem, seval, al_, ar_, av_, aq_, ak_, ah_, ae_]; rfl) ?_ ?_)
 ·first | trivial | simp
 refine .seq (.rgn [bv_ [0] [] (ok_ b p [1, 1, 2, 2, 3, 3, 0] (by decide) hb (by omega) (by omega)), bv_ [0] [] (q5_ b (p + 1) hb (by omega) (by omega))] (by simp only [go_sem, seval, al_, ar_, av_, aq_, ak_, ah_, ae_]; rfl) ?_ ?_)
 ·first | trivial | simp
 refine .seq (.seq (.rgn [] (by simp only [go_sem, seval, al_, ar_, av_, aq_, ak_, ah_, ae_]; rfl) ?_ ?_))
 ·first | trivial | simp
 refine .block (.seq (.rgn [] (by simp only [go_sem, seval, al_, ar_, av_, aq_, ak_, ah_, ae_]; rfl) ?_ ?_))
 ·first | trivial | simp
 refine .condB (by simp only [go_sem, seval, al_, ar_, av_, aq_, ak_, ah_, ae_]; rfl) (by simp only [go_sem, seval, al_, ar_, av_, aq_, ak_, ah_, ae_]) (fun h12 => ?_) (fun h12 => ?_)
 ·refine .seq (.rgn [] (by simp only [go_sem, seval, al_, ar_, av_, aq_, ak_, ah_, ae_]; rfl) ?_ ?_)
  ·first | trivial | simp
  refine .ret ⟨.inr rfl, ?_⟩
  exact Out.memL' (by simp only [Tryz.results136]; rfl) (by simp only [a1_, bc_, go_sem, seval, al_, ar_, av_, aq_, ak_, ah_, ae_]) (by simp only [ba_, rns, rn, go_sem, seval, al_, ar_, av_, aq_, ak_, ah_, ae_] <;> (simp at h12; simp [b6_, d5, h12, ae_, S0, px_, o3_, ot_, fc_, gm_, ler])) (by simp) rfl (by decide) (by simp only [go_sem, seval, al_, ar_, av_, aq_, ak_, ah_, ae_]) (by simp only [ar_, go_sem, seval, al_, ar_, av_, aq_, ak_, ah_, ae_]) (by simp only [al_, go_sem, seval, al_, ar_, av_, aq_, ak_, ah_, ae_] <;> (simp at h12; simp [b6_, d5, h12]))
 ·refine .seq (.rgn [] (by simp only [go_sem, seval, al_, ar_, av_, aq_, ak_, ah_, ae_]; rfl) ?_ ?_)
  ·first | trivial | simp
  refine .condB (by simp only [go_sem, seval, al_, ar_, av_, aq_, ak_, ah_, ae_]; rfl) (by simp only [go_sem, seval, al_, ar_, av_, aq_, ak_, ah_, ae_]) (fun h15 => ?_) (fun h15 => ?_)
  ·refine .seq (.rgn [bv_ [0] [] (pa_ b (b8_ b (p + 1)).2 [[120], [121], [122]] (by decide) hb (by omega) (by omega))] (by simp only [go_sem, seval, al_, ar_, av_, aq_, ak_, ah_, ae_]; rfl) ?_ ?_)
   ·first | trivial | simp
   refine .rgn [bv_ [0] [] (pa_ b ((b8_ b (p + 1)).2 + 1) [[105, 110, 116], [105, 110, 116], [98, 111, 111, 108]] (by decide) hb (by omega) (by omega))] (by simp only [go_sem, seval, al_, ar_, av_, aq_, ak_, ah_, ae_]; rfl) ?_ ?_
   ·first | trivial | simp
   refine .seq (.rgn [] (by simp only [go_sem, seval, al_, ar_, av_, aq_, ak_, ah_, ae_]; rfl) ?_ ?_)
   ·first | trivial | simp
   refine .ret ⟨.inr rfl, ?_⟩
   exact Out.memL' (by simp only [Tryz.results136]; rfl) (by simp only [a1_, bc_, go_sem, seval, al_, ar_, av_, aq_, ak_, ah_, ae_]) (by simp only [ba_, rns, rn, go_sem, seval, al_, ar_, av_, aq_, ak_, ah_, ae_] <;> (simp at h12 h15; simp [b6_, d5, h12, h15, ae_, px_, o3_, ot_, fc_, gm_, ler, bo_])) (by simp) rfl (by decide) (by simp only [go_sem, seval, al_, ar_, av_, aq_, ak_, ah_, ae_]) (by simp only [ar_, go_sem, seval, al_, ar_, av_, aq_, ak_, ah_, ae_]) (by simp only [al_, go_sem, seval, al_, ar_, av_, aq_, ak_, ah_, ae_] <;> (simp at h12 h15; simp [b6_, d5, h12, h15]; omega))
  ·refine .seq (.rgn [] (by simp only [go_sem, seval, al_, ar_, av_, aq_, ak_, ah_, ae_]; rfl) ?_ ?_)
   ·first | trivial | simp
   refine .condB (by simp only [go_sem, seval, al_, ar_, av_, aq_, ak_, ah_, ae_]; rfl) (by simp only [go_sem, seval, al_, ar_, av_, aq_, ak_, ah_, ae_]) (fun h25 => ?_) (fun h25 => ?_)
   ·refine .rgn [bv_ [0] [] A2] (by simp only [go_sem, seval, al_, ar_, av_, aq_, ak_, ah_, ae_]; rfl) ?_ ?_
    ·first | trivial | simp
    refine .seq (.rgn [] (by simp only [go_sem, seval, al_, ar_, av_, aq_, ak_, ah_, ae_]; rfl) ?_ ?_)
    ·first | trivial | simp
    refine .ret ⟨.inr rfl, ?_⟩
    exact Out.memL' (by simp only [Tryz.results136]; rfl) (by simp only [a1_, bc_, go_sem, seval, al_, ar_, av_, aq_, ak_, ah_, ae_]) (by simp only [ba_, rns, rn, go_sem, seval, al_, ar_, av_, aq_, ak_, ah_, ae_] <;> (simp at h12 h15 h25; simp [b6_, d5, h12, h15, h25, ae_, px_, o3_, ot_, fc_, gm_, ler, bo_])) (by simp) rfl (by decide) (by simp only [go_sem, seval, al_, ar_, av_, aq_, ak_, ah_, ae_]) (by simp only [ar_, go_sem, seval, al_, ar_, av_, aq_, ak_, ah_, ae_]) (by simp only [al_, go_sem, seval, al_, ar_, av_, aq_, ak_, ah_, ae_] <;> (simp at h12 h15 h25; simp [b6_, d5, h12, h15, h25]))
   ·refine .skip (.seq (.rgn [] (by simp only [go_sem, seval, al_, ar_, av_, aq_, ak_, ah_, ae_]; rfl) ?_ ?_))
    ·first | trivial | simp
    refine .ret ⟨.inr rfl, ?_⟩
    exact Out.memL' (by simp only [Tryz.results136]; rfl) (by simp only [a1_, bc_, go_sem, seval, al_, ar_, av_, aq_, ak_, ah_, ae_]) (by simp only [ba_, rns, rn, go_sem, seval, al_, ar_, av_, aq_, ak_, ah_, ae_] <;> (simp at h12 h15 h25; simp [b6_, d5, h12, h15, h25, ae_, px_, o3_, ot_, fc_, gm_, ler, bo_])) (by simp) rfl (by decide) (by simp only [go_sem, seval, al_, ar_, av_, aq_, ak_, ah_, ae_]) (by simp only [ar_, go_sem, seval, al_, ar_, av_, aq_, ak_, ah_, ae_]) (by simp only [al_, go_sem, seval, al_, ar_, av_, aq_, ak_, ah_, ae_] <;> (simp at h12 h15 h25; simp [b6_, d5, h12, h15, h25]))
theorem aak_ {s : Sl} (h : d7_ s = true) : smb (bof s) = true := by
 obtain ⟨s1, s2, s3, s4⟩ := eu_ h
 unfold smb bof
 simp only [s1, decide_true, Bool.true_and]
 split <;> split <;> simp [op_, s3, s4, xj_]
end
end Go.Proofs.YtefmbmafdgedmaaGreatDoor
