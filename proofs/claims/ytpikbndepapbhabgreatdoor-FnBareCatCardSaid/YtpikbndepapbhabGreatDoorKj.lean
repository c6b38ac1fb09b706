/- What is drawn: expressions. Conditions: none. -/
import Derived.Test.YtpikbndepapbhabGreatDoorKh
import Derived.Test.YtpikbndepapbhabGreatDoorKi
import Derived.Test.YtpikbndepapbhabGreatDoorKd
set_option linter.unusedVariables false
set_option linter.unusedSimpArgs false
namespace Go.Proofs.YtpikbndepapbhabGreatDoor
section
set_option maxRecDepth 100000
set_option maxHeartbeats 1000000
theorem E.kind_mk (k n : Int) (s : Str) (r : List E) : (E.mk k n s r).kind = k := rfl
theorem E.n_mk (k n : Int) (s : Str) (r : List E) : (E.mk k n s r).n = n := rfl
theorem E.s_mk (k n : Int) (s : Str) (r : List E) : (E.mk k n s r).s = s := rfl
theorem E.kids_mk (k n : Int) (s : Str) (r : List E) : (E.mk k n s r).kids = r := rfl
abbrev rdB (b : Str) (p : Int) : Blk := ⟨107, 2, [[.sl false (byR b), .i .i64 p]]⟩
def sp_ : Str := [105, 110, 116]
def lfE (b : Str) (p : Int) : E := if bu_ b p 2 = 0 then .mk 1 (k8_ b (p + 1) [0, 1, 2, 7, 30, 1000000]) [] [] else .mk 2 0 (ofI b (p + 1) [[120], [121], [122], [120]]) []
def dE (b : Str) : Nat → Int → E × Int
 | 0, p => (lfE b p, p + 2)
 | d + 1, p =>
  if d = 0 then (lfE b p, p + 2)
  else if bu_ b p 4 = 0 then (lfE b (p + 1), p + 3)
  else if bu_ b (p + 1) 4 = 0 then (.mk 4 0 (ofI b (p + 2) [[105, 110, 116], [98, 111, 111, 108], [105, 110, 116]]) [(dE b d (p + 3)).1], (dE b d (p + 3)).2)
  else (.mk 3 0 (ofI b (p + 2) [[43], [45], [42], [60], [43], [42]]) [(dE b d (p + 3)).1, (dE b d (dE b d (p + 3)).2).1], (dE b d (dE b d (p + 3)).2).2)
theorem mw_ (b : Str) : ∀ (d : Nat) (p : Int), p ≤ (dE b d p).2 ∧ (dE b d p).2 ≤ p + 5 * 2 ^ d - 3
 | 0, p => by simp [dE]; omega
 | d + 1, p => by
  have e : (2 : Int) ^ (d + 1) = 2 * 2 ^ d := by rw [Int.pow_succ]; omega
  have e2 : (0 : Int) < 2 ^ d := Int.pow_pos (by decide)
  have h1 := mw_ b d (p + 3)
  have h2 := mw_ b d (dE b d (p + 3)).2
  simp only [dE]
  split
  ·dsimp only; omega
  ·split
   ·dsimp only; omega
   ·split <;> dsimp only <;> omega
theorem oa_ {b : Str} {p : Int} {l : List Int} (hl : 0 < l.length) (hp : 0 ≤ p) (hp2 : p < 1099511627776) : k8_ b p l ∈ l := by
 have := dr_ b hp hp2 (show 1 ≤ (l.length : Int) by omega)
 exact ba_ (by omega)
theorem if_ {b : Str} {p : Int} {l : List Str} (hl : 0 < l.length) (hp : 0 ≤ p) (hp2 : p < 1099511627776) : ofI b p l ∈ l := by
 have := dr_ b hp hp2 (show 1 ≤ (l.length : Int) by omega)
 exact ba_ (by omega)
theorem qo_ {n : Int} {d : Int} (hd : 1 ≤ d) (h : 0 ≤ n) (h1 : n ≤ 1000000) : form (.mk 1 n [] []) d = true := by simp [form, bz_, shape, h, h1, hd]
theorem o9_ {s : Str} {d : Int} (hd : 1 ≤ d) (h : ir_ s = true) : form (.mk 2 0 s []) d = true := by simp [form, bz_, shape, h, hd]
theorem mq_ (b : Str) (p : Int) (hp : 0 ≤ p) (hp2 : p + 1 < 1099511627776) (d : Int) (hd : 1 ≤ d) : form (lfE b p) d = true ∧ sm (lfE b p) = true ∧ many (lfE b p) d = 1 := by
 unfold lfE
 split
 ·have := oa_ (b := b) (l := [0, 1, 2, 7, 30, 1000000]) (by decide) (show 0 ≤ p + 1 by omega) hp2
  simp only [List.mem_cons, List.not_mem_nil, or_false] at this
  refine ⟨qo_ hd (by omega) (by omega), by simp [sm, sms], by simp [many, bx_]⟩
 ·have := if_ (b := b) (l := [[120], [121], [122], [120]]) (by decide) (show 0 ≤ p + 1 by omega) hp2
  simp only [List.mem_cons, List.not_mem_nil, or_false] at this
  refine ⟨o9_ hd ?_, ?_, by simp [many, bx_]⟩
  ·rcases this with h | h | h | h <;> rw [h] <;> decide
  ·rcases this with h | h | h | h <;> rw [h] <;> decide
theorem fx_ (b : Str) : ∀ (d : Nat) (p : Int), 0 ≤ p → p + 5 * 2 ^ (d + 1) < 1099511627776 → form (dE b (d + 1) p).1 ((d + 1 : Nat) : Int) = true ∧ sm (dE b (d + 1) p).1 = true
 | 0, p, hp, hp2 => by simp only [dE]; have := mq_ b p hp (by omega) 1 (by decide); exact ⟨this.1, this.2.1⟩
 | d + 1, p, hp, hp2 => by
  have e : (2 : Int) ^ (d + 1 + 1) = 2 * 2 ^ (d + 1) := by rw [Int.pow_succ]; omega
  have e2 : (0 : Int) < 2 ^ (d + 1) := Int.pow_pos (by decide)
  have e3 : ((d + 1 + 1 : Nat) : Int) - 1 = ((d + 1 : Nat) : Int) := by omega
  have q1 := mw_ b (d + 1) (p + 3)
  have h1 := fx_ b d (p + 3) (by omega) (by omega)
  have h2 := fx_ b d (dE b (d + 1) (p + 3)).2 (by omega) (by omega)
  have e4 : (decide ((1 : Int) ≤ ((d + 1 + 1 : Nat) : Int))) = true := by simp; omega
  rw [dE, if_neg (by omega)]
  split
  ·have := mq_ b (p + 1) (by omega) (by omega) ((d + 1 + 1 : Nat) : Int) (by omega); exact ⟨this.1, this.2.1⟩
  ·split
   ·have := if_ (b := b) (l := [[105, 110, 116], [98, 111, 111, 108], [105, 110, 116]]) (by decide) (show 0 ≤ p + 2 by omega) (by omega)
    simp only [List.mem_cons, List.not_mem_nil, or_false] at this
    have ht : dx_ (ofI b (p + 2) [[105, 110, 116], [98, 111, 111, 108], [105, 110, 116]]) = true := by rcases this with h | h | h <;> rw [h] <;> decide
    have hl := i0_ ht
    refine ⟨?_, ?_⟩
    ·simp only [form, bz_, shape, e3, e4, h1.1, ht]; rfl
    ·simp only [sm, sms, h1.2, T7_, List.length_nil, Bool.and_true, T5_, T3_]; omega
   ·have := if_ (b := b) (l := [[43], [45], [42], [60], [43], [42]]) (by decide) (show 0 ≤ p + 2 by omega) (by omega)
    simp only [List.mem_cons, List.not_mem_nil, or_false] at this
    have ht : ei_ (ofI b (p + 2) [[43], [45], [42], [60], [43], [42]]) = true := by rcases this with h | h | h | h | h | h <;> rw [h] <;> decide
    have hl := lt_ ht
    refine ⟨?_, ?_⟩
    ·simp only [form, bz_, shape, e3, e4, h1.1, h2.1, ht]; rfl
    ·simp only [sm, sms, h1.2, h2.2, T7_, List.length_nil, Bool.and_true, T5_, T3_]; omega
theorem vh_ (b : Str) (p : Int) : dE b 1 p = (lfE b p, p + 2) := by simp [dE]
theorem dw_ (b : Str) (d : Nat) (p : Int) : dE b (d + 1 + 1) p = if bu_ b p 4 = 0 then (lfE b (p + 1), p + 3)
  else if bu_ b (p + 1) 4 = 0 then (.mk 4 0 (ofI b (p + 2) [[105, 110, 116], [98, 111, 111, 108], [105, 110, 116]]) [(dE b (d + 1) (p + 3)).1], (dE b (d + 1) (p + 3)).2)
  else (.mk 3 0 (ofI b (p + 2) [[43], [45], [42], [60], [43], [42]]) [(dE b (d + 1) (p + 3)).1, (dE b (d + 1) (dE b (d + 1) (p + 3)).2).1], (dE b (d + 1) (dE b (d + 1) (p + 3)).2).2) := by
 rw [dE, if_neg (by omega)]
theorem pw_ (b : Str) (p deep : Int) (hb : b.length ≤ 2000) (hp : 0 ≤ p) (hp2 : p < 10000000000) (hd : deep ≤ 1) : ACall En 154 [.pt 0 2 0 0, .i .i64 deep] [rdB b p] [.ag (eC (lfE b p))] [rdB b (p + 2)] := by
 have hdd : decide (deep ≤ 1) = true := by simpa using hd
 refine ap_ (fn := Tryz.f154) [0] Tryz.func154 rfl rfl (by simp) fun C => ?_
 rw [ay_]
 simp only [Tryz.ntmps154, T7_, List.length_nil, Nat.reduceAdd, Nat.reduceSub, List.replicate_succ, List.replicate_zero, List.cons_append, List.nil_append, bl_]
 refine .seq (.rgn [] (by simp only [go_sem, seval, hdd, ak_, aq_, an_, aj_, af_, ac_]; rfl) ?_ ?_)
 ·first | trivial | simp
 refine .seq (.seq (.rgn [bi_ [0] [] (cv_ b p 4 hb hp (by omega))] (by simp only [go_sem, seval, hdd, ak_, aq_, an_, aj_, af_, ac_]; rfl) ?_ ?_))
 ·first | trivial | simp
 refine .condB (by simp only [go_sem, seval, hdd, ak_, aq_, an_, aj_, af_, ac_]; rfl) (by simp only [go_sem, seval, hdd, ak_, aq_, an_, aj_, af_, ac_]) (fun h11 => ?_) (fun h11 => ?_)
 ·refine .seq (.seq (.rgn [bi_ [0] [] (cv_ b p 2 hb hp (by omega))] (by simp only [go_sem, seval, hdd, ak_, aq_, an_, aj_, af_, ac_]; rfl) ?_ ?_))
  ·first | trivial | simp
  refine .condB (by simp only [go_sem, seval, hdd, ak_, aq_, an_, aj_, af_, ac_]; rfl) (by simp only [go_sem, seval, hdd, ak_, aq_, an_, aj_, af_, ac_]) (fun h14 => ?_) (fun h14 => ?_)
  ·refine .seq (.rgn [bi_ [0] [] (jj_ b (p + 1) [0, 1, 2, 7, 30, 1000000] (by decide) hb (by omega) (by omega))] (by simp only [go_sem, seval, hdd, ak_, aq_, an_, aj_, af_, ac_]; rfl) ?_ ?_)
   ·first | trivial | simp
   refine .ret ⟨.inr rfl, ?_⟩
   exact Out.memL' (by simp only [Tryz.results154]; rfl) (by simp only [aw_, a3_, go_sem, seval, hdd, ak_, aq_, an_, aj_, af_, ac_]) (by simp only [a2_, rns, rn, go_sem, seval, hdd, ak_, aq_, an_, aj_, af_, ac_] <;> (simp at h14; simp [lfE, h14, cy_, E.kind_mk, E.n_mk, E.s_mk, E.kids_mk, eR, ler])) (by simp) rfl (by decide) (by simp only [go_sem, seval, hdd, ak_, aq_, an_, aj_, af_, ac_]) (by simp only [aq_, go_sem, seval, hdd, ak_, aq_, an_, aj_, af_, ac_]) (by simp only [ak_, go_sem, seval, hdd, ak_, aq_, an_, aj_, af_, ac_] <;> (rw [show p + 1 + 1 = p + 2 by omega]))
  ·refine .skip (.seq (.rgn [bi_ [0] [] (lj_ b (p + 1) [[120], [121], [122], [120]] (by decide) hb (by omega) (by omega))] (by simp only [go_sem, seval, hdd, ak_, aq_, an_, aj_, af_, ac_]; rfl) ?_ ?_))
   ·first | trivial | simp
   refine .ret ⟨.inr rfl, ?_⟩
   exact Out.memL' (by simp only [Tryz.results154]; rfl) (by simp only [aw_, a3_, go_sem, seval, hdd, ak_, aq_, an_, aj_, af_, ac_]) (by simp only [a2_, rns, rn, go_sem, seval, hdd, ak_, aq_, an_, aj_, af_, ac_] <;> (simp at h14; simp [lfE, h14, cy_, E.kind_mk, E.n_mk, E.s_mk, E.kids_mk, eR, ler])) (by simp) rfl (by decide) (by simp only [go_sem, seval, hdd, ak_, aq_, an_, aj_, af_, ac_]) (by simp only [aq_, go_sem, seval, hdd, ak_, aq_, an_, aj_, af_, ac_]) (by simp only [ak_, go_sem, seval, hdd, ak_, aq_, an_, aj_, af_, ac_] <;> (rw [show p + 1 + 1 = p + 2 by omega]))
 ·exact absurd h11 (by simp)
theorem id_ (b : Str) (hb : b.length ≤ 2000) (d : Nat) : ∀ p : Int, 0 ≤ p → p + 5 * 2 ^ (d + 1) < 10000000000 → d < 10 →
  ACall En 154 [.pt 0 2 0 0, .i .i64 ((d + 1 : Nat) : Int)] [rdB b p] [.ag (eC (dE b (d + 1) p).1)] [rdB b (dE b (d + 1) p).2] := by
 induction d with
 | zero => intro p hp hp2 _; rw [vh_]; exact pw_ b p _ hb hp (by omega) (by decide)
 | succ d ih =>
 intro p hp hp2 hd10
 have e : (2 : Int) ^ (d + 1 + 1) = 2 * 2 ^ (d + 1) := by rw [Int.pow_succ]; omega
 have e2 : (0 : Int) < 2 ^ (d + 1) := Int.pow_pos (by decide)
 have q1 := mw_ b (d + 1) (p + 3)
 have hdd : decide (((d + 1 + 1 : Nat) : Int) ≤ 1) = false := by simp; omega
 have hw : IntKind.i64.wrap (((d + 1 + 1 : Nat) : Int) - 1) = ((d + 1 : Nat) : Int) := by rw [a8_ (by omega) (by omega)]; omega
 have A := fun (c1 : ¬ bu_ b p 4 = 0) => ih (p + 3) (by omega) (by omega) (by omega)
 have B := fun (c1 : ¬ bu_ b p 4 = 0) => ih (dE b (d + 1) (p + 3)).2 (by omega) (by omega) (by omega)
 refine ap_ (fn := Tryz.f154) [0] Tryz.func154 rfl rfl (by simp) fun C => ?_
 rw [ay_]
 simp only [Tryz.ntmps154, T7_, List.length_nil, Nat.reduceAdd, Nat.reduceSub, List.replicate_succ, List.replicate_zero, List.cons_append, List.nil_append, bl_]
 refine .seq (.rgn [] (by simp only [go_sem, seval, hdd, hw, ak_, aq_, an_, aj_, af_, ac_, show p + 1 + 1 = p + 2 from by omega, show p + 2 + 1 = p + 3 from by omega]; rfl) ?_ ?_)
 ·first | trivial | simp
 refine .seq (.seq (.rgn [bi_ [0] [] (cv_ b p 4 hb hp (by omega))] (by simp only [go_sem, seval, hdd, hw, ak_, aq_, an_, aj_, af_, ac_, show p + 1 + 1 = p + 2 from by omega, show p + 2 + 1 = p + 3 from by omega]; rfl) ?_ ?_))
 ·first | trivial | simp
 refine .condB (by simp only [go_sem, seval, hdd, hw, ak_, aq_, an_, aj_, af_, ac_, show p + 1 + 1 = p + 2 from by omega, show p + 2 + 1 = p + 3 from by omega]; rfl) (by simp only [go_sem, seval, hdd, hw, ak_, aq_, an_, aj_, af_, ac_, show p + 1 + 1 = p + 2 from by omega, show p + 2 + 1 = p + 3 from by omega]) (fun h11 => ?_) (fun h11 => ?_)
 ·refine .seq (.seq (.rgn [bi_ [0] [] (cv_ b (p + 1) 2 hb (by omega) (by omega))] (by simp only [go_sem, seval, hdd, hw, ak_, aq_, an_, aj_, af_, ac_, show p + 1 + 1 = p + 2 from by omega, show p + 2 + 1 = p + 3 from by omega]; rfl) ?_ ?_))
  ·first | trivial | simp
  refine .condB (by simp only [go_sem, seval, hdd, hw, ak_, aq_, an_, aj_, af_, ac_, show p + 1 + 1 = p + 2 from by omega, show p + 2 + 1 = p + 3 from by omega]; rfl) (by simp only [go_sem, seval, hdd, hw, ak_, aq_, an_, aj_, af_, ac_, show p + 1 + 1 = p + 2 from by omega, show p + 2 + 1 = p + 3 from by omega]) (fun h14 => ?_) (fun h14 => ?_)
  ·refine .seq (.rgn [bi_ [0] [] (jj_ b (p + 1 + 1) [0, 1, 2, 7, 30, 1000000] (by decide) hb (by omega) (by omega))] (by simp only [go_sem, seval, hdd, hw, ak_, aq_, an_, aj_, af_, ac_, show p + 1 + 1 = p + 2 from by omega, show p + 2 + 1 = p + 3 from by omega]; rfl) ?_ ?_)
   ·first | trivial | simp
   refine .ret ⟨.inr rfl, ?_⟩
   exact Out.memL' (by simp only [Tryz.results154]; rfl) (by simp only [aw_, a3_, go_sem, seval, hdd, hw, ak_, aq_, an_, aj_, af_, ac_, show p + 1 + 1 = p + 2 from by omega, show p + 2 + 1 = p + 3 from by omega]) (by simp only [a2_, rns, rn, go_sem, seval, hdd, hw, ak_, aq_, an_, aj_, af_, ac_, show p + 1 + 1 = p + 2 from by omega, show p + 2 + 1 = p + 3 from by omega] <;> (simp at h11 h14; simp [dw_, lfE, h11, h14, cy_, E.kind_mk, E.n_mk, E.s_mk, E.kids_mk, eR, ler, les, leV, bq_, show p + 1 + 1 = p + 2 by omega])) (by simp) rfl (by decide) (by simp only [go_sem, seval, hdd, hw, ak_, aq_, an_, aj_, af_, ac_, show p + 1 + 1 = p + 2 from by omega, show p + 2 + 1 = p + 3 from by omega]) (by simp only [aq_, go_sem, seval, hdd, hw, ak_, aq_, an_, aj_, af_, ac_, show p + 1 + 1 = p + 2 from by omega, show p + 2 + 1 = p + 3 from by omega]) (by simp only [ak_, go_sem, seval, hdd, hw, ak_, aq_, an_, aj_, af_, ac_, show p + 1 + 1 = p + 2 from by omega, show p + 2 + 1 = p + 3 from by omega] <;> (simp at h11; simp [dw_, h11]))
  ·refine .skip (.seq (.rgn [bi_ [0] [] (lj_ b (p + 1 + 1) [[120], [121], [122], [120]] (by decide) hb (by omega) (by omega))] (by simp only [go_sem, seval, hdd, hw, ak_, aq_, an_, aj_, af_, ac_, show p + 1 + 1 = p + 2 from by omega, show p + 2 + 1 = p + 3 from by omega]; rfl) ?_ ?_))
   ·first | trivial | simp
   refine .ret ⟨.inr rfl, ?_⟩
   exact Out.memL' (by simp only [Tryz.results154]; rfl) (by simp only [aw_, a3_, go_sem, seval, hdd, hw, ak_, aq_, an_, aj_, af_, ac_, show p + 1 + 1 = p + 2 from by omega, show p + 2 + 1 = p + 3 from by omega]) (by simp only [a2_, rns, rn, go_sem, seval, hdd, hw, ak_, aq_, an_, aj_, af_, ac_, show p + 1 + 1 = p + 2 from by omega, show p + 2 + 1 = p + 3 from by omega] <;> (simp at h11 h14; simp [dw_, lfE, h11, h14, cy_, E.kind_mk, E.n_mk, E.s_mk, E.kids_mk, eR, ler, les, leV, bq_, show p + 1 + 1 = p + 2 by omega])) (by simp) rfl (by decide) (by simp only [go_sem, seval, hdd, hw, ak_, aq_, an_, aj_, af_, ac_, show p + 1 + 1 = p + 2 from by omega, show p + 2 + 1 = p + 3 from by omega]) (by simp only [aq_, go_sem, seval, hdd, hw, ak_, aq_, an_, aj_, af_, ac_, show p + 1 + 1 = p + 2 from by omega, show p + 2 + 1 = p + 3 from by omega]) (by simp only [ak_, go_sem, seval, hdd, hw, ak_, aq_, an_, aj_, af_, ac_, show p + 1 + 1 = p + 2 from by omega, show p + 2 + 1 = p + 3 from by omega] <;> (simp at h11; simp [dw_, h11]))
 ·refine .skip (.seq (.seq (.rgn [bi_ [0] [] (cv_ b (p + 1) 4 hb (by omega) (by omega))] (by simp only [go_sem, seval, hdd, hw, ak_, aq_, an_, aj_, af_, ac_, show p + 1 + 1 = p + 2 from by omega, show p + 2 + 1 = p + 3 from by omega]; rfl) ?_ ?_)))
  ·first | trivial | simp
  refine .condB (by simp only [go_sem, seval, hdd, hw, ak_, aq_, an_, aj_, af_, ac_, show p + 1 + 1 = p + 2 from by omega, show p + 2 + 1 = p + 3 from by omega]; rfl) (by simp only [go_sem, seval, hdd, hw, ak_, aq_, an_, aj_, af_, ac_, show p + 1 + 1 = p + 2 from by omega, show p + 2 + 1 = p + 3 from by omega]) (fun h25 => ?_) (fun h25 => ?_)
  ·refine .seq (.rgn [bi_ [0] [] (lj_ b (p + 1 + 1) [[105, 110, 116], [98, 111, 111, 108], [105, 110, 116]] (by decide) hb (by omega) (by omega)), bi_ [0] [] (A (by simpa using h11))] (by simp only [go_sem, seval, hdd, hw, ak_, aq_, an_, aj_, af_, ac_, show p + 1 + 1 = p + 2 from by omega, show p + 2 + 1 = p + 3 from by omega]; rfl) ?_ ?_)
   ·first | trivial | simp
   refine .ret ⟨.inr rfl, ?_⟩
   exact Out.memL' (by simp only [Tryz.results154]; rfl) (by simp only [aw_, a3_, go_sem, seval, hdd, hw, ak_, aq_, an_, aj_, af_, ac_, show p + 1 + 1 = p + 2 from by omega, show p + 2 + 1 = p + 3 from by omega]) (by simp only [a2_, rns, rn, go_sem, seval, hdd, hw, ak_, aq_, an_, aj_, af_, ac_, show p + 1 + 1 = p + 2 from by omega, show p + 2 + 1 = p + 3 from by omega] <;> (simp at h11 h25; simp [dw_, h11, h25, cy_, E.kind_mk, E.n_mk, E.s_mk, E.kids_mk, eR, ler, les, leV, bq_, show p + 1 + 1 = p + 2 by omega])) (by simp) rfl (by decide) (by simp only [go_sem, seval, hdd, hw, ak_, aq_, an_, aj_, af_, ac_, show p + 1 + 1 = p + 2 from by omega, show p + 2 + 1 = p + 3 from by omega]) (by simp only [aq_, go_sem, seval, hdd, hw, ak_, aq_, an_, aj_, af_, ac_, show p + 1 + 1 = p + 2 from by omega, show p + 2 + 1 = p + 3 from by omega]) (by simp only [ak_, go_sem, seval, hdd, hw, ak_, aq_, an_, aj_, af_, ac_, show p + 1 + 1 = p + 2 from by omega, show p + 2 + 1 = p + 3 from by omega] <;> (simp at h11 h25; simp [dw_, h11, h25]))
  ·refine .skip (.seq (.rgn [bi_ [0] [] (lj_ b (p + 1 + 1) [[43], [45], [42], [60], [43], [42]] (by decide) hb (by omega) (by omega)), bi_ [0] [] (A (by simpa using h11)), bi_ [0] [] (B (by simpa using h11))] (by simp only [go_sem, seval, hdd, hw, ak_, aq_, an_, aj_, af_, ac_, show p + 1 + 1 = p + 2 from by omega, show p + 2 + 1 = p + 3 from by omega]; rfl) ?_ ?_))
   ·first | trivial | simp
   refine .ret ⟨.inr rfl, ?_⟩
   exact Out.memL' (by simp only [Tryz.results154]; rfl) (by simp only [aw_, a3_, go_sem, seval, hdd, hw, ak_, aq_, an_, aj_, af_, ac_, show p + 1 + 1 = p + 2 from by omega, show p + 2 + 1 = p + 3 from by omega]) (by simp only [a2_, rns, rn, go_sem, seval, hdd, hw, ak_, aq_, an_, aj_, af_, ac_, show p + 1 + 1 = p + 2 from by omega, show p + 2 + 1 = p + 3 from by omega] <;> (simp at h11 h25; simp [dw_, h11, h25, cy_, E.kind_mk, E.n_mk, E.s_mk, E.kids_mk, eR, ler, les, leV, bq_, show p + 1 + 1 = p + 2 by omega])) (by simp) rfl (by decide) (by simp only [go_sem, seval, hdd, hw, ak_, aq_, an_, aj_, af_, ac_, show p + 1 + 1 = p + 2 from by omega, show p + 2 + 1 = p + 3 from by omega]) (by simp only [aq_, go_sem, seval, hdd, hw, ak_, aq_, an_, aj_, af_, ac_, show p + 1 + 1 = p + 2 from by omega, show p + 2 + 1 = p + 3 from by omega]) (by simp only [ak_, go_sem, seval, hdd, hw, ak_, aq_, an_, aj_, af_, ac_, show p + 1 + 1 = p + 2 from by omega, show p + 2 + 1 = p + 3 from by omega] <;> (simp at h11 h25; simp [dw_, h11, h25]))
end
section
set_option maxRecDepth 100000
set_option maxHeartbeats 1000000
theorem v8_ {e : E} (h : form e ((2 : Nat) : Int) = true) : eok e = true := by
 have h1 := jl_ e 2 3 h
 have h2 := (f0_ e 2 h).2
 have h3 : (2 : Int) ^ 2 - 1 = 3 := by decide
 have e5 : ((2 + 3 : Nat) : Int) = 5 := by decide
 rw [e5] at h1
 simp only [eok, T5_, T3_]
 refine ⟨h1.1, ?_⟩
 rw [h1.2]
 have : (2 : Int) ^ (2 : Nat) = 4 := by decide
 omega
def dS0 (b : Str) (p : Int) : E × Int := dE b ((bu_ b p 4).toNat + 1) (p + 1)
def bs_ (b : Str) (p : Int) : E × Int := if eok (dS0 b p).1 then dS0 b p else dE b 2 (dS0 b p).2
theorem uo_ (b : Str) {p : Int} (hp : 0 ≤ p) (hp2 : p < 1000000000) : p ≤ (dS0 b p).2 ∧ (dS0 b p).2 ≤ p + 100 ∧ sm (dS0 b p).1 = true ∧ (bu_ b p 4).toNat < 4 := by
 have h1 := dr_ b hp (by omega) (show (1 : Int) ≤ 4 by decide)
 have h2 : (bu_ b p 4).toNat < 4 := by omega
 have h3 := mw_ b ((bu_ b p 4).toNat + 1) (p + 1)
 have h4 : ∀ k : Nat, k < 4 → (5 : Int) * 2 ^ (k + 1) ≤ 80 := by decide
 have h5 := h4 _ h2
 unfold dS0
 exact ⟨by omega, by omega, (fx_ b _ (p + 1) (by omega) (by omega)).2, h2⟩
theorem g5_ (b : Str) {p : Int} (hp : 0 ≤ p) (hp2 : p < 1000000000) : p ≤ (bs_ b p).2 ∧ (bs_ b p).2 ≤ p + 200 ∧ sm (bs_ b p).1 = true ∧ eok (bs_ b p).1 = true := by
 obtain ⟨h1, h2, h3, _⟩ := uo_ b hp hp2
 unfold bs_
 split
 ·rename_i h; exact ⟨h1, by omega, h3, h⟩
 ·have h4 := mw_ b 2 (dS0 b p).2
  have h5 := fx_ b 1 (dS0 b p).2 (by omega) (by omega)
  have h6 : (5 : Int) * 2 ^ 2 = 20 := by decide
  exact ⟨by omega, by omega, h5.2, v8_ h5.1⟩
theorem k4_ (b : Str) (p : Int) (hb : b.length ≤ 2000) (hp : 0 ≤ p) (hp2 : p < 1000000000) : ACall En 153 [.pt 0 2 0 0] [rdB b p] [.ag (eC (bs_ b p).1)] [rdB b (bs_ b p).2] := by
 obtain ⟨h1, h2, h3, h4⟩ := uo_ b hp hp2
 have hk : ∀ k : Nat, k < 4 → (5 : Int) * 2 ^ (k + 1) ≤ 80 := by decide
 have hr := dr_ b hp (by omega) (show (1 : Int) ≤ 4 by decide)
 have hw : IntKind.i64.wrap (1 + bu_ b p 4) = (((bu_ b p 4).toNat + 1 : Nat) : Int) := by rw [a8_ (by omega) (by omega)]; omega
 have A := id_ b hb (bu_ b p 4).toNat (p + 1) (by omega) (by have := hk _ h4; omega) (by omega)
 have A2 := id_ b hb 1 (dS0 b p).2 (by omega) (by have : (5 : Int) * 2 ^ (1 + 1) = 20 := (by decide); omega) (by decide)
 rw [show ((1 + 1 : Nat) : Int) = 2 from rfl, show 1 + 1 = 2 from rfl] at A2
 rw [show dE b ((bu_ b p 4).toNat + 1) (p + 1) = dS0 b p from rfl] at A
 refine ap_ (fn := Tryz.f153) [0] Tryz.func153 rfl rfl (by simp) fun C => ?_
 rw [ay_]
 simp only [Tryz.ntmps153, T7_, List.length_nil, Nat.reduceAdd, Nat.reduceSub, List.replicate_succ, List.replicate_zero, List.cons_append, List.nil_append, bl_]
 refine .seq (.rgn [] (by simp only [go_sem, seval, hw, ak_, aq_]; rfl) ?_ ?_)
 ·first | trivial | simp
 refine .seq (.rgn [bi_ [0] [] (cv_ b p 4 hb hp (by omega)), bi_ [0] [] A] (by simp only [go_sem, seval, hw, ak_, aq_]; rfl) ?_ ?_)
 ·first | trivial | simp
 refine .seq (.seq (.rgn [a4_ (jh_ (dS0 b p).1 h3)] (by simp only [go_sem, seval, hw, ak_, aq_]; rfl) ?_ ?_))
 ·first | trivial | simp
 refine .condB (by simp only [go_sem, seval, hw, ak_, aq_]; rfl) (by simp only [go_sem, seval, hw, ak_, aq_]) (fun h11 => ?_) (fun h11 => ?_)
 ·refine .seq (.rgn [bi_ [0] [] A2] (by simp only [go_sem, seval, hw, ak_, aq_]; rfl) ?_ ?_)
  ·first | trivial | simp
  refine .ret ⟨.inr rfl, ?_⟩
  exact Out.mem' (by simp only [Tryz.results153]; rfl) (by simp only [aw_, a3_, go_sem, seval, hw, ak_, aq_]) (by simp only [a2_, rns, rn, go_sem, seval, hw, ak_, aq_] <;> (simp at h11; simp [bs_, h11, cy_])) (by simp) rfl (by decide) (by simp only [go_sem, seval, hw, ak_, aq_]) (by simp only [aq_, go_sem, seval, hw, ak_, aq_]) (by simp only [ak_, go_sem, seval, hw, ak_, aq_] <;> (simp at h11; simp [bs_, h11]))
 ·refine .skip (.seq (.rgn [] (by simp only [go_sem, seval, hw, ak_, aq_]; rfl) ?_ ?_))
  ·first | trivial | simp
  refine .ret ⟨.inr rfl, ?_⟩
  exact Out.mem' (by simp only [Tryz.results153]; rfl) (by simp only [aw_, a3_, go_sem, seval, hw, ak_, aq_]) (by simp only [a2_, rns, rn, go_sem, seval, hw, ak_, aq_] <;> (simp at h11; simp [bs_, h11, cy_])) (by simp) rfl (by decide) (by simp only [go_sem, seval, hw, ak_, aq_]) (by simp only [aq_, go_sem, seval, hw, ak_, aq_]) (by simp only [ak_, go_sem, seval, hw, ak_, aq_] <;> (simp at h11; simp [bs_, h11]))
def asN : Nat → E → E
 | 0, e => e
 | k + 1, e => .mk 4 0 [105, 110, 116] [asN k e]
theorem qu_ {e : E} (h : sm e = true) : ∀ k, sm (asN k e) = true
 | 0 => h
 | k + 1 => by simp only [asN, sm, sms, qu_ h k]; simp
def hh_ (b : Str) (q k : Int) (e : E) : E :=
 if k = 0 then .mk (k8_ b q [0, 5, 3, 4]) e.n e.s e.kids
 else if k = 1 then .mk e.kind (k8_ b q [1, -1, 1000001]) e.s e.kids
 else if k = 2 then .mk e.kind e.n (ofI b q [[108, 101, 116], [88], [60], [105, 110, 116], [120]]) e.kids
 else if k = 3 then asN 5 e
 else e
def gr_ (q k : Int) : Int := if k = 0 ∨ k = 1 ∨ k = 2 then q + 1 else q
def cu_ (b : Str) (p : Int) : E × Int := (hh_ b ((bs_ b p).2 + 1) (bu_ b (bs_ b p).2 48) (bs_ b p).1, gr_ ((bs_ b p).2 + 1) (bu_ b (bs_ b p).2 48))
theorem tx_ (b : Str) {p : Int} (hp : 0 ≤ p) (hp2 : p < 1000000000) : p ≤ (cu_ b p).2 ∧ (cu_ b p).2 ≤ p + 300 ∧ sm (cu_ b p).1 = true := by
 obtain ⟨h1, h2, h3, h4⟩ := g5_ b hp hp2
 have hs := cl_ h3
 have hk := jx_ h3
 refine ⟨by simp only [cu_, gr_]; split <;> omega, by simp only [cu_, gr_]; split <;> omega, ?_⟩
 simp only [cu_, hh_]
 split
 ·simp only [sm, T5_, T3_]; exact ⟨⟨hs.1, hk⟩, hs.2.2⟩
 ·split
  ·simp only [sm, T5_, T3_]; exact ⟨⟨hs.1, hk⟩, hs.2.2⟩
  ·split
   ·have := if_ (b := b) (p := (bs_ b p).2 + 1) (l := [[108, 101, 116], [88], [60], [105, 110, 116], [120]]) (by decide) (by omega) (by omega)
    simp only [List.mem_cons, List.not_mem_nil, or_false] at this
    simp only [sm, T5_, T3_]
    refine ⟨⟨?_, hk⟩, hs.2.2⟩
    rcases this with h | h | h | h | h <;> rw [h] <;> decide
   ·split
    ·exact qu_ h3 5
    ·exact h3
theorem mu_ (b : Str) (p : Int) (hb : b.length ≤ 2000) (hp : 0 ≤ p) (hp2 : p < 1000000000) : ACall En 107 [.pt 0 2 0 0] [rdB b p] [.ag (eC (cu_ b p).1)] [rdB b (cu_ b p).2] := by
 obtain ⟨h1, h2, h3, _⟩ := g5_ b hp hp2
 refine ap_ (fn := Tryz.f107) [0] Tryz.func107 rfl rfl (by simp) fun C => ?_
 rw [ay_]
 simp only [Tryz.ntmps107, T7_, List.length_nil, Nat.reduceAdd, Nat.reduceSub, List.replicate_succ, List.replicate_zero, List.cons_append, List.nil_append, bl_]
 refine .seq (.rgn [] (by simp only [go_sem, seval, ak_, aq_, an_, aj_, af_, ac_]; rfl) ?_ ?_)
 ·first | trivial | simp
 refine .seq (.rgn [bi_ [0] [] (k4_ b p hb hp hp2)] (by simp only [go_sem, seval, ak_, aq_, an_, aj_, af_, ac_]; rfl) ?_ ?_)
 ·first | trivial | simp
 refine .seqJ (fun u : Unit => ⟨[.no, .no, .pt 12 4 0 0, .pt 13 4 0 0, .no, .no, .no, .no, .no, .no, .no, .no, .no, .no, .no, .no, .no, .no, .no, .no, .no, .no, .no, .no, .no, .no, .no, .no, .no, .no, .no, .no, .no, .no, .no, .no, .no], a1_ [(0, rdB b (cu_ b p).2), (12, ⟨33, 4, [[.i .i64 0, .i .i64 0, .s [], .sl true []]]⟩), (13, ⟨33, 4, [eC (cu_ b p).1]⟩)], us [12, 13]⟩) (fun u : Unit => True) ?_ (fun u hJ => ?_)
 ·refine .seq (.rgn [bi_ [0] [] (cv_ b (bs_ b p).2 48 hb (by omega) (by omega))] (by simp only [go_sem, seval, ak_, aq_, an_, aj_, af_, ac_]; rfl) ?_ ?_)
  ·first | trivial | simp
  refine .block (.seq (.rgn [] (by simp only [go_sem, seval, ak_, aq_, an_, aj_, af_, ac_]; rfl) ?_ ?_))
  ·first | trivial | simp
  refine .condB (by simp only [go_sem, seval, ak_, aq_, an_, aj_, af_, ac_]; rfl) (by simp only [go_sem, seval, ak_, aq_, an_, aj_, af_, ac_]) (fun h9 => ?_) (fun h9 => ?_)
  ·refine .rgn [bi_ [0] [] (jj_ b ((bs_ b p).2 + 1) [0, 5, 3, 4] (by decide) hb (by omega) (by omega))] (by simp only [go_sem, seval, ak_, aq_, an_, aj_, af_, ac_]; rfl) ?_ ?_
   ·first | trivial | simp
   refine Exists.intro (()) ⟨?_, ?_⟩
   ·trivial
   exact Can.weak (Weak.lit (by simp only [go_sem, seval, ak_, aq_, an_, aj_, af_, ac_, au_, leV, as_, at_, V.inn, us, T9_, Ta_] <;> (simp)) (by simp only [go_sem, seval, ak_, aq_, an_, aj_, af_, ac_, au_, leV, as_, at_, V.inn, us, T9_, Ta_]) (by simp only [go_sem, seval, ak_, aq_, an_, aj_, af_, ac_, au_, leV, as_, at_, V.inn, us, T9_, Ta_] <;> ((try (have := hI); try (have hk5 : k = 5 := by simp at h30; omega); try subst hk5); simp_all [cu_, hh_, gr_, E.kind_mk, E.n_mk, E.s_mk, E.kids_mk]; done)))
  ·refine .seq (.rgn [] (by simp only [go_sem, seval, ak_, aq_, an_, aj_, af_, ac_]; rfl) ?_ ?_)
   ·first | trivial | simp
   refine .condB (by simp only [go_sem, seval, ak_, aq_, an_, aj_, af_, ac_]; rfl) (by simp only [go_sem, seval, ak_, aq_, an_, aj_, af_, ac_]) (fun h15 => ?_) (fun h15 => ?_)
   ·refine .rgn [bi_ [0] [] (jj_ b ((bs_ b p).2 + 1) [1, -1, 1000001] (by decide) hb (by omega) (by omega))] (by simp only [go_sem, seval, ak_, aq_, an_, aj_, af_, ac_]; rfl) ?_ ?_
    ·first | trivial | simp
    refine Exists.intro (()) ⟨?_, ?_⟩
    ·trivial
    exact Can.weak (Weak.lit (by simp only [go_sem, seval, ak_, aq_, an_, aj_, af_, ac_, au_, leV, as_, at_, V.inn, us, T9_, Ta_] <;> (simp)) (by simp only [go_sem, seval, ak_, aq_, an_, aj_, af_, ac_, au_, leV, as_, at_, V.inn, us, T9_, Ta_]) (by simp only [go_sem, seval, ak_, aq_, an_, aj_, af_, ac_, au_, leV, as_, at_, V.inn, us, T9_, Ta_] <;> ((try (have := hI); try (have hk5 : k = 5 := by simp at h30; omega); try subst hk5); simp_all [cu_, hh_, gr_, E.kind_mk, E.n_mk, E.s_mk, E.kids_mk]; done)))
   ·refine .seq (.rgn [] (by simp only [go_sem, seval, ak_, aq_, an_, aj_, af_, ac_]; rfl) ?_ ?_)
    ·first | trivial | simp
    refine .condB (by simp only [go_sem, seval, ak_, aq_, an_, aj_, af_, ac_]; rfl) (by simp only [go_sem, seval, ak_, aq_, an_, aj_, af_, ac_]) (fun h21 => ?_) (fun h21 => ?_)
    ·refine .rgn [bi_ [0] [] (lj_ b ((bs_ b p).2 + 1) [[108, 101, 116], [88], [60], [105, 110, 116], [120]] (by decide) hb (by omega) (by omega))] (by simp only [go_sem, seval, ak_, aq_, an_, aj_, af_, ac_]; rfl) ?_ ?_
     ·first | trivial | simp
     refine Exists.intro (()) ⟨?_, ?_⟩
     ·trivial
     exact Can.weak (Weak.lit (by simp only [go_sem, seval, ak_, aq_, an_, aj_, af_, ac_, au_, leV, as_, at_, V.inn, us, T9_, Ta_] <;> (simp)) (by simp only [go_sem, seval, ak_, aq_, an_, aj_, af_, ac_, au_, leV, as_, at_, V.inn, us, T9_, Ta_]) (by simp only [go_sem, seval, ak_, aq_, an_, aj_, af_, ac_, au_, leV, as_, at_, V.inn, us, T9_, Ta_] <;> ((try (have := hI); try (have hk5 : k = 5 := by simp at h30; omega); try subst hk5); simp_all [cu_, hh_, gr_, E.kind_mk, E.n_mk, E.s_mk, E.kids_mk]; done)))
    ·refine .seq (.rgn [] (by simp only [go_sem, seval, ak_, aq_, an_, aj_, af_, ac_]; rfl) ?_ ?_)
     ·first | trivial | simp
     refine .condB (by simp only [go_sem, seval, ak_, aq_, an_, aj_, af_, ac_]; rfl) (by simp only [go_sem, seval, ak_, aq_, an_, aj_, af_, ac_]) (fun h27 => ?_) (fun h27 => ?_)
     ·refine .seq (.rgn [] (by simp only [go_sem, seval, ak_, aq_, an_, aj_, af_, ac_]; rfl) ?_ ?_)
      ·first | trivial | simp
      refine .block (.loopK (fun k : Nat => ⟨[.no, .no, .pt 12 4 0 0, .pt 13 4 0 0, .i .i64 k, .no, .no, .no, .no, .no, .no, .no, .no, .no, .no, .no, .no, .no, .no, .no, .no, .no, .no, .no, .no, .no, .no, .no, .no, .no, .no, .no, .no, .no, .no, .no, .no], a1_ [(0, rdB b ((bs_ b p).2 + 1)), (12, ⟨33, 4, [[.i .i64 0, .i .i64 0, .s [], .sl true []]]⟩), (13, ⟨33, 4, [eC (asN k (bs_ b p).1)]⟩)], us [12, 13]⟩) (fun k : Nat => k ≤ 5) (fun k : Nat => 5 - k) (0) ?_ ?_ (fun k hI => ?_))
      ·simp
      ·exact Can.weak (Weak.lit (by simp only [go_sem, seval, ak_, aq_, an_, aj_, af_, ac_, au_, leV, as_, at_, V.inn, us, T9_, Ta_] <;> (rfl)) (by simp only [go_sem, seval, ak_, aq_, an_, aj_, af_, ac_, au_, leV, as_, at_, V.inn, us, T9_, Ta_]) (by simp only [go_sem, seval, ak_, aq_, an_, aj_, af_, ac_, au_, leV, as_, at_, V.inn, us, T9_, Ta_] <;> (simp [asN])))
      refine .seq (.seq (.rgn [] (by simp only [go_sem, seval, ak_, aq_, an_, aj_, af_, ac_]; rfl) ?_ ?_))
      ·first | trivial | simp
      refine .condB (by simp only [go_sem, seval, ak_, aq_, an_, aj_, af_, ac_]; rfl) (by simp only [go_sem, seval, ak_, aq_, an_, aj_, af_, ac_]) (fun h30 => ?_) (fun h30 => ?_)
      ·refine .skip (.seq (.block (.rgn [] (by simp only [go_sem, seval, ak_, aq_, an_, aj_, af_, ac_]; rfl) ?_ ?_)))
       ·first | trivial | simp
       refine .rgn [] (by simp only [go_sem, seval, ak_, aq_, an_, aj_, af_, ac_]; rfl) ?_ ?_
       ·first | trivial | simp
       refine Exists.intro (k + 1) ⟨?_, ?_, ?_⟩
       ·simp at h30; omega
       ·simp at h30; omega
       refine Can.trans (Can.leAt 13 ([[.i .i64 4, .i .i64 0, .s [105, 110, 116], .sl false [eC (asN k (bs_ b p).1)]]]) (by simp only [go_sem, seval, ak_, aq_, an_, aj_, af_, ac_] <;> rfl) (by simp only [go_sem, seval, ak_, aq_, an_, aj_, af_, ac_, ler, les, leV] <;> (first | trivial | simp)) (by simp only [go_sem, seval, ak_, aq_, an_, aj_, af_, ac_] <;> rfl)) ?_
       exact Can.weak (Weak.lit (by simp only [go_sem, seval, ak_, aq_, an_, aj_, af_, ac_, au_, leV, as_, at_, V.inn, us, T9_, Ta_] <;> (rw [a8_ (by simp at h30; omega) (by simp at h30; omega)]; simp)) (by simp only [go_sem, seval, ak_, aq_, an_, aj_, af_, ac_, au_, leV, as_, at_, V.inn, us, T9_, Ta_]) (by simp only [go_sem, seval, ak_, aq_, an_, aj_, af_, ac_, au_, leV, as_, at_, V.inn, us, T9_, Ta_] <;> (simp [asN, E.kind_mk, E.n_mk, E.s_mk, E.kids_mk, eR, cy_])))
      ·refine .exit ?_
       refine Exists.intro (()) ⟨?_, ?_⟩
       ·trivial
       exact Can.weak (Weak.lit (by simp only [go_sem, seval, ak_, aq_, an_, aj_, af_, ac_, au_, leV, as_, at_, V.inn, us, T9_, Ta_] <;> (simp)) (by simp only [go_sem, seval, ak_, aq_, an_, aj_, af_, ac_, au_, leV, as_, at_, V.inn, us, T9_, Ta_]) (by simp only [go_sem, seval, ak_, aq_, an_, aj_, af_, ac_, au_, leV, as_, at_, V.inn, us, T9_, Ta_] <;> ((try (have := hI); try (have hk5 : k = 5 := by simp at h30; omega); try subst hk5); simp_all [cu_, hh_, gr_, E.kind_mk, E.n_mk, E.s_mk, E.kids_mk]; done)))
     ·refine .skip ?_
      refine Exists.intro (()) ⟨?_, ?_⟩
      ·trivial
      exact Can.weak (Weak.lit (by simp only [go_sem, seval, ak_, aq_, an_, aj_, af_, ac_, au_, leV, as_, at_, V.inn, us, T9_, Ta_] <;> (simp)) (by simp only [go_sem, seval, ak_, aq_, an_, aj_, af_, ac_, au_, leV, as_, at_, V.inn, us, T9_, Ta_]) (by simp only [go_sem, seval, ak_, aq_, an_, aj_, af_, ac_, au_, leV, as_, at_, V.inn, us, T9_, Ta_] <;> ((try (have := hI); try (have hk5 : k = 5 := by simp at h30; omega); try subst hk5); simp_all [cu_, hh_, gr_, E.kind_mk, E.n_mk, E.s_mk, E.kids_mk]; done)))
 refine .seq (.rgn [] (by simp only [go_sem, seval, ak_, aq_, an_, aj_, af_, ac_]; rfl) ?_ ?_)
 ·first | trivial | simp
 refine .ret ⟨.inr rfl, ?_⟩
 exact Out.mem' (by simp only [Tryz.results107]; rfl) (by simp only [aw_, a3_, go_sem, seval, ak_, aq_, an_, aj_, af_, ac_]) (by simp only [a2_, rns, rn, go_sem, seval, ak_, aq_, an_, aj_, af_, ac_] <;> (simp [cy_])) (by simp) rfl (by decide) (by simp only [go_sem, seval, ak_, aq_, an_, aj_, af_, ac_]) (by simp only [aq_, go_sem, seval, ak_, aq_, an_, aj_, af_, ac_]) (by simp only [ak_, go_sem, seval, ak_, aq_, an_, aj_, af_, ac_] <;> (simp))
end
section
set_option maxRecDepth 100000
set_option maxHeartbeats 1000000
def sC (s : Sl) : List V := .i .i64 s.kind :: .s s.name :: .s s.type :: (eC s.expr ++ eC s.thn)
theorem al_ (s : Sl) : sC s = [.i .i64 s.kind, .s s.name, .s s.type, .i .i64 s.expr.kind, .i .i64 s.expr.n, .s s.expr.s, .sl false (eR s.expr.kids), .i .i64 s.thn.kind, .i .i64 s.thn.n, .s s.thn.s, .sl false (eR s.thn.kids)] := by
 simp only [sC, cy_]; rfl
def f7_ (s : Sl) : Bool := decide (s.name.length < 4611686018427387904) && decide (s.type.length < 4611686018427387904) && sm s.expr && sm s.thn
theorem lb_ {s : Sl} (h : f7_ s = true) : s.name.length < 4611686018427387904 ∧ s.type.length < 4611686018427387904 ∧ sm s.expr = true ∧ sm s.thn = true := by
 simp only [f7_, T5_, T3_] at h; exact ⟨h.1.1.1, h.1.1.2, h.1.2, h.2⟩
def d5 (b : Str) (p k : Int) : Sl × Int :=
 if k = 0 then (S0, (bs_ b p).2)
 else if k = 1 then (⟨1, ofI b (bs_ b p).2 [[120], [121], [122]], ofI b ((bs_ b p).2 + 1) [[105, 110, 116], [105, 110, 116], [98, 111, 111, 108]], (bs_ b p).1, E0⟩, (bs_ b p).2 + 2)
 else if k = 3 then (⟨3, [], [], (bs_ b p).1, (dE b 2 (bs_ b p).2).1⟩, (dE b 2 (bs_ b p).2).2)
 else (⟨k, [], [], (bs_ b p).1, E0⟩, (bs_ b p).2)
def bp_ (b : Str) (p : Int) : Sl × Int := d5 b (p + 1) (k8_ b p [1, 1, 2, 2, 3, 3, 0])
theorem kn_ : E0.kind = 0 := rfl
theorem ko_ : E0.n = 0 := rfl
theorem j8_ : E0.s = [] := rfl
theorem dk_ : E0.kids = [] := rfl
theorem eg_ : eR [] = [] := by simp only [eR]
theorem oy_ : wf E0 = true := by decide
theorem qk_ : sm E0 = true := by decide
theorem m1_ {b : Str} {p : Int} {l : List Str} (hl : 0 < l.length) (hp : 0 ≤ p) (hp2 : p < 1099511627776) (k : Nat) (h : ∀ s ∈ l, s.length ≤ k) : (ofI b p l).length ≤ k := h _ (if_ hl hp hp2)
theorem hm_ (b : Str) {p : Int} (hp : 0 ≤ p) (hp2 : p < 100000000) : p ≤ (bp_ b p).2 ∧ (bp_ b p).2 ≤ p + 300 ∧ f7_ (bp_ b p).1 = true ∧ wf (bp_ b p).1.expr = true ∧ wf (bp_ b p).1.thn = true ∧ ((bp_ b p).1.kind = 0 ∨ (bp_ b p).1.kind = 1 ∨ (bp_ b p).1.kind = 2 ∨ (bp_ b p).1.kind = 3) := by
 obtain ⟨h1, h2, h3, h4⟩ := g5_ b (p := p + 1) (by omega) (by omega)
 have hk := oa_ (b := b) (p := p) (l := [1, 1, 2, 2, 3, 3, 0]) (by decide) hp (by omega)
 have h5 := mw_ b 2 (bs_ b (p + 1)).2
 have h6 := fx_ b 1 (bs_ b (p + 1)).2 (by omega) (by omega)
 have h7 : (5 : Int) * 2 ^ 2 = 20 := by decide
 have l1 := m1_ (b := b) (p := (bs_ b (p + 1)).2) (l := [[120], [121], [122]]) (by decide) (by omega) (by omega) 4 (by decide)
 have l2 := m1_ (b := b) (p := (bs_ b (p + 1)).2 + 1) (l := [[105, 110, 116], [105, 110, 116], [98, 111, 111, 108]]) (by decide) (by omega) (by omega) 4 (by decide)
 simp only [List.mem_cons, List.not_mem_nil, or_false] at hk
 unfold bp_
 generalize k8_ b p [1, 1, 2, 2, 3, 3, 0] = k at hk
 unfold d5
 split
 ·refine ⟨by dsimp only; omega, by dsimp only; omega, show f7_ S0 = true by decide, oy_, oy_, .inl rfl⟩
 ·split
  ·refine ⟨by dsimp only; omega, by dsimp only; omega, ?_, h1_ h4, oy_, .inr (.inl rfl)⟩
   simp only [f7_, h3, qk_, Bool.and_true, T5_, T3_]; omega
  ·split
   ·exact ⟨by dsimp only; omega, by dsimp only; omega, by simp only [f7_, h3, h6.2, List.length_nil]; rfl, h1_ h4, jy_ _ _ h6.1, .inr (.inr (.inr rfl))⟩
   ·exact ⟨by dsimp only; omega, by dsimp only; omega, by simp only [f7_, h3, qk_, List.length_nil]; rfl, h1_ h4, oy_, by dsimp only; omega⟩
theorem lp_ (b : Str) (p : Int) (hb : b.length ≤ 2000) (hp : 0 ≤ p) (hp2 : p < 100000000) : ACall En 104 [.pt 0 2 0 0] [rdB b p] [.ag (sC (bp_ b p).1)] [rdB b (bp_ b p).2] := by
 obtain ⟨h1, h2, h3, h4⟩ := g5_ b (p := p + 1) (by omega) (by omega)
 have A2 := id_ b hb 1 (bs_ b (p + 1)).2 (by omega) (by have : (5 : Int) * 2 ^ (1 + 1) = 20 := (by decide); omega) (by decide)
 rw [show ((1 + 1 : Nat) : Int) = 2 from rfl, show 1 + 1 = 2 from rfl] at A2
 refine ap_ (fn := Tryz.f104) [0] Tryz.func104 rfl rfl (by simp) fun C => ?_
 rw [ay_]
 simp only [Tryz.ntmps104, T7_, List.length_nil, Nat.reduceAdd, Nat.reduceSub, List.replicate_succ, List.replicate_zero, List.cons_append, List.nil_append, bl_]
 refine .seq (.rgn [] (by simp only [go_sem, seval, ak_, aq_, an_, aj_, af_, ac_, al_]; rfl) ?_ ?_)
 ·first | trivial | simp
 refine .seq (.rgn [bi_ [0] [] (jj_ b p [1, 1, 2, 2, 3, 3, 0] (by decide) hb (by omega) (by omega)), bi_ [0] [] (k4_ b (p + 1) hb (by omega) (by omega))] (by simp only [go_sem, seval, ak_, aq_, an_, aj_, af_, ac_, al_]; rfl) ?_ ?_)
 ·first | trivial | simp
 refine .seq (.seq (.rgn [] (by simp only [go_sem, seval, ak_, aq_, an_, aj_, af_, ac_, al_]; rfl) ?_ ?_))
 ·first | trivial | simp
 refine .block (.seq (.rgn [] (by simp only [go_sem, seval, ak_, aq_, an_, aj_, af_, ac_, al_]; rfl) ?_ ?_))
 ·first | trivial | simp
 refine .condB (by simp only [go_sem, seval, ak_, aq_, an_, aj_, af_, ac_, al_]; rfl) (by simp only [go_sem, seval, ak_, aq_, an_, aj_, af_, ac_, al_]) (fun h12 => ?_) (fun h12 => ?_)
 ·refine .seq (.rgn [] (by simp only [go_sem, seval, ak_, aq_, an_, aj_, af_, ac_, al_]; rfl) ?_ ?_)
  ·first | trivial | simp
  refine .ret ⟨.inr rfl, ?_⟩
  exact Out.memL' (by simp only [Tryz.results104]; rfl) (by simp only [aw_, a3_, go_sem, seval, ak_, aq_, an_, aj_, af_, ac_, al_]) (by simp only [a2_, rns, rn, go_sem, seval, ak_, aq_, an_, aj_, af_, ac_, al_] <;> (simp at h12; simp [bp_, d5, h12, al_, S0, kn_, ko_, j8_, dk_, eg_, ler])) (by simp) rfl (by decide) (by simp only [go_sem, seval, ak_, aq_, an_, aj_, af_, ac_, al_]) (by simp only [aq_, go_sem, seval, ak_, aq_, an_, aj_, af_, ac_, al_]) (by simp only [ak_, go_sem, seval, ak_, aq_, an_, aj_, af_, ac_, al_] <;> (simp at h12; simp [bp_, d5, h12]))
 ·refine .seq (.rgn [] (by simp only [go_sem, seval, ak_, aq_, an_, aj_, af_, ac_, al_]; rfl) ?_ ?_)
  ·first | trivial | simp
  refine .condB (by simp only [go_sem, seval, ak_, aq_, an_, aj_, af_, ac_, al_]; rfl) (by simp only [go_sem, seval, ak_, aq_, an_, aj_, af_, ac_, al_]) (fun h15 => ?_) (fun h15 => ?_)
  ·refine .seq (.rgn [bi_ [0] [] (lj_ b (bs_ b (p + 1)).2 [[120], [121], [122]] (by decide) hb (by omega) (by omega))] (by simp only [go_sem, seval, ak_, aq_, an_, aj_, af_, ac_, al_]; rfl) ?_ ?_)
   ·first | trivial | simp
   refine .rgn [bi_ [0] [] (lj_ b ((bs_ b (p + 1)).2 + 1) [[105, 110, 116], [105, 110, 116], [98, 111, 111, 108]] (by decide) hb (by omega) (by omega))] (by simp only [go_sem, seval, ak_, aq_, an_, aj_, af_, ac_, al_]; rfl) ?_ ?_
   ·first | trivial | simp
   refine .seq (.rgn [] (by simp only [go_sem, seval, ak_, aq_, an_, aj_, af_, ac_, al_]; rfl) ?_ ?_)
   ·first | trivial | simp
   refine .ret ⟨.inr rfl, ?_⟩
   exact Out.memL' (by simp only [Tryz.results104]; rfl) (by simp only [aw_, a3_, go_sem, seval, ak_, aq_, an_, aj_, af_, ac_, al_]) (by simp only [a2_, rns, rn, go_sem, seval, ak_, aq_, an_, aj_, af_, ac_, al_] <;> (simp at h12 h15; simp [bp_, d5, h12, h15, al_, kn_, ko_, j8_, dk_, eg_, ler, bq_])) (by simp) rfl (by decide) (by simp only [go_sem, seval, ak_, aq_, an_, aj_, af_, ac_, al_]) (by simp only [aq_, go_sem, seval, ak_, aq_, an_, aj_, af_, ac_, al_]) (by simp only [ak_, go_sem, seval, ak_, aq_, an_, aj_, af_, ac_, al_] <;> (simp at h12 h15; simp [bp_, d5, h12, h15]; omega))
  ·refine .seq (.rgn [] (by simp only [go_sem, seval, ak_, aq_, an_, aj_, af_, ac_, al_]; rfl) ?_ ?_)
   ·first | trivial | simp
   refine .condB (by simp only [go_sem, seval, ak_, aq_, an_, aj_, af_, ac_, al_]; rfl) (by simp only [go_sem, seval, ak_, aq_, an_, aj_, af_, ac_, al_]) (fun h25 => ?_) (fun h25 => ?_)
   ·refine .rgn [bi_ [0] [] A2] (by simp only [go_sem, seval, ak_, aq_, an_, aj_, af_, ac_, al_]; rfl) ?_ ?_
    ·first | trivial | simp
    refine .seq (.rgn [] (by simp only [go_sem, seval, ak_, aq_, an_, aj_, af_, ac_, al_]; rfl) ?_ ?_)
    ·first | trivial | simp
    refine .ret ⟨.inr rfl, ?_⟩
    exact Out.memL' (by simp only [Tryz.results104]; rfl) (by simp only [aw_, a3_, go_sem, seval, ak_, aq_, an_, aj_, af_, ac_, al_]) (by simp only [a2_, rns, rn, go_sem, seval, ak_, aq_, an_, aj_, af_, ac_, al_] <;> (simp at h12 h15 h25; simp [bp_, d5, h12, h15, h25, al_, kn_, ko_, j8_, dk_, eg_, ler, bq_])) (by simp) rfl (by decide) (by simp only [go_sem, seval, ak_, aq_, an_, aj_, af_, ac_, al_]) (by simp only [aq_, go_sem, seval, ak_, aq_, an_, aj_, af_, ac_, al_]) (by simp only [ak_, go_sem, seval, ak_, aq_, an_, aj_, af_, ac_, al_] <;> (simp at h12 h15 h25; simp [bp_, d5, h12, h15, h25]))
   ·refine .skip (.seq (.rgn [] (by simp only [go_sem, seval, ak_, aq_, an_, aj_, af_, ac_, al_]; rfl) ?_ ?_))
    ·first | trivial | simp
    refine .ret ⟨.inr rfl, ?_⟩
    exact Out.memL' (by simp only [Tryz.results104]; rfl) (by simp only [aw_, a3_, go_sem, seval, ak_, aq_, an_, aj_, af_, ac_, al_]) (by simp only [a2_, rns, rn, go_sem, seval, ak_, aq_, an_, aj_, af_, ac_, al_] <;> (simp at h12 h15 h25; simp [bp_, d5, h12, h15, h25, al_, kn_, ko_, j8_, dk_, eg_, ler, bq_])) (by simp) rfl (by decide) (by simp only [go_sem, seval, ak_, aq_, an_, aj_, af_, ac_, al_]) (by simp only [aq_, go_sem, seval, ak_, aq_, an_, aj_, af_, ac_, al_]) (by simp only [ak_, go_sem, seval, ak_, aq_, an_, aj_, af_, ac_, al_] <;> (simp at h12 h15 h25; simp [bp_, d5, h12, h15, h25]))
theorem sb_ (s : Sl) (hs : f7_ s = true) (w1 : wf s.expr = true) (w2 : wf s.thn = true) : ACall En 53 [.ag (sC s)] [] [.ag (bC (bof s))] [] := by
 obtain ⟨s1, s2, s3, s4⟩ := lb_ hs
 refine ap_ (fn := Tryz.f53) [] Tryz.func53 rfl rfl (by simp) fun C => ?_
 rw [ay_]
 simp only [Tryz.ntmps53, T7_, List.length_nil, Nat.reduceAdd, Nat.reduceSub, List.replicate_succ, List.replicate_zero, List.cons_append, List.nil_append, bl_]
 refine .seq (.rgn [] (by simp only [go_sem, seval, al_, ae_]; rfl) ?_ ?_)
 ·first | trivial | simp
 refine .seq (.rgn [] (by simp only [go_sem, seval, al_, ae_]; rfl) ?_ ?_)
 ·first | trivial | simp
 refine .seq (.seq (.rgn [] (by simp only [go_sem, seval, al_, ae_]; rfl) ?_ ?_))
 ·first | trivial | simp
 refine .condB (by simp only [go_sem, seval, al_, ae_]; rfl) (by simp only [go_sem, seval, al_, ae_]) (fun h11 => ?_) (fun h11 => ?_)
 ·refine .rgn [a4_ (h2_ s.expr w1 s3)] (by simp only [go_sem, seval, al_, ae_]; rfl) ?_ ?_
  ·first | trivial | simp
  refine .seq (.seq (.rgn [] (by simp only [go_sem, seval, al_, ae_]; rfl) ?_ ?_))
  ·first | trivial | simp
  refine .condB (by simp only [go_sem, seval, al_, ae_]; rfl) (by simp only [go_sem, seval, al_, ae_]) (fun h18 => ?_) (fun h18 => ?_)
  ·refine .rgn [a4_ (h2_ s.thn w2 s4)] (by simp only [go_sem, seval, al_, ae_]; rfl) ?_ ?_
   ·first | trivial | simp
   refine .seq (.rgn [] (by simp only [go_sem, seval, al_, ae_]; rfl) ?_ ?_)
   ·first | trivial | simp
   refine .ret ⟨.inr rfl, ?_⟩
   exact Out.plainL (by simp only [Tryz.results53]; rfl) (by simp only [aw_, a3_, go_sem, seval, al_, ae_] <;> (split <;> rfl)) (by simp only [a2_, go_sem, seval, al_, ae_] <;> (simp at h11 h18; simp [bof, h11, h18, ae_, kn_, ko_, j8_, dk_, eg_, ler, bq_])) (by simp only [go_sem, seval, al_, ae_])
  ·refine .skip (.seq (.rgn [] (by simp only [go_sem, seval, al_, ae_]; rfl) ?_ ?_))
   ·first | trivial | simp
   refine .ret ⟨.inr rfl, ?_⟩
   exact Out.plainL (by simp only [Tryz.results53]; rfl) (by simp only [aw_, a3_, go_sem, seval, al_, ae_] <;> (split <;> rfl)) (by simp only [a2_, go_sem, seval, al_, ae_] <;> (simp at h11 h18; simp [bof, h11, h18, ae_, kn_, ko_, j8_, dk_, eg_, ler, bq_])) (by simp only [go_sem, seval, al_, ae_])
 ·refine .skip (.seq (.seq (.rgn [] (by simp only [go_sem, seval, al_, ae_]; rfl) ?_ ?_)))
  ·first | trivial | simp
  refine .condB (by simp only [go_sem, seval, al_, ae_]; rfl) (by simp only [go_sem, seval, al_, ae_]) (fun h18 => ?_) (fun h18 => ?_)
  ·refine .rgn [a4_ (h2_ s.thn w2 s4)] (by simp only [go_sem, seval, al_, ae_]; rfl) ?_ ?_
   ·first | trivial | simp
   refine .seq (.rgn [] (by simp only [go_sem, seval, al_, ae_]; rfl) ?_ ?_)
   ·first | trivial | simp
   refine .ret ⟨.inr rfl, ?_⟩
   exact Out.plainL (by simp only [Tryz.results53]; rfl) (by simp only [aw_, a3_, go_sem, seval, al_, ae_] <;> (split <;> rfl)) (by simp only [a2_, go_sem, seval, al_, ae_] <;> (simp at h11 h18; omega)) (by simp only [go_sem, seval, al_, ae_])
  ·refine .skip (.seq (.rgn [] (by simp only [go_sem, seval, al_, ae_]; rfl) ?_ ?_))
   ·first | trivial | simp
   refine .ret ⟨.inr rfl, ?_⟩
   exact Out.plainL (by simp only [Tryz.results53]; rfl) (by simp only [aw_, a3_, go_sem, seval, al_, ae_] <;> (split <;> rfl)) (by simp only [a2_, go_sem, seval, al_, ae_] <;> (simp at h11 h18; simp [bof, h11, h18, ae_, kn_, ko_, j8_, dk_, eg_, ler, bq_])) (by simp only [go_sem, seval, al_, ae_])
def ej_ (b : Str) (q k : Int) (x : Bl) : Bl × Int :=
 if k = 0 then ({ x with kind := k8_ b q [0, 4, 1, 2, 3] }, q + 1)
 else if k = 1 then ({ x with name := ofI b q [[120], [112, 114, 105, 110, 116], [88], []] }, q + 1)
 else if k = 2 then ({ x with expr := (cu_ b q).1 }, (cu_ b q).2)
 else if k = 3 then ({ x with thn := (cu_ b q).1 }, (cu_ b q).2)
 else (x, q)
def d7 (b : Str) (p : Int) : Bl × Int := ej_ b ((bp_ b p).2 + 1) (bu_ b (bp_ b p).2 40) (bof (bp_ b p).1)
theorem ox_ {s : Sl} (h : f7_ s = true) : smb (bof s) = true := by
 obtain ⟨s1, s2, s3, s4⟩ := lb_ h
 unfold smb bof
 simp only [s1, decide_true, Bool.true_and]
 split <;> split <;> simp [hb_, s3, s4, qk_]
theorem yr_ (b : Str) {p : Int} (hp : 0 ≤ p) (hp2 : p < 100000000) : p ≤ (d7 b p).2 ∧ (d7 b p).2 ≤ p + 700 ∧ smb (d7 b p).1 = true := by
 obtain ⟨h1, h2, h3, _⟩ := hm_ b hp hp2
 have hs := ox_ h3
 obtain ⟨s1, s2, s3⟩ := ep_ hs
 obtain ⟨q1, q2, q3⟩ := tx_ b (p := (bp_ b p).2 + 1) (by omega) (by omega)
 have l1 := m1_ (b := b) (p := (bp_ b p).2 + 1) (l := [[120], [112, 114, 105, 110, 116], [88], []]) (by decide) (by omega) (by omega) 5 (by decide)
 unfold d7 ej_
 split
 ·exact ⟨by dsimp only; omega, by dsimp only; omega, hs⟩
 ·split
  ·refine ⟨by dsimp only; omega, by dsimp only; omega, ?_⟩
   simp only [smb, s2, s3, Bool.and_true, T3_]; omega
  ·split
   ·exact ⟨by dsimp only; omega, by dsimp only; omega, by simp only [smb, s1, q3, s3, decide_true, Bool.and_self]⟩
   ·split
    ·exact ⟨by dsimp only; omega, by dsimp only; omega, by simp only [smb, s1, s2, q3, decide_true, Bool.and_self]⟩
    ·exact ⟨by dsimp only; omega, by dsimp only; omega, hs⟩
theorem rj_ (b : Str) (p : Int) (hb : b.length ≤ 2000) (hp : 0 ≤ p) (hp2 : p < 100000000) : ACall En 55 [.pt 0 2 0 0] [rdB b p] [.ag (bC (d7 b p).1)] [rdB b (d7 b p).2] := by
 obtain ⟨h1, h2, h3, w1, w2, _⟩ := hm_ b hp hp2
 refine ap_ (fn := Tryz.f55) [0] Tryz.func55 rfl rfl (by simp) fun C => ?_
 rw [ay_]
 simp only [Tryz.ntmps55, T7_, List.length_nil, Nat.reduceAdd, Nat.reduceSub, List.replicate_succ, List.replicate_zero, List.cons_append, List.nil_append, bl_]
 refine .seq (.rgn [] (by simp only [go_sem, seval, ak_, aq_, an_, aj_, af_, ac_, al_, ae_]; rfl) ?_ ?_)
 ·first | trivial | simp
 refine .seq (.rgn [bi_ [0] [] (lp_ b p hb hp hp2), a4_ (sb_ (bp_ b p).1 h3 w1 w2)] (by simp only [go_sem, seval, ak_, aq_, an_, aj_, af_, ac_, al_, ae_]; rfl) ?_ ?_)
 ·first | trivial | simp
 refine .seq (.seq (.rgn [bi_ [0] [] (cv_ b (bp_ b p).2 40 hb (by omega) (by omega))] (by simp only [go_sem, seval, ak_, aq_, an_, aj_, af_, ac_, al_, ae_]; rfl) ?_ ?_))
 ·first | trivial | simp
 refine .block (.seq (.rgn [] (by simp only [go_sem, seval, ak_, aq_, an_, aj_, af_, ac_, al_, ae_]; rfl) ?_ ?_))
 ·first | trivial | simp
 refine .condB (by simp only [go_sem, seval, ak_, aq_, an_, aj_, af_, ac_, al_, ae_]; rfl) (by simp only [go_sem, seval, ak_, aq_, an_, aj_, af_, ac_, al_, ae_]) (fun h9 => ?_) (fun h9 => ?_)
 ·refine .rgn [bi_ [0] [] (jj_ b ((bp_ b p).2 + 1) [0, 4, 1, 2, 3] (by decide) hb (by omega) (by omega))] (by simp only [go_sem, seval, ak_, aq_, an_, aj_, af_, ac_, al_, ae_]; rfl) ?_ ?_
  ·first | trivial | simp
  refine .seq (.rgn [] (by simp only [go_sem, seval, ak_, aq_, an_, aj_, af_, ac_, al_, ae_]; rfl) ?_ ?_)
  ·first | trivial | simp
  refine .ret ⟨.inr rfl, ?_⟩
  exact Out.mem' (by simp only [Tryz.results55]; rfl) (by simp only [aw_, a3_, go_sem, seval, ak_, aq_, an_, aj_, af_, ac_, al_, ae_]) (by simp only [a2_, rns, rn, go_sem, seval, ak_, aq_, an_, aj_, af_, ac_, al_, ae_] <;> (simp at h9; simp [d7, ej_, h9])) (by simp) rfl (by decide) (by simp only [go_sem, seval, ak_, aq_, an_, aj_, af_, ac_, al_, ae_]) (by simp only [aq_, go_sem, seval, ak_, aq_, an_, aj_, af_, ac_, al_, ae_]) (by simp only [ak_, go_sem, seval, ak_, aq_, an_, aj_, af_, ac_, al_, ae_] <;> (simp at h9; simp [d7, ej_, h9]))
 ·refine .seq (.rgn [] (by simp only [go_sem, seval, ak_, aq_, an_, aj_, af_, ac_, al_, ae_]; rfl) ?_ ?_)
  ·first | trivial | simp
  refine .condB (by simp only [go_sem, seval, ak_, aq_, an_, aj_, af_, ac_, al_, ae_]; rfl) (by simp only [go_sem, seval, ak_, aq_, an_, aj_, af_, ac_, al_, ae_]) (fun h15 => ?_) (fun h15 => ?_)
  ·refine .rgn [bi_ [0] [] (lj_ b ((bp_ b p).2 + 1) [[120], [112, 114, 105, 110, 116], [88], []] (by decide) hb (by omega) (by omega))] (by simp only [go_sem, seval, ak_, aq_, an_, aj_, af_, ac_, al_, ae_]; rfl) ?_ ?_
   ·first | trivial | simp
   refine .seq (.rgn [] (by simp only [go_sem, seval, ak_, aq_, an_, aj_, af_, ac_, al_, ae_]; rfl) ?_ ?_)
   ·first | trivial | simp
   refine .ret ⟨.inr rfl, ?_⟩
   exact Out.mem' (by simp only [Tryz.results55]; rfl) (by simp only [aw_, a3_, go_sem, seval, ak_, aq_, an_, aj_, af_, ac_, al_, ae_]) (by simp only [a2_, rns, rn, go_sem, seval, ak_, aq_, an_, aj_, af_, ac_, al_, ae_] <;> (simp at h9 h15; simp [d7, ej_, h9, h15])) (by simp) rfl (by decide) (by simp only [go_sem, seval, ak_, aq_, an_, aj_, af_, ac_, al_, ae_]) (by simp only [aq_, go_sem, seval, ak_, aq_, an_, aj_, af_, ac_, al_, ae_]) (by simp only [ak_, go_sem, seval, ak_, aq_, an_, aj_, af_, ac_, al_, ae_] <;> (simp at h9 h15; simp [d7, ej_, h9, h15]))
  ·refine .seq (.rgn [] (by simp only [go_sem, seval, ak_, aq_, an_, aj_, af_, ac_, al_, ae_]; rfl) ?_ ?_)
   ·first | trivial | simp
   refine .condB (by simp only [go_sem, seval, ak_, aq_, an_, aj_, af_, ac_, al_, ae_]; rfl) (by simp only [go_sem, seval, ak_, aq_, an_, aj_, af_, ac_, al_, ae_]) (fun h21 => ?_) (fun h21 => ?_)
   ·refine .rgn [bi_ [0] [] (mu_ b ((bp_ b p).2 + 1) hb (by omega) (by omega))] (by simp only [go_sem, seval, ak_, aq_, an_, aj_, af_, ac_, al_, ae_]; rfl) ?_ ?_
    ·first | trivial | simp
    refine .seq (.rgn [] (by simp only [go_sem, seval, ak_, aq_, an_, aj_, af_, ac_, al_, ae_]; rfl) ?_ ?_)
    ·first | trivial | simp
    refine .ret ⟨.inr rfl, ?_⟩
    exact Out.mem' (by simp only [Tryz.results55]; rfl) (by simp only [aw_, a3_, go_sem, seval, ak_, aq_, an_, aj_, af_, ac_, al_, ae_]) (by simp only [a2_, rns, rn, go_sem, seval, ak_, aq_, an_, aj_, af_, ac_, al_, ae_] <;> (simp at h9 h15 h21; simp [d7, ej_, h9, h15, h21])) (by simp) rfl (by decide) (by simp only [go_sem, seval, ak_, aq_, an_, aj_, af_, ac_, al_, ae_]) (by simp only [aq_, go_sem, seval, ak_, aq_, an_, aj_, af_, ac_, al_, ae_]) (by simp only [ak_, go_sem, seval, ak_, aq_, an_, aj_, af_, ac_, al_, ae_] <;> (simp at h9 h15 h21; simp [d7, ej_, h9, h15, h21]))
   ·refine .seq (.rgn [] (by simp only [go_sem, seval, ak_, aq_, an_, aj_, af_, ac_, al_, ae_]; rfl) ?_ ?_)
    ·first | trivial | simp
    refine .condB (by simp only [go_sem, seval, ak_, aq_, an_, aj_, af_, ac_, al_, ae_]; rfl) (by simp only [go_sem, seval, ak_, aq_, an_, aj_, af_, ac_, al_, ae_]) (fun h26 => ?_) (fun h26 => ?_)
    ·refine .rgn [bi_ [0] [] (mu_ b ((bp_ b p).2 + 1) hb (by omega) (by omega))] (by simp only [go_sem, seval, ak_, aq_, an_, aj_, af_, ac_, al_, ae_]; rfl) ?_ ?_
     ·first | trivial | simp
     refine .seq (.rgn [] (by simp only [go_sem, seval, ak_, aq_, an_, aj_, af_, ac_, al_, ae_]; rfl) ?_ ?_)
     ·first | trivial | simp
     refine .ret ⟨.inr rfl, ?_⟩
     exact Out.mem' (by simp only [Tryz.results55]; rfl) (by simp only [aw_, a3_, go_sem, seval, ak_, aq_, an_, aj_, af_, ac_, al_, ae_]) (by simp only [a2_, rns, rn, go_sem, seval, ak_, aq_, an_, aj_, af_, ac_, al_, ae_] <;> (simp at h9 h15 h21 h26; simp [d7, ej_, h9, h15, h21, h26])) (by simp) rfl (by decide) (by simp only [go_sem, seval, ak_, aq_, an_, aj_, af_, ac_, al_, ae_]) (by simp only [aq_, go_sem, seval, ak_, aq_, an_, aj_, af_, ac_, al_, ae_]) (by simp only [ak_, go_sem, seval, ak_, aq_, an_, aj_, af_, ac_, al_, ae_] <;> (simp at h9 h15 h21 h26; simp [d7, ej_, h9, h15, h21, h26]))
    ·refine .skip (.seq (.rgn [] (by simp only [go_sem, seval, ak_, aq_, an_, aj_, af_, ac_, al_, ae_]; rfl) ?_ ?_))
     ·first | trivial | simp
     refine .ret ⟨.inr rfl, ?_⟩
     exact Out.mem' (by simp only [Tryz.results55]; rfl) (by simp only [aw_, a3_, go_sem, seval, ak_, aq_, an_, aj_, af_, ac_, al_, ae_]) (by simp only [a2_, rns, rn, go_sem, seval, ak_, aq_, an_, aj_, af_, ac_, al_, ae_] <;> (simp at h9 h15 h21 h26; simp [d7, ej_, h9, h15, h21, h26])) (by simp) rfl (by decide) (by simp only [go_sem, seval, ak_, aq_, an_, aj_, af_, ac_, al_, ae_]) (by simp only [aq_, go_sem, seval, ak_, aq_, an_, aj_, af_, ac_, al_, ae_]) (by simp only [ak_, go_sem, seval, ak_, aq_, an_, aj_, af_, ac_, al_, ae_] <;> (simp at h9 h15 h21 h26; simp [d7, ej_, h9, h15, h21, h26]))
end
end Go.Proofs.YtpikbndepapbhabGreatDoor
