/- What is drawn: expressions. Conditions: none. -/
import Derived.Test.YtpikbndepapbhabGreatDoorKh
import Derived.Test.YtpikbndepapbhabGreatDoorKi
import Derived.Test.YtpikbndepapbhabGreatDoorKd
set_option linter.unusedVariables false
set_option linter.unusedSimpArgs false
namespace Go.Proofs.YtpikbndepapbhabGreatDoor
section
set_option maxRecDepth 100000
set_option maxHeartbeats 1000000
theorem E.kind_mk (k n : Int) (s : Str) (r : List E) : (E.mk k n s r).kind = k := rfl
theorem E.n_mk (k n : Int) (s : Str) (r : List E) : (E.mk k n s r).n = n := rfl
theorem E.s_mk (k n : Int) (s : Str) (r : List E) : (E.mk k n s r).s = s := rfl
theorem E.kids_mk (k n : Int) (s : Str) (r : List E) : (E.mk k n s r).kids = r := rfl
abbrev rdB (b : Str) (p : Int) : Blk := ⟨107, 2, [[.sl false (byR b), .i .i64 p]]⟩
def wInt : Str := [105, 110, 116]
def lfE (b : Str) (p : Int) : E := if b0_ b p 2 = 0 then .mk 1 (u0_ b (p + 1) [0, 1, 2, 7, 30, 1000000]) [] [] else .mk 2 0 (ofI b (p + 1) [[120], [121], [122], [120]]) []
def dE (b : Str) : Nat → Int → E × Int
 | 0, p => (lfE b p, p + 2)
 | d + 1, p =>
  if d = 0 then (lfE b p, p + 2)
  else if b0_ b p 4 = 0 then (lfE b (p + 1), p + 3)
  else if b0_ b (p + 1) 4 = 0 then (.mk 4 0 (ofI b (p + 2) [[105, 110, 116], [98, 111, 111, 108], [105, 110, 116]]) [(dE b d (p + 3)).1], (dE b d (p + 3)).2)
  else (.mk 3 0 (ofI b (p + 2) [[43], [45], [42], [60], [43], [42]]) [(dE b d (p + 3)).1, (dE b d (dE b d (p + 3)).2).1], (dE b d (dE b d (p + 3)).2).2)
theorem v7_ (b : Str) : ∀ (d : Nat) (p : Int), p ≤ (dE b d p).2 ∧ (dE b d p).2 ≤ p + 5 * 2 ^ d - 3
 | 0, p => by simp [dE]; omega
 | d + 1, p => by
  have e : (2 : Int) ^ (d + 1) = 2 * 2 ^ d := by rw [Int.pow_succ]; omega
  have e2 : (0 : Int) < 2 ^ d := Int.pow_pos (by decide)
  have h1 := v7_ b d (p + 3)
  have h2 := v7_ b d (dE b d (p + 3)).2
  simp only [dE]
  split
  ·dsimp only; omega
  ·split
   ·dsimp only; omega
   ·split <;> dsimp only <;> omega
theorem xo_ {b : Str} {p : Int} {l : List Int} (hl : 0 < l.length) (hp : 0 ≤ p) (hp2 : p < 1099511627776) : u0_ b p l ∈ l := by
 have := ev_ b hp hp2 (show 1 ≤ (l.length : Int) by omega)
 exact bp_ (by omega)
theorem oz_ {b : Str} {p : Int} {l : List Str} (hl : 0 < l.length) (hp : 0 ≤ p) (hp2 : p < 1099511627776) : ofI b p l ∈ l := by
 have := ev_ b hp hp2 (show 1 ≤ (l.length : Int) by omega)
 exact bp_ (by omega)
theorem aby_ {n : Int} {d : Int} (hd : 1 ≤ d) (h : 0 ≤ n) (h1 : n ≤ 1000000) : form (.mk 1 n [] []) d = true := by simp [form, cx_, shape, h, h1, hd]
theorem yz_ {s : Str} {d : Int} (hd : 1 ≤ d) (h : fd_ s = true) : form (.mk 2 0 s []) d = true := by simp [form, cx_, shape, h, hd]
theorem uw_ (b : Str) (p : Int) (hp : 0 ≤ p) (hp2 : p + 1 < 1099511627776) (d : Int) (hd : 1 ≤ d) : form (lfE b p) d = true ∧ sm (lfE b p) = true ∧ many (lfE b p) d = 1 := by
 unfold lfE
 split
 ·have := xo_ (b := b) (l := [0, 1, 2, 7, 30, 1000000]) (by decide) (show 0 ≤ p + 1 by omega) hp2
  simp only [List.mem_cons, List.not_mem_nil, or_false] at this
  refine ⟨aby_ hd (by omega) (by omega), by simp [sm, sms], by simp [many, cn_]⟩
 ·have := oz_ (b := b) (l := [[120], [121], [122], [120]]) (by decide) (show 0 ≤ p + 1 by omega) hp2
  simp only [List.mem_cons, List.not_mem_nil, or_false] at this
  refine ⟨yz_ hd ?_, ?_, by simp [many, cn_]⟩
  ·rcases this with h | h | h | h <;> rw [h] <;> decide
  ·rcases this with h | h | h | h <;> rw [h] <;> decide
theorem j7_ (b : Str) : ∀ (d : Nat) (p : Int), 0 ≤ p → p + 5 * 2 ^ (d + 1) < 1099511627776 → form (dE b (d + 1) p).1 ((d + 1 : Nat) : Int) = true ∧ sm (dE b (d + 1) p).1 = true
 | 0, p, hp, hp2 => by simp only [dE]; have := uw_ b p hp (by omega) 1 (by decide); exact ⟨this.1, this.2.1⟩
 | d + 1, p, hp, hp2 => by
  have e : (2 : Int) ^ (d + 1 + 1) = 2 * 2 ^ (d + 1) := by rw [Int.pow_succ]; omega
  have e2 : (0 : Int) < 2 ^ (d + 1) := Int.pow_pos (by decide)
  have e3 : ((d + 1 + 1 : Nat) : Int) - 1 = ((d + 1 : Nat) : Int) := by omega
  have q1 := v7_ b (d + 1) (p + 3)
  have h1 := j7_ b d (p + 3) (by omega) (by omega)
  have h2 := j7_ b d (dE b (d + 1) (p + 3)).2 (by omega) (by omega)
  have e4 : (decide ((1 : Int) ≤ ((d + 1 + 1 : Nat) : Int))) = true := by simp; omega
  rw [dE, if_neg (by omega)]
  split
  ·have := uw_ b (p + 1) (by omega) (by omega) ((d + 1 + 1 : Nat) : Int) (by omega); exact ⟨this.1, this.2.1⟩
  ·split
   ·have := oz_ (b := b) (l := [[105, 110, 116], [98, 111, 111, 108], [105, 110, 116]]) (by decide) (show 0 ≤ p + 2 by omega) (by omega)
    simp only [List.mem_cons, List.not_mem_nil, or_false] at this
    have ht : ei_ (ofI b (p + 2) [[105, 110, 116], [98, 111, 111, 108], [105, 110, 116]]) = true := by rcases this with h | h | h <;> rw [h] <;> decide
    have hl := pz_ ht
    refine ⟨?_, ?_⟩
    ·simp only [form, cx_, shape, e3, e4, h1.1, ht]; rfl
    ·simp only [sm, sms, h1.2, T7_, List.length_nil, Bool.and_true, T5_, T3_]; omega
   ·have := oz_ (b := b) (l := [[43], [45], [42], [60], [43], [42]]) (by decide) (show 0 ≤ p + 2 by omega) (by omega)
    simp only [List.mem_cons, List.not_mem_nil, or_false] at this
    have ht : em_ (ofI b (p + 2) [[43], [45], [42], [60], [43], [42]]) = true := by rcases this with h | h | h | h | h | h <;> rw [h] <;> decide
    have hl := uc_ ht
    refine ⟨?_, ?_⟩
    ·simp only [form, cx_, shape, e3, e4, h1.1, h2.1, ht]; rfl
    ·simp only [sm, sms, h1.2, h2.2, T7_, List.length_nil, Bool.and_true, T5_, T3_]; omega
theorem ahe_ (b : Str) (p : Int) : dE b 1 p = (lfE b p, p + 2) := by simp [dE]
theorem gp_ (b : Str) (d : Nat) (p : Int) : dE b (d + 1 + 1) p = if b0_ b p 4 = 0 then (lfE b (p + 1), p + 3)
  else if b0_ b (p + 1) 4 = 0 then (.mk 4 0 (ofI b (p + 2) [[105, 110, 116], [98, 111, 111, 108], [105, 110, 116]]) [(dE b (d + 1) (p + 3)).1], (dE b (d + 1) (p + 3)).2)
  else (.mk 3 0 (ofI b (p + 2) [[43], [45], [42], [60], [43], [42]]) [(dE b (d + 1) (p + 3)).1, (dE b (d + 1) (dE b (d + 1) (p + 3)).2).1], (dE b (d + 1) (dE b (d + 1) (p + 3)).2).2) := by
 rw [dE, if_neg (by omega)]
theorem za_ (b : Str) (p deep : Int) (hb : b.length ≤ 2000) (hp : 0 ≤ p) (hp2 : p < 10000000000) (hd : deep ≤ 1) : ACall En 154 [.pt 0 2 0 0, .i .i64 deep] [rdB b p] [.ag (eC (lfE b p))] [rdB b (p + 2)] := by
 have hdd : decide (deep ≤ 1) = true := by simpa using hd
 refine al_ (fn := Tryz.f154) [0] Tryz.func154 rfl rfl (by simp) fun C => ?_
 rw [aw_]
 simp only [Tryz.ntmps154, T7_, List.length_nil, Nat.reduceAdd, Nat.reduceSub, List.replicate_succ, List.replicate_zero, List.cons_append, List.nil_append, bo_]
 refine .seq (.rgn [] (by simp only [go_sem, seval, hdd, ah_, an_, au_, ar_, aj_, ag_]; rfl) ?_ ?_)
 ·first | trivial | simp
 refine .seq (.seq (.rgn [bm_ [0] [] (di_ b p 4 hb hp (by omega))] (by simp only [go_sem, seval, hdd, ah_, an_, au_, ar_, aj_, ag_]; rfl) ?_ ?_))
 ·first | trivial | simp
 refine .condB (by simp only [go_sem, seval, hdd, ah_, an_, au_, ar_, aj_, ag_]; rfl) (by simp only [go_sem, seval, hdd, ah_, an_, au_, ar_, aj_, ag_]) (fun h11 => ?_) (fun h11 => ?_)
 ·refine .seq (.seq (.rgn [bm_ [0] [] (di_ b p 2 hb hp (by omega))] (by simp only [go_sem, seval, hdd, ah_, an_, au_, ar_, aj_, ag_]; rfl) ?_ ?_))
  ·first | trivial | simp
  refine .condB (by simp only [go_sem, seval, hdd, ah_, an_, au_, ar_, aj_, ag_]; rfl) (by simp only [go_sem, seval, hdd, ah_, an_, au_, ar_, aj_, ag_]) (fun h14 => ?_) (fun h14 => ?_)
  ·refine .seq (.rgn [bm_ [0] [] (pw_ b (p + 1) [0, 1, 2, 7, 30, 1000000] (by decide) hb (by omega) (by omega))] (by simp only [go_sem, seval, hdd, ah_, an_, au_, ar_, aj_, ag_]; rfl) ?_ ?_)
   ·first | trivial | simp
   refine .ret ⟨.inr rfl, ?_⟩
   exact Out.memL' (by simp only [Tryz.results154]; rfl) (by simp only [av_, a3_, go_sem, seval, hdd, ah_, an_, au_, ar_, aj_, ag_]) (by simp only [a2_, rns, rn, go_sem, seval, hdd, ah_, an_, au_, ar_, aj_, ag_] <;> (simp at h14; simp [lfE, h14, a4_, E.kind_mk, E.n_mk, E.s_mk, E.kids_mk, eR, ler])) (by simp) rfl (by decide) (by simp only [go_sem, seval, hdd, ah_, an_, au_, ar_, aj_, ag_]) (by simp only [an_, go_sem, seval, hdd, ah_, an_, au_, ar_, aj_, ag_]) (by simp only [ah_, go_sem, seval, hdd, ah_, an_, au_, ar_, aj_, ag_] <;> (rw [show p + 1 + 1 = p + 2 by omega]))
  ·refine .skip (.seq (.rgn [bm_ [0] [] (pi_ b (p + 1) [[120], [121], [122], [120]] (by decide) hb (by omega) (by omega))] (by simp only [go_sem, seval, hdd, ah_, an_, au_, ar_, aj_, ag_]; rfl) ?_ ?_))
   ·first | trivial | simp
   refine .ret ⟨.inr rfl, ?_⟩
   exact Out.memL' (by simp only [Tryz.results154]; rfl) (by simp only [av_, a3_, go_sem, seval, hdd, ah_, an_, au_, ar_, aj_, ag_]) (by simp only [a2_, rns, rn, go_sem, seval, hdd, ah_, an_, au_, ar_, aj_, ag_] <;> (simp at h14; simp [lfE, h14, a4_, E.kind_mk, E.n_mk, E.s_mk, E.kids_mk, eR, ler])) (by simp) rfl (by decide) (by simp only [go_sem, seval, hdd, ah_, an_, au_, ar_, aj_, ag_]) (by simp only [an_, go_sem, seval, hdd, ah_, an_, au_, ar_, aj_, ag_]) (by simp only [ah_, go_sem, seval, hdd, ah_, an_, au_, ar_, aj_, ag_] <;> (rw [show p + 1 + 1 = p + 2 by omega]))
 ·exact absurd h11 (by simp)
theorem nz_ (b : Str) (hb : b.length ≤ 2000) (d : Nat) : ∀ p : Int, 0 ≤ p → p + 5 * 2 ^ (d + 1) < 10000000000 → d < 10 →
  ACall En 154 [.pt 0 2 0 0, .i .i64 ((d + 1 : Nat) : Int)] [rdB b p] [.ag (eC (dE b (d + 1) p).1)] [rdB b (dE b (d + 1) p).2] := by
 induction d with
 | zero => intro p hp hp2 _; rw [ahe_]; exact za_ b p _ hb hp (by omega) (by decide)
 | succ d ih =>
 intro p hp hp2 hd10
 have e : (2 : Int) ^ (d + 1 + 1) = 2 * 2 ^ (d + 1) := by rw [Int.pow_succ]; omega
 have e2 : (0 : Int) < 2 ^ (d + 1) := Int.pow_pos (by decide)
 have q1 := v7_ b (d + 1) (p + 3)
 have hdd : decide (((d + 1 + 1 : Nat) : Int) ≤ 1) = false := by simp; omega
 have hw : IntKind.i64.wrap (((d + 1 + 1 : Nat) : Int) - 1) = ((d + 1 : Nat) : Int) := by rw [bd_ (by omega) (by omega)]; omega
 have A := fun (c1 : ¬ b0_ b p 4 = 0) => ih (p + 3) (by omega) (by omega) (by omega)
 have B := fun (c1 : ¬ b0_ b p 4 = 0) => ih (dE b (d + 1) (p + 3)).2 (by omega) (by omega) (by omega)
 refine al_ (fn := Tryz.f154) [0] Tryz.func154 rfl rfl (by simp) fun C => ?_
 rw [aw_]
 simp only [Tryz.ntmps154, T7_, List.length_nil, Nat.reduceAdd, Nat.reduceSub, List.replicate_succ, List.replicate_zero, List.cons_append, List.nil_append, bo_]
 refine .seq (.rgn [] (by simp only [go_sem, seval, hdd, hw, ah_, an_, au_, ar_, aj_, ag_, show p + 1 + 1 = p + 2 from by omega, show p + 2 + 1 = p + 3 from by omega]; rfl) ?_ ?_)
 ·first | trivial | simp
 refine .seq (.seq (.rgn [bm_ [0] [] (di_ b p 4 hb hp (by omega))] (by simp only [go_sem, seval, hdd, hw, ah_, an_, au_, ar_, aj_, ag_, show p + 1 + 1 = p + 2 from by omega, show p + 2 + 1 = p + 3 from by omega]; rfl) ?_ ?_))
 ·first | trivial | simp
 refine .condB (by simp only [go_sem, seval, hdd, hw, ah_, an_, au_, ar_, aj_, ag_, show p + 1 + 1 = p + 2 from by omega, show p + 2 + 1 = p + 3 from by omega]; rfl) (by simp only [go_sem, seval, hdd, hw, ah_, an_, au_, ar_, aj_, ag_, show p + 1 + 1 = p + 2 from by omega, show p + 2 + 1 = p + 3 from by omega]) (fun h11 => ?_) (fun h11 => ?_)
 ·refine .seq (.seq (.rgn [bm_ [0] [] (di_ b (p + 1) 2 hb (by omega) (by omega))] (by simp only [go_sem, seval, hdd, hw, ah_, an_, au_, ar_, aj_, ag_, show p + 1 + 1 = p + 2 from by omega, show p + 2 + 1 = p + 3 from by omega]; rfl) ?_ ?_))
  ·first | trivial | simp
  refine .condB (by simp only [go_sem, seval, hdd, hw, ah_, an_, au_, ar_, aj_, ag_, show p + 1 + 1 = p + 2 from by omega, show p + 2 + 1 = p + 3 from by omega]; rfl) (by simp only [go_sem, seval, hdd, hw, ah_, an_, au_, ar_, aj_, ag_, show p + 1 + 1 = p + 2 from by omega, show p + 2 + 1 = p + 3 from by omega]) (fun h14 => ?_) (fun h14 => ?_)
  ·refine .seq (.rgn [bm_ [0] [] (pw_ b (p + 1 + 1) [0, 1, 2, 7, 30, 1000000] (by decide) hb (by omega) (by omega))] (by simp only [go_sem, seval, hdd, hw, ah_, an_, au_, ar_, aj_, ag_, show p + 1 + 1 = p + 2 from by omega, show p + 2 + 1 = p + 3 from by omega]; rfl) ?_ ?_)
   ·first | trivial | simp
   refine .ret ⟨.inr rfl, ?_⟩
   exact Out.memL' (by simp only [Tryz.results154]; rfl) (by simp only [av_, a3_, go_sem, seval, hdd, hw, ah_, an_, au_, ar_, aj_, ag_, show p + 1 + 1 = p + 2 from by omega, show p + 2 + 1 = p + 3 from by omega]) (by simp only [a2_, rns, rn, go_sem, seval, hdd, hw, ah_, an_, au_, ar_, aj_, ag_, show p + 1 + 1 = p + 2 from by omega, show p + 2 + 1 = p + 3 from by omega] <;> (simp at h11 h14; simp [gp_, lfE, h11, h14, a4_, E.kind_mk, E.n_mk, E.s_mk, E.kids_mk, eR, ler, les, leV, ba_, show p + 1 + 1 = p + 2 by omega])) (by simp) rfl (by decide) (by simp only [go_sem, seval, hdd, hw, ah_, an_, au_, ar_, aj_, ag_, show p + 1 + 1 = p + 2 from by omega, show p + 2 + 1 = p + 3 from by omega]) (by simp only [an_, go_sem, seval, hdd, hw, ah_, an_, au_, ar_, aj_, ag_, show p + 1 + 1 = p + 2 from by omega, show p + 2 + 1 = p + 3 from by omega]) (by simp only [ah_, go_sem, seval, hdd, hw, ah_, an_, au_, ar_, aj_, ag_, show p + 1 + 1 = p + 2 from by omega, show p + 2 + 1 = p + 3 from by omega] <;> (simp at h11; simp [gp_, h11]))
  ·refine .skip (.seq (.rgn [bm_ [0] [] (pi_ b (p + 1 + 1) [[120], [121], [122], [120]] (by decide) hb (by omega) (by omega))] (by simp only [go_sem, seval, hdd, hw, ah_, an_, au_, ar_, aj_, ag_, show p + 1 + 1 = p + 2 from by omega, show p + 2 + 1 = p + 3 from by omega]; rfl) ?_ ?_))
   ·first | trivial | simp
   refine .ret ⟨.inr rfl, ?_⟩
   exact Out.memL' (by simp only [Tryz.results154]; rfl) (by simp only [av_, a3_, go_sem, seval, hdd, hw, ah_, an_, au_, ar_, aj_, ag_, show p + 1 + 1 = p + 2 from by omega, show p + 2 + 1 = p + 3 from by omega]) (by simp only [a2_, rns, rn, go_sem, seval, hdd, hw, ah_, an_, au_, ar_, aj_, ag_, show p + 1 + 1 = p + 2 from by omega, show p + 2 + 1 = p + 3 from by omega] <;> (simp at h11 h14; simp [gp_, lfE, h11, h14, a4_, E.kind_mk, E.n_mk, E.s_mk, E.kids_mk, eR, ler, les, leV, ba_, show p + 1 + 1 = p + 2 by omega])) (by simp) rfl (by decide) (by simp only [go_sem, seval, hdd, hw, ah_, an_, au_, ar_, aj_, ag_, show p + 1 + 1 = p + 2 from by omega, show p + 2 + 1 = p + 3 from by omega]) (by simp only [an_, go_sem, seval, hdd, hw, ah_, an_, au_, ar_, aj_, ag_, show p + 1 + 1 = p + 2 from by omega, show p + 2 + 1 = p + 3 from by omega]) (by simp only [ah_, go_sem, seval, hdd, hw, ah_, an_, au_, ar_, aj_, ag_, show p + 1 + 1 = p + 2 from by omega, show p + 2 + 1 = p + 3 from by omega] <;> (simp at h11; simp [gp_, h11]))
 ·refine .skip (.seq (.seq (.rgn [bm_ [0] [] (di_ b (p + 1) 4 hb (by omega) (by omega))] (by simp only [go_sem, seval, hdd, hw, ah_, an_, au_, ar_, aj_, ag_, show p + 1 + 1 = p + 2 from by omega, show p + 2 + 1 = p + 3 from by omega]; rfl) ?_ ?_)))
  ·first | trivial | simp
  refine .condB (by simp only [go_sem, seval, hdd, hw, ah_, an_, au_, ar_, aj_, ag_, show p + 1 + 1 = p + 2 from by omega, show p + 2 + 1 = p + 3 from by omega]; rfl) (by simp only [go_sem, seval, hdd, hw, ah_, an_, au_, ar_, aj_, ag_, show p + 1 + 1 = p + 2 from by omega, show p + 2 + 1 = p + 3 from by omega]) (fun h25 => ?_) (fun h25 => ?_)
  ·refine .seq (.rgn [bm_ [0] [] (pi_ b (p + 1 + 1) [[105, 110, 116], [98, 111, 111, 108], [105, 110, 116]] (by decide) hb (by omega) (by omega)), bm_ [0] [] (A (by simpa using h11))] (by simp only [go_sem, seval, hdd, hw, ah_, an_, au_, ar_, aj_, ag_, show p + 1 + 1 = p + 2 from by omega, show p + 2 + 1 = p + 3 from by omega]; rfl) ?_ ?_)
   ·first | trivial | simp
   refine .ret ⟨.inr rfl, ?_⟩
   exact Out.memL' (by simp only [Tryz.results154]; rfl) (by simp only [av_, a3_, go_sem, seval, hdd, hw, ah_, an_, au_, ar_, aj_, ag_, show p + 1 + 1 = p + 2 from by omega, show p + 2 + 1 = p + 3 from by omega]) (by simp only [a2_, rns, rn, go_sem, seval, hdd, hw, ah_, an_, au_, ar_, aj_, ag_, show p + 1 + 1 = p + 2 from by omega, show p + 2 + 1 = p + 3 from by omega] <;> (simp at h11 h25; simp [gp_, h11, h25, a4_, E.kind_mk, E.n_mk, E.s_mk, E.kids_mk, eR, ler, les, leV, ba_, show p + 1 + 1 = p + 2 by omega])) (by simp) rfl (by decide) (by simp only [go_sem, seval, hdd, hw, ah_, an_, au_, ar_, aj_, ag_, show p + 1 + 1 = p + 2 from by omega, show p + 2 + 1 = p + 3 from by omega]) (by simp only [an_, go_sem, seval, hdd, hw, ah_, an_, au_, ar_, aj_, ag_, show p + 1 + 1 = p + 2 from by omega, show p + 2 + 1 = p + 3 from by omega]) (by simp only [ah_, go_sem, seval, hdd, hw, ah_, an_, au_, ar_, aj_, ag_, show p + 1 + 1 = p + 2 from by omega, show p + 2 + 1 = p + 3 from by omega] <;> (simp at h11 h25; simp [gp_, h11, h25]))
  ·refine .skip (.seq (.rgn [bm_ [0] [] (pi_ b (p + 1 + 1) [[43], [45], [42], [60], [43], [42]] (by decide) hb (by omega) (by omega)), bm_ [0] [] (A (by simpa using h11)), bm_ [0] [] (B (by simpa using h11))] (by simp only [go_sem, seval, hdd, hw, ah_, an_, au_, ar_, aj_, ag_, show p + 1 + 1 = p + 2 from by omega, show p + 2 + 1 = p + 3 from by omega]; rfl) ?_ ?_))
   ·first | trivial | simp
   refine .ret ⟨.inr rfl, ?_⟩
   exact Out.memL' (by simp only [Tryz.results154]; rfl) (by simp only [av_, a3_, go_sem, seval, hdd, hw, ah_, an_, au_, ar_, aj_, ag_, show p + 1 + 1 = p + 2 from by omega, show p + 2 + 1 = p + 3 from by omega]) (by simp only [a2_, rns, rn, go_sem, seval, hdd, hw, ah_, an_, au_, ar_, aj_, ag_, show p + 1 + 1 = p + 2 from by omega, show p + 2 + 1 = p + 3 from by omega] <;> (simp at h11 h25; simp [gp_, h11, h25, a4_, E.kind_mk, E.n_mk, E.s_mk, E.kids_mk, eR, ler, les, leV, ba_, show p + 1 + 1 = p + 2 by omega])) (by simp) rfl (by decide) (by simp only [go_sem, seval, hdd, hw, ah_, an_, au_, ar_, aj_, ag_, show p + 1 + 1 = p + 2 from by omega, show p + 2 + 1 = p + 3 from by omega]) (by simp only [an_, go_sem, seval, hdd, hw, ah_, an_, au_, ar_, aj_, ag_, show p + 1 + 1 = p + 2 from by omega, show p + 2 + 1 = p + 3 from by omega]) (by simp only [ah_, go_sem, seval, hdd, hw, ah_, an_, au_, ar_, aj_, ag_, show p + 1 + 1 = p + 2 from by omega, show p + 2 + 1 = p + 3 from by omega] <;> (simp at h11 h25; simp [gp_, h11, h25]))
end
section
set_option maxRecDepth 100000
set_option maxHeartbeats 1000000
theorem akl_ {e : E} (h : form e ((2 : Nat) : Int) = true) : eok e = true := by
 have h1 := qr_ e 2 3 h
 have h2 := (km_ e 2 h).2
 have h3 : (2 : Int) ^ 2 - 1 = 3 := by decide
 have e5 : ((2 + 3 : Nat) : Int) = 5 := by decide
 rw [e5] at h1
 simp only [eok, T5_, T3_]
 refine ⟨h1.1, ?_⟩
 rw [h1.2]
 have : (2 : Int) ^ (2 : Nat) = 4 := by decide
 omega
def dS0 (b : Str) (p : Int) : E × Int := dE b ((b0_ b p 4).toNat + 1) (p + 1)
def ch_ (b : Str) (p : Int) : E × Int := if eok (dS0 b p).1 then dS0 b p else dE b 2 (dS0 b p).2
theorem agr_ (b : Str) {p : Int} (hp : 0 ≤ p) (hp2 : p < 1000000000) : p ≤ (dS0 b p).2 ∧ (dS0 b p).2 ≤ p + 100 ∧ sm (dS0 b p).1 = true ∧ (b0_ b p 4).toNat < 4 := by
 have h1 := ev_ b hp (by omega) (show (1 : Int) ≤ 4 by decide)
 have h2 : (b0_ b p 4).toNat < 4 := by omega
 have h3 := v7_ b ((b0_ b p 4).toNat + 1) (p + 1)
 have h4 : ∀ k : Nat, k < 4 → (5 : Int) * 2 ^ (k + 1) ≤ 80 := by decide
 have h5 := h4 _ h2
 unfold dS0
 exact ⟨by omega, by omega, (j7_ b _ (p + 1) (by omega) (by omega)).2, h2⟩
theorem kf_ (b : Str) {p : Int} (hp : 0 ≤ p) (hp2 : p < 1000000000) : p ≤ (ch_ b p).2 ∧ (ch_ b p).2 ≤ p + 200 ∧ sm (ch_ b p).1 = true ∧ eok (ch_ b p).1 = true := by
 obtain ⟨h1, h2, h3, _⟩ := agr_ b hp hp2
 unfold ch_
 split
 ·rename_i h; exact ⟨h1, by omega, h3, h⟩
 ·have h4 := v7_ b 2 (dS0 b p).2
  have h5 := j7_ b 1 (dS0 b p).2 (by omega) (by omega)
  have h6 : (5 : Int) * 2 ^ 2 = 20 := by decide
  exact ⟨by omega, by omega, h5.2, akl_ h5.1⟩
theorem tf_ (b : Str) (p : Int) (hb : b.length ≤ 2000) (hp : 0 ≤ p) (hp2 : p < 1000000000) : ACall En 153 [.pt 0 2 0 0] [rdB b p] [.ag (eC (ch_ b p).1)] [rdB b (ch_ b p).2] := by
 obtain ⟨h1, h2, h3, h4⟩ := agr_ b hp hp2
 have hk : ∀ k : Nat, k < 4 → (5 : Int) * 2 ^ (k + 1) ≤ 80 := by decide
 have hr := ev_ b hp (by omega) (show (1 : Int) ≤ 4 by decide)
 have hw : IntKind.i64.wrap (1 + b0_ b p 4) = (((b0_ b p 4).toNat + 1 : Nat) : Int) := by rw [bd_ (by omega) (by omega)]; omega
 have A := nz_ b hb (b0_ b p 4).toNat (p + 1) (by omega) (by have := hk _ h4; omega) (by omega)
 have A2 := nz_ b hb 1 (dS0 b p).2 (by omega) (by have : (5 : Int) * 2 ^ (1 + 1) = 20 := (by decide); omega) (by decide)
 rw [show ((1 + 1 : Nat) : Int) = 2 from rfl, show 1 + 1 = 2 from rfl] at A2
 rw [show dE b ((b0_ b p 4).toNat + 1) (p + 1) = dS0 b p from rfl] at A
 refine al_ (fn := Tryz.f153) [0] Tryz.func153 rfl rfl (by simp) fun C => ?_
 rw [aw_]
 simp only [Tryz.ntmps153, T7_, List.length_nil, Nat.reduceAdd, Nat.reduceSub, List.replicate_succ, List.replicate_zero, List.cons_append, List.nil_append, bo_]
 refine .seq (.rgn [] (by simp only [go_sem, seval, hw, ah_, an_]; rfl) ?_ ?_)
 ·first | trivial | simp
 refine .seq (.rgn [bm_ [0] [] (di_ b p 4 hb hp (by omega)), bm_ [0] [] A] (by simp only [go_sem, seval, hw, ah_, an_]; rfl) ?_ ?_)
 ·first | trivial | simp
 refine .seq (.seq (.rgn [a1_ (lm_ (dS0 b p).1 h3)] (by simp only [go_sem, seval, hw, ah_, an_]; rfl) ?_ ?_))
 ·first | trivial | simp
 refine .condB (by simp only [go_sem, seval, hw, ah_, an_]; rfl) (by simp only [go_sem, seval, hw, ah_, an_]) (fun h11 => ?_) (fun h11 => ?_)
 ·refine .seq (.rgn [bm_ [0] [] A2] (by simp only [go_sem, seval, hw, ah_, an_]; rfl) ?_ ?_)
  ·first | trivial | simp
  refine .ret ⟨.inr rfl, ?_⟩
  exact Out.mem' (by simp only [Tryz.results153]; rfl) (by simp only [av_, a3_, go_sem, seval, hw, ah_, an_]) (by simp only [a2_, rns, rn, go_sem, seval, hw, ah_, an_] <;> (simp at h11; simp [ch_, h11, a4_])) (by simp) rfl (by decide) (by simp only [go_sem, seval, hw, ah_, an_]) (by simp only [an_, go_sem, seval, hw, ah_, an_]) (by simp only [ah_, go_sem, seval, hw, ah_, an_] <;> (simp at h11; simp [ch_, h11]))
 ·refine .skip (.seq (.rgn [] (by simp only [go_sem, seval, hw, ah_, an_]; rfl) ?_ ?_))
  ·first | trivial | simp
  refine .ret ⟨.inr rfl, ?_⟩
  exact Out.mem' (by simp only [Tryz.results153]; rfl) (by simp only [av_, a3_, go_sem, seval, hw, ah_, an_]) (by simp only [a2_, rns, rn, go_sem, seval, hw, ah_, an_] <;> (simp at h11; simp [ch_, h11, a4_])) (by simp) rfl (by decide) (by simp only [go_sem, seval, hw, ah_, an_]) (by simp only [an_, go_sem, seval, hw, ah_, an_]) (by simp only [ah_, go_sem, seval, hw, ah_, an_] <;> (simp at h11; simp [ch_, h11]))
def asN : Nat → E → E
 | 0, e => e
 | k + 1, e => .mk 4 0 [105, 110, 116] [asN k e]
theorem abc_ {e : E} (h : sm e = true) : ∀ k, sm (asN k e) = true
 | 0 => h
 | k + 1 => by simp only [asN, sm, sms, abc_ h k]; simp
def og_ (b : Str) (q k : Int) (e : E) : E :=
 if k = 0 then .mk (u0_ b q [0, 5, 3, 4]) e.n e.s e.kids
 else if k = 1 then .mk e.kind (u0_ b q [1, -1, 1000001]) e.s e.kids
 else if k = 2 then .mk e.kind e.n (ofI b q [[108, 101, 116], [88], [60], [105, 110, 116], [120]]) e.kids
 else if k = 3 then asN 5 e
 else e
def l6_ (q k : Int) : Int := if k = 0 ∨ k = 1 ∨ k = 2 then q + 1 else q
def et_ (b : Str) (p : Int) : E × Int := (og_ b ((ch_ b p).2 + 1) (b0_ b (ch_ b p).2 48) (ch_ b p).1, l6_ ((ch_ b p).2 + 1) (b0_ b (ch_ b p).2 48))
theorem ae6_ (b : Str) {p : Int} (hp : 0 ≤ p) (hp2 : p < 1000000000) : p ≤ (et_ b p).2 ∧ (et_ b p).2 ≤ p + 300 ∧ sm (et_ b p).1 = true := by
 obtain ⟨h1, h2, h3, h4⟩ := kf_ b hp hp2
 have hs := d8_ h3
 have hk := rc_ h3
 refine ⟨by simp only [et_, l6_]; split <;> omega, by simp only [et_, l6_]; split <;> omega, ?_⟩
 simp only [et_, og_]
 split
 ·simp only [sm, T5_, T3_]; exact ⟨⟨hs.1, hk⟩, hs.2.2⟩
 ·split
  ·simp only [sm, T5_, T3_]; exact ⟨⟨hs.1, hk⟩, hs.2.2⟩
  ·split
   ·have := oz_ (b := b) (p := (ch_ b p).2 + 1) (l := [[108, 101, 116], [88], [60], [105, 110, 116], [120]]) (by decide) (by omega) (by omega)
    simp only [List.mem_cons, List.not_mem_nil, or_false] at this
    simp only [sm, T5_, T3_]
    refine ⟨⟨?_, hk⟩, hs.2.2⟩
    rcases this with h | h | h | h | h <;> rw [h] <;> decide
   ·split
    ·exact abc_ h3 5
    ·exact h3
theorem s3_ (b : Str) (p : Int) (hb : b.length ≤ 2000) (hp : 0 ≤ p) (hp2 : p < 1000000000) : ACall En 107 [.pt 0 2 0 0] [rdB b p] [.ag (eC (et_ b p).1)] [rdB b (et_ b p).2] := by
 obtain ⟨h1, h2, h3, _⟩ := kf_ b hp hp2
 refine al_ (fn := Tryz.f107) [0] Tryz.func107 rfl rfl (by simp) fun C => ?_
 rw [aw_]
 simp only [Tryz.ntmps107, T7_, List.length_nil, Nat.reduceAdd, Nat.reduceSub, List.replicate_succ, List.replicate_zero, List.cons_append, List.nil_append, bo_]
 refine .seq (.rgn [] (by simp only [go_sem, seval, ah_, an_, au_, ar_, aj_, ag_]; rfl) ?_ ?_)
 ·first | trivial | simp
 refine .seq (.rgn [bm_ [0] [] (tf_ b p hb hp hp2)] (by simp only [go_sem, seval, ah_, an_, au_, ar_, aj_, ag_]; rfl) ?_ ?_)
 ·first | trivial | simp
 refine .seqJ (fun u : Unit => ⟨[.no, .no, .pt 12 4 0 0, .pt 13 4 0 0, .no, .no, .no, .no, .no, .no, .no, .no, .no, .no, .no, .no, .no, .no, .no, .no, .no, .no, .no, .no, .no, .no, .no, .no, .no, .no, .no, .no, .no, .no, .no, .no, .no], bc_ [(0, rdB b (et_ b p).2), (12, ⟨33, 4, [[.i .i64 0, .i .i64 0, .s [], .sl true []]]⟩), (13, ⟨33, 4, [eC (et_ b p).1]⟩)], us [12, 13]⟩) (fun u : Unit => True) ?_ (fun u hJ => ?_)
 ·refine .seq (.rgn [bm_ [0] [] (di_ b (ch_ b p).2 48 hb (by omega) (by omega))] (by simp only [go_sem, seval, ah_, an_, au_, ar_, aj_, ag_]; rfl) ?_ ?_)
  ·first | trivial | simp
  refine .block (.seq (.rgn [] (by simp only [go_sem, seval, ah_, an_, au_, ar_, aj_, ag_]; rfl) ?_ ?_))
  ·first | trivial | simp
  refine .condB (by simp only [go_sem, seval, ah_, an_, au_, ar_, aj_, ag_]; rfl) (by simp only [go_sem, seval, ah_, an_, au_, ar_, aj_, ag_]) (fun h9 => ?_) (fun h9 => ?_)
  ·refine .rgn [bm_ [0] [] (pw_ b ((ch_ b p).2 + 1) [0, 5, 3, 4] (by decide) hb (by omega) (by omega))] (by simp only [go_sem, seval, ah_, an_, au_, ar_, aj_, ag_]; rfl) ?_ ?_
   ·first | trivial | simp
   refine Exists.intro (()) ⟨?_, ?_⟩
   ·trivial
   exact Can.weak (Weak.lit (by simp only [go_sem, seval, ah_, an_, au_, ar_, aj_, ag_, aq_, leV, ao_, ap_, V.inn, us, T9_, Ta_] <;> (simp)) (by simp only [go_sem, seval, ah_, an_, au_, ar_, aj_, ag_, aq_, leV, ao_, ap_, V.inn, us, T9_, Ta_]) (by simp only [go_sem, seval, ah_, an_, au_, ar_, aj_, ag_, aq_, leV, ao_, ap_, V.inn, us, T9_, Ta_] <;> ((try (have := hI); try (have hk5 : k = 5 := by simp at h30; omega); try subst hk5); simp_all [et_, og_, l6_, E.kind_mk, E.n_mk, E.s_mk, E.kids_mk]; done)))
  ·refine .seq (.rgn [] (by simp only [go_sem, seval, ah_, an_, au_, ar_, aj_, ag_]; rfl) ?_ ?_)
   ·first | trivial | simp
   refine .condB (by simp only [go_sem, seval, ah_, an_, au_, ar_, aj_, ag_]; rfl) (by simp only [go_sem, seval, ah_, an_, au_, ar_, aj_, ag_]) (fun h15 => ?_) (fun h15 => ?_)
   ·refine .rgn [bm_ [0] [] (pw_ b ((ch_ b p).2 + 1) [1, -1, 1000001] (by decide) hb (by omega) (by omega))] (by simp only [go_sem, seval, ah_, an_, au_, ar_, aj_, ag_]; rfl) ?_ ?_
    ·first | trivial | simp
    refine Exists.intro (()) ⟨?_, ?_⟩
    ·trivial
    exact Can.weak (Weak.lit (by simp only [go_sem, seval, ah_, an_, au_, ar_, aj_, ag_, aq_, leV, ao_, ap_, V.inn, us, T9_, Ta_] <;> (simp)) (by simp only [go_sem, seval, ah_, an_, au_, ar_, aj_, ag_, aq_, leV, ao_, ap_, V.inn, us, T9_, Ta_]) (by simp only [go_sem, seval, ah_, an_, au_, ar_, aj_, ag_, aq_, leV, ao_, ap_, V.inn, us, T9_, Ta_] <;> ((try (have := hI); try (have hk5 : k = 5 := by simp at h30; omega); try subst hk5); simp_all [et_, og_, l6_, E.kind_mk, E.n_mk, E.s_mk, E.kids_mk]; done)))
   ·refine .seq (.rgn [] (by simp only [go_sem, seval, ah_, an_, au_, ar_, aj_, ag_]; rfl) ?_ ?_)
    ·first | trivial | simp
    refine .condB (by simp only [go_sem, seval, ah_, an_, au_, ar_, aj_, ag_]; rfl) (by simp only [go_sem, seval, ah_, an_, au_, ar_, aj_, ag_]) (fun h21 => ?_) (fun h21 => ?_)
    ·refine .rgn [bm_ [0] [] (pi_ b ((ch_ b p).2 + 1) [[108, 101, 116], [88], [60], [105, 110, 116], [120]] (by decide) hb (by omega) (by omega))] (by simp only [go_sem, seval, ah_, an_, au_, ar_, aj_, ag_]; rfl) ?_ ?_
     ·first | trivial | simp
     refine Exists.intro (()) ⟨?_, ?_⟩
     ·trivial
     exact Can.weak (Weak.lit (by simp only [go_sem, seval, ah_, an_, au_, ar_, aj_, ag_, aq_, leV, ao_, ap_, V.inn, us, T9_, Ta_] <;> (simp)) (by simp only [go_sem, seval, ah_, an_, au_, ar_, aj_, ag_, aq_, leV, ao_, ap_, V.inn, us, T9_, Ta_]) (by simp only [go_sem, seval, ah_, an_, au_, ar_, aj_, ag_, aq_, leV, ao_, ap_, V.inn, us, T9_, Ta_] <;> ((try (have := hI); try (have hk5 : k = 5 := by simp at h30; omega); try subst hk5); simp_all [et_, og_, l6_, E.kind_mk, E.n_mk, E.s_mk, E.kids_mk]; done)))
    ·refine .seq (.rgn [] (by simp only [go_sem, seval, ah_, an_, au_, ar_, aj_, ag_]; rfl) ?_ ?_)
     ·first | trivial | simp
     refine .condB (by simp only [go_sem, seval, ah_, an_, au_, ar_, aj_, ag_]; rfl) (by simp only [go_sem, seval, ah_, an_, au_, ar_, aj_, ag_]) (fun h27 => ?_) (fun h27 => ?_)
     ·refine .seq (.rgn [] (by simp only [go_sem, seval, ah_, an_, au_, ar_, aj_, ag_]; rfl) ?_ ?_)
      ·first | trivial | simp
      refine .block (.loopK (fun k : Nat => ⟨[.no, .no, .pt 12 4 0 0, .pt 13 4 0 0, .i .i64 k, .no, .no, .no, .no, .no, .no, .no, .no, .no, .no, .no, .no, .no, .no, .no, .no, .no, .no, .no, .no, .no, .no, .no, .no, .no, .no, .no, .no, .no, .no, .no, .no], bc_ [(0, rdB b ((ch_ b p).2 + 1)), (12, ⟨33, 4, [[.i .i64 0, .i .i64 0, .s [], .sl true []]]⟩), (13, ⟨33, 4, [eC (asN k (ch_ b p).1)]⟩)], us [12, 13]⟩) (fun k : Nat => k ≤ 5) (fun k : Nat => 5 - k) (0) ?_ ?_ (fun k hI => ?_))
      ·simp
      ·exact Can.weak (Weak.lit (by simp only [go_sem, seval, ah_, an_, au_, ar_, aj_, ag_, aq_, leV, ao_, ap_, V.inn, us, T9_, Ta_] <;> (rfl)) (by simp only [go_sem, seval, ah_, an_, au_, ar_, aj_, ag_, aq_, leV, ao_, ap_, V.inn, us, T9_, Ta_]) (by simp only [go_sem, seval, ah_, an_, au_, ar_, aj_, ag_, aq_, leV, ao_, ap_, V.inn, us, T9_, Ta_] <;> (simp [asN])))
      refine .seq (.seq (.rgn [] (by simp only [go_sem, seval, ah_, an_, au_, ar_, aj_, ag_]; rfl) ?_ ?_))
      ·first | trivial | simp
      refine .condB (by simp only [go_sem, seval, ah_, an_, au_, ar_, aj_, ag_]; rfl) (by simp only [go_sem, seval, ah_, an_, au_, ar_, aj_, ag_]) (fun h30 => ?_) (fun h30 => ?_)
      ·refine .skip (.seq (.block (.rgn [] (by simp only [go_sem, seval, ah_, an_, au_, ar_, aj_, ag_]; rfl) ?_ ?_)))
       ·first | trivial | simp
       refine .rgn [] (by simp only [go_sem, seval, ah_, an_, au_, ar_, aj_, ag_]; rfl) ?_ ?_
       ·first | trivial | simp
       refine Exists.intro (k + 1) ⟨?_, ?_, ?_⟩
       ·simp at h30; omega
       ·simp at h30; omega
       refine Can.trans (Can.leAt 13 ([[.i .i64 4, .i .i64 0, .s [105, 110, 116], .sl false [eC (asN k (ch_ b p).1)]]]) (by simp only [go_sem, seval, ah_, an_, au_, ar_, aj_, ag_] <;> rfl) (by simp only [go_sem, seval, ah_, an_, au_, ar_, aj_, ag_, ler, les, leV] <;> (first | trivial | simp)) (by simp only [go_sem, seval, ah_, an_, au_, ar_, aj_, ag_] <;> rfl)) ?_
       exact Can.weak (Weak.lit (by simp only [go_sem, seval, ah_, an_, au_, ar_, aj_, ag_, aq_, leV, ao_, ap_, V.inn, us, T9_, Ta_] <;> (rw [bd_ (by simp at h30; omega) (by simp at h30; omega)]; simp)) (by simp only [go_sem, seval, ah_, an_, au_, ar_, aj_, ag_, aq_, leV, ao_, ap_, V.inn, us, T9_, Ta_]) (by simp only [go_sem, seval, ah_, an_, au_, ar_, aj_, ag_, aq_, leV, ao_, ap_, V.inn, us, T9_, Ta_] <;> (simp [asN, E.kind_mk, E.n_mk, E.s_mk, E.kids_mk, eR, a4_])))
      ·refine .exit ?_
       refine Exists.intro (()) ⟨?_, ?_⟩
       ·trivial
       exact Can.weak (Weak.lit (by simp only [go_sem, seval, ah_, an_, au_, ar_, aj_, ag_, aq_, leV, ao_, ap_, V.inn, us, T9_, Ta_] <;> (simp)) (by simp only [go_sem, seval, ah_, an_, au_, ar_, aj_, ag_, aq_, leV, ao_, ap_, V.inn, us, T9_, Ta_]) (by simp only [go_sem, seval, ah_, an_, au_, ar_, aj_, ag_, aq_, leV, ao_, ap_, V.inn, us, T9_, Ta_] <;> ((try (have := hI); try (have hk5 : k = 5 := by simp at h30; omega); try subst hk5); simp_all [et_, og_, l6_, E.kind_mk, E.n_mk, E.s_mk, E.kids_mk]; done)))
     ·refine .skip ?_
      refine Exists.intro (()) ⟨?_, ?_⟩
      ·trivial
      exact Can.weak (Weak.lit (by simp only [go_sem, seval, ah_, an_, au_, ar_, aj_, ag_, aq_, leV, ao_, ap_, V.inn, us, T9_, Ta_] <;> (simp)) (by simp only [go_sem, seval, ah_, an_, au_, ar_, aj_, ag_, aq_, leV, ao_, ap_, V.inn, us, T9_, Ta_]) (by simp only [go_sem, seval, ah_, an_, au_, ar_, aj_, ag_, aq_, leV, ao_, ap_, V.inn, us, T9_, Ta_] <;> ((try (have := hI); try (have hk5 : k = 5 := by simp at h30; omega); try subst hk5); simp_all [et_, og_, l6_, E.kind_mk, E.n_mk, E.s_mk, E.kids_mk]; done)))
 refine .seq (.rgn [] (by simp only [go_sem, seval, ah_, an_, au_, ar_, aj_, ag_]; rfl) ?_ ?_)
 ·first | trivial | simp
 refine .ret ⟨.inr rfl, ?_⟩
 exact Out.mem' (by simp only [Tryz.results107]; rfl) (by simp only [av_, a3_, go_sem, seval, ah_, an_, au_, ar_, aj_, ag_]) (by simp only [a2_, rns, rn, go_sem, seval, ah_, an_, au_, ar_, aj_, ag_] <;> (simp [a4_])) (by simp) rfl (by decide) (by simp only [go_sem, seval, ah_, an_, au_, ar_, aj_, ag_]) (by simp only [an_, go_sem, seval, ah_, an_, au_, ar_, aj_, ag_]) (by simp only [ah_, go_sem, seval, ah_, an_, au_, ar_, aj_, ag_] <;> (simp))
end
section
set_option maxRecDepth 100000
set_option maxHeartbeats 1000000
def sC (s : Sl) : List V := .i .i64 s.kind :: .s s.name :: .s s.type :: (eC s.expr ++ eC s.thn)
theorem am_ (s : Sl) : sC s = [.i .i64 s.kind, .s s.name, .s s.type, .i .i64 s.expr.kind, .i .i64 s.expr.n, .s s.expr.s, .sl false (eR s.expr.kids), .i .i64 s.thn.kind, .i .i64 s.thn.n, .s s.thn.s, .sl false (eR s.thn.kids)] := by
 simp only [sC, a4_]; rfl
def lb_ (s : Sl) : Bool := decide (s.name.length < 4611686018427387904) && decide (s.type.length < 4611686018427387904) && sm s.expr && sm s.thn
theorem sz_ {s : Sl} (h : lb_ s = true) : s.name.length < 4611686018427387904 ∧ s.type.length < 4611686018427387904 ∧ sm s.expr = true ∧ sm s.thn = true := by
 simp only [lb_, T5_, T3_] at h; exact ⟨h.1.1.1, h.1.1.2, h.1.2, h.2⟩
def d5 (b : Str) (p k : Int) : Sl × Int :=
 if k = 0 then (S0, (ch_ b p).2)
 else if k = 1 then (⟨1, ofI b (ch_ b p).2 [[120], [121], [122]], ofI b ((ch_ b p).2 + 1) [[105, 110, 116], [105, 110, 116], [98, 111, 111, 108]], (ch_ b p).1, E0⟩, (ch_ b p).2 + 2)
 else if k = 3 then (⟨3, [], [], (ch_ b p).1, (dE b 2 (ch_ b p).2).1⟩, (dE b 2 (ch_ b p).2).2)
 else (⟨k, [], [], (ch_ b p).1, E0⟩, (ch_ b p).2)
def b8_ (b : Str) (p : Int) : Sl × Int := d5 b (p + 1) (u0_ b p [1, 1, 2, 2, 3, 3, 0])
theorem gz_ : E0.kind = 0 := rfl
theorem gx_ : E0.n = 0 := rfl
theorem g0_ : E0.s = [] := rfl
theorem cy_ : E0.kids = [] := rfl
theorem dn_ : eR [] = [] := by simp only [eR]
theorem xr_ : wf E0 = true := by decide
theorem aa0_ : sm E0 = true := by decide
theorem e1_ {b : Str} {p : Int} {l : List Str} (hl : 0 < l.length) (hp : 0 ≤ p) (hp2 : p < 1099511627776) (k : Nat) (h : ∀ s ∈ l, s.length ≤ k) : (ofI b p l).length ≤ k := h _ (oz_ hl hp hp2)
theorem kg_ (b : Str) {p : Int} (hp : 0 ≤ p) (hp2 : p < 100000000) : p ≤ (b8_ b p).2 ∧ (b8_ b p).2 ≤ p + 300 ∧ lb_ (b8_ b p).1 = true ∧ wf (b8_ b p).1.expr = true ∧ wf (b8_ b p).1.thn = true ∧ ((b8_ b p).1.kind = 0 ∨ (b8_ b p).1.kind = 1 ∨ (b8_ b p).1.kind = 2 ∨ (b8_ b p).1.kind = 3) := by
 obtain ⟨h1, h2, h3, h4⟩ := kf_ b (p := p + 1) (by omega) (by omega)
 have hk := xo_ (b := b) (p := p) (l := [1, 1, 2, 2, 3, 3, 0]) (by decide) hp (by omega)
 have h5 := v7_ b 2 (ch_ b (p + 1)).2
 have h6 := j7_ b 1 (ch_ b (p + 1)).2 (by omega) (by omega)
 have h7 : (5 : Int) * 2 ^ 2 = 20 := by decide
 have l1 := e1_ (b := b) (p := (ch_ b (p + 1)).2) (l := [[120], [121], [122]]) (by decide) (by omega) (by omega) 4 (by decide)
 have l2 := e1_ (b := b) (p := (ch_ b (p + 1)).2 + 1) (l := [[105, 110, 116], [105, 110, 116], [98, 111, 111, 108]]) (by decide) (by omega) (by omega) 4 (by decide)
 simp only [List.mem_cons, List.not_mem_nil, or_false] at hk
 unfold b8_
 generalize u0_ b p [1, 1, 2, 2, 3, 3, 0] = k at hk
 unfold d5
 split
 ·refine ⟨by dsimp only; omega, by dsimp only; omega, show lb_ S0 = true by decide, xr_, xr_, .inl rfl⟩
 ·split
  ·refine ⟨by dsimp only; omega, by dsimp only; omega, ?_, oq_ h4, xr_, .inr (.inl rfl)⟩
   simp only [lb_, h3, aa0_, Bool.and_true, T5_, T3_]; omega
  ·split
   ·exact ⟨by dsimp only; omega, by dsimp only; omega, by simp only [lb_, h3, h6.2, List.length_nil]; rfl, oq_ h4, rp_ _ _ h6.1, .inr (.inr (.inr rfl))⟩
   ·exact ⟨by dsimp only; omega, by dsimp only; omega, by simp only [lb_, h3, aa0_, List.length_nil]; rfl, oq_ h4, xr_, by dsimp only; omega⟩
theorem sn_ (b : Str) (p : Int) (hb : b.length ≤ 2000) (hp : 0 ≤ p) (hp2 : p < 100000000) : ACall En 104 [.pt 0 2 0 0] [rdB b p] [.ag (sC (b8_ b p).1)] [rdB b (b8_ b p).2] := by
 obtain ⟨h1, h2, h3, h4⟩ := kf_ b (p := p + 1) (by omega) (by omega)
 have A2 := nz_ b hb 1 (ch_ b (p + 1)).2 (by omega) (by have : (5 : Int) * 2 ^ (1 + 1) = 20 := (by decide); omega) (by decide)
 rw [show ((1 + 1 : Nat) : Int) = 2 from rfl, show 1 + 1 = 2 from rfl] at A2
 refine al_ (fn := Tryz.f104) [0] Tryz.func104 rfl rfl (by simp) fun C => ?_
 rw [aw_]
 simp only [Tryz.ntmps104, T7_, List.length_nil, Nat.reduceAdd, Nat.reduceSub, List.replicate_succ, List.replicate_zero, List.cons_append, List.nil_append, bo_]
 refine .seq (.rgn [] (by simp only [go_sem, seval, ah_, an_, au_, ar_, aj_, ag_, am_]; rfl) ?_ ?_)
 ·first | trivial | simp
 refine .seq (.rgn [bm_ [0] [] (pw_ b p [1, 1, 2, 2, 3, 3, 0] (by decide) hb (by omega) (by omega)), bm_ [0] [] (tf_ b (p + 1) hb (by omega) (by omega))] (by simp only [go_sem, seval, ah_, an_, au_, ar_, aj_, ag_, am_]; rfl) ?_ ?_)
 ·first | trivial | simp
 refine .seq (.seq (.rgn [] (by simp only [go_sem, seval, ah_, an_, au_, ar_, aj_, ag_, am_]; rfl) ?_ ?_))
 ·first | trivial | simp
 refine .block (.seq (.rgn [] (by simp only [go_sem, seval, ah_, an_, au_, ar_, aj_, ag_, am_]; rfl) ?_ ?_))
 ·first | trivial | simp
 refine .condB (by simp only [go_sem, seval, ah_, an_, au_, ar_, aj_, ag_, am_]; rfl) (by simp only [go_sem, seval, ah_, an_, au_, ar_, aj_, ag_, am_]) (fun h12 => ?_) (fun h12 => ?_)
 ·refine .seq (.rgn [] (by simp only [go_sem, seval, ah_, an_, au_, ar_, aj_, ag_, am_]; rfl) ?_ ?_)
  ·first | trivial | simp
  refine .ret ⟨.inr rfl, ?_⟩
  exact Out.memL' (by simp only [Tryz.results104]; rfl) (by simp only [av_, a3_, go_sem, seval, ah_, an_, au_, ar_, aj_, ag_, am_]) (by simp only [a2_, rns, rn, go_sem, seval, ah_, an_, au_, ar_, aj_, ag_, am_] <;> (simp at h12; simp [b8_, d5, h12, am_, S0, gz_, gx_, g0_, cy_, dn_, ler])) (by simp) rfl (by decide) (by simp only [go_sem, seval, ah_, an_, au_, ar_, aj_, ag_, am_]) (by simp only [an_, go_sem, seval, ah_, an_, au_, ar_, aj_, ag_, am_]) (by simp only [ah_, go_sem, seval, ah_, an_, au_, ar_, aj_, ag_, am_] <;> (simp at h12; simp [b8_, d5, h12]))
 ·refine .seq (.rgn [] (by simp only [go_sem, seval, ah_, an_, au_, ar_, aj_, ag_, am_]; rfl) ?_ ?_)
  ·first | trivial | simp
  refine .condB (by simp only [go_sem, seval, ah_, an_, au_, ar_, aj_, ag_, am_]; rfl) (by simp only [go_sem, seval, ah_, an_, au_, ar_, aj_, ag_, am_]) (fun h15 => ?_) (fun h15 => ?_)
  ·refine .seq (.rgn [bm_ [0] [] (pi_ b (ch_ b (p + 1)).2 [[120], [121], [122]] (by decide) hb (by omega) (by omega))] (by simp only [go_sem, seval, ah_, an_, au_, ar_, aj_, ag_, am_]; rfl) ?_ ?_)
   ·first | trivial | simp
   refine .rgn [bm_ [0] [] (pi_ b ((ch_ b (p + 1)).2 + 1) [[105, 110, 116], [105, 110, 116], [98, 111, 111, 108]] (by decide) hb (by omega) (by omega))] (by simp only [go_sem, seval, ah_, an_, au_, ar_, aj_, ag_, am_]; rfl) ?_ ?_
   ·first | trivial | simp
   refine .seq (.rgn [] (by simp only [go_sem, seval, ah_, an_, au_, ar_, aj_, ag_, am_]; rfl) ?_ ?_)
   ·first | trivial | simp
   refine .ret ⟨.inr rfl, ?_⟩
   exact Out.memL' (by simp only [Tryz.results104]; rfl) (by simp only [av_, a3_, go_sem, seval, ah_, an_, au_, ar_, aj_, ag_, am_]) (by simp only [a2_, rns, rn, go_sem, seval, ah_, an_, au_, ar_, aj_, ag_, am_] <;> (simp at h12 h15; simp [b8_, d5, h12, h15, am_, gz_, gx_, g0_, cy_, dn_, ler, ba_])) (by simp) rfl (by decide) (by simp only [go_sem, seval, ah_, an_, au_, ar_, aj_, ag_, am_]) (by simp only [an_, go_sem, seval, ah_, an_, au_, ar_, aj_, ag_, am_]) (by simp only [ah_, go_sem, seval, ah_, an_, au_, ar_, aj_, ag_, am_] <;> (simp at h12 h15; simp [b8_, d5, h12, h15]; omega))
  ·refine .seq (.rgn [] (by simp only [go_sem, seval, ah_, an_, au_, ar_, aj_, ag_, am_]; rfl) ?_ ?_)
   ·first | trivial | simp
   refine .condB (by simp only [go_sem, seval, ah_, an_, au_, ar_, aj_, ag_, am_]; rfl) (by simp only [go_sem, seval, ah_, an_, au_, ar_, aj_, ag_, am_]) (fun h25 => ?_) (fun h25 => ?_)
   ·refine .rgn [bm_ [0] [] A2] (by simp only [go_sem, seval, ah_, an_, au_, ar_, aj_, ag_, am_]; rfl) ?_ ?_
    ·first | trivial | simp
    refine .seq (.rgn [] (by simp only [go_sem, seval, ah_, an_, au_, ar_, aj_, ag_, am_]; rfl) ?_ ?_)
    ·first | trivial | simp
    refine .ret ⟨.inr rfl, ?_⟩
    exact Out.memL' (by simp only [Tryz.results104]; rfl) (by simp only [av_, a3_, go_sem, seval, ah_, an_, au_, ar_, aj_, ag_, am_]) (by simp only [a2_, rns, rn, go_sem, seval, ah_, an_, au_, ar_, aj_, ag_, am_] <;> (simp at h12 h15 h25; simp [b8_, d5, h12, h15, h25, am_, gz_, gx_, g0_, cy_, dn_, ler, ba_])) (by simp) rfl (by decide) (by simp only [go_sem, seval, ah_, an_, au_, ar_, aj_, ag_, am_]) (by simp only [an_, go_sem, seval, ah_, an_, au_, ar_, aj_, ag_, am_]) (by simp only [ah_, go_sem, seval, ah_, an_, au_, ar_, aj_, ag_, am_] <;> (simp at h12 h15 h25; simp [b8_, d5, h12, h15, h25]))
   ·refine .skip (.seq (.rgn [] (by simp only [go_sem, seval, ah_, an_, au_, ar_, aj_, ag_, am_]; rfl) ?_ ?_))
    ·first | trivial | simp
    refine .ret ⟨.inr rfl, ?_⟩
    exact Out.memL' (by simp only [Tryz.results104]; rfl) (by simp only [av_, a3_, go_sem, seval, ah_, an_, au_, ar_, aj_, ag_, am_]) (by simp only [a2_, rns, rn, go_sem, seval, ah_, an_, au_, ar_, aj_, ag_, am_] <;> (simp at h12 h15 h25; simp [b8_, d5, h12, h15, h25, am_, gz_, gx_, g0_, cy_, dn_, ler, ba_])) (by simp) rfl (by decide) (by simp only [go_sem, seval, ah_, an_, au_, ar_, aj_, ag_, am_]) (by simp only [an_, go_sem, seval, ah_, an_, au_, ar_, aj_, ag_, am_]) (by simp only [ah_, go_sem, seval, ah_, an_, au_, ar_, aj_, ag_, am_] <;> (simp at h12 h15 h25; simp [b8_, d5, h12, h15, h25]))
theorem rt_ (s : Sl) (hs : lb_ s = true) (w1 : wf s.expr = true) (w2 : wf s.thn = true) : ACall En 53 [.ag (sC s)] [] [.ag (bC (bof s))] [] := by
 obtain ⟨s1, s2, s3, s4⟩ := sz_ hs
 refine al_ (fn := Tryz.f53) [] Tryz.func53 rfl rfl (by simp) fun C => ?_
 rw [aw_]
 simp only [Tryz.ntmps53, T7_, List.length_nil, Nat.reduceAdd, Nat.reduceSub, List.replicate_succ, List.replicate_zero, List.cons_append, List.nil_append, bo_]
 refine .seq (.rgn [] (by simp only [go_sem, seval, am_, ae_]; rfl) ?_ ?_)
 ·first | trivial | simp
 refine .seq (.rgn [] (by simp only [go_sem, seval, am_, ae_]; rfl) ?_ ?_)
 ·first | trivial | simp
 refine .seq (.seq (.rgn [] (by simp only [go_sem, seval, am_, ae_]; rfl) ?_ ?_))
 ·first | trivial | simp
 refine .condB (by simp only [go_sem, seval, am_, ae_]; rfl) (by simp only [go_sem, seval, am_, ae_]) (fun h11 => ?_) (fun h11 => ?_)
 ·refine .rgn [a1_ (nf_ s.expr w1 s3)] (by simp only [go_sem, seval, am_, ae_]; rfl) ?_ ?_
  ·first | trivial | simp
  refine .seq (.seq (.rgn [] (by simp only [go_sem, seval, am_, ae_]; rfl) ?_ ?_))
  ·first | trivial | simp
  refine .condB (by simp only [go_sem, seval, am_, ae_]; rfl) (by simp only [go_sem, seval, am_, ae_]) (fun h18 => ?_) (fun h18 => ?_)
  ·refine .rgn [a1_ (nf_ s.thn w2 s4)] (by simp only [go_sem, seval, am_, ae_]; rfl) ?_ ?_
   ·first | trivial | simp
   refine .seq (.rgn [] (by simp only [go_sem, seval, am_, ae_]; rfl) ?_ ?_)
   ·first | trivial | simp
   refine .ret ⟨.inr rfl, ?_⟩
   exact Out.plainL (by simp only [Tryz.results53]; rfl) (by simp only [av_, a3_, go_sem, seval, am_, ae_] <;> (split <;> rfl)) (by simp only [a2_, go_sem, seval, am_, ae_] <;> (simp at h11 h18; simp [bof, h11, h18, ae_, gz_, gx_, g0_, cy_, dn_, ler, ba_])) (by simp only [go_sem, seval, am_, ae_])
  ·refine .skip (.seq (.rgn [] (by simp only [go_sem, seval, am_, ae_]; rfl) ?_ ?_))
   ·first | trivial | simp
   refine .ret ⟨.inr rfl, ?_⟩
   exact Out.plainL (by simp only [Tryz.results53]; rfl) (by simp only [av_, a3_, go_sem, seval, am_, ae_] <;> (split <;> rfl)) (by simp only [a2_, go_sem, seval, am_, ae_] <;> (simp at h11 h18; simp [bof, h11, h18, ae_, gz_, gx_, g0_, cy_, dn_, ler, ba_])) (by simp only [go_sem, seval, am_, ae_])
 ·refine .skip (.seq (.seq (.rgn [] (by simp only [go_sem, seval, am_, ae_]; rfl) ?_ ?_)))
  ·first | trivial | simp
  refine .condB (by simp only [go_sem, seval, am_, ae_]; rfl) (by simp only [go_sem, seval, am_, ae_]) (fun h18 => ?_) (fun h18 => ?_)
  ·refine .rgn [a1_ (nf_ s.thn w2 s4)] (by simp only [go_sem, seval, am_, ae_]; rfl) ?_ ?_
   ·first | trivial | simp
   refine .seq (.rgn [] (by simp only [go_sem, seval, am_, ae_]; rfl) ?_ ?_)
   ·first | trivial | simp
   refine .ret ⟨.inr rfl, ?_⟩
   exact Out.plainL (by simp only [Tryz.results53]; rfl) (by simp only [av_, a3_, go_sem, seval, am_, ae_] <;> (split <;> rfl)) (by simp only [a2_, go_sem, seval, am_, ae_] <;> (simp at h11 h18; omega)) (by simp only [go_sem, seval, am_, ae_])
  ·refine .skip (.seq (.rgn [] (by simp only [go_sem, seval, am_, ae_]; rfl) ?_ ?_))
   ·first | trivial | simp
   refine .ret ⟨.inr rfl, ?_⟩
   exact Out.plainL (by simp only [Tryz.results53]; rfl) (by simp only [av_, a3_, go_sem, seval, am_, ae_] <;> (split <;> rfl)) (by simp only [a2_, go_sem, seval, am_, ae_] <;> (simp at h11 h18; simp [bof, h11, h18, ae_, gz_, gx_, g0_, cy_, dn_, ler, ba_])) (by simp only [go_sem, seval, am_, ae_])
def hl_ (b : Str) (q k : Int) (x : Bl) : Bl × Int :=
 if k = 0 then ({ x with kind := u0_ b q [0, 4, 1, 2, 3] }, q + 1)
 else if k = 1 then ({ x with name := ofI b q [[120], [112, 114, 105, 110, 116], [88], []] }, q + 1)
 else if k = 2 then ({ x with expr := (et_ b q).1 }, (et_ b q).2)
 else if k = 3 then ({ x with thn := (et_ b q).1 }, (et_ b q).2)
 else (x, q)
def d7 (b : Str) (p : Int) : Bl × Int := hl_ b ((b8_ b p).2 + 1) (b0_ b (b8_ b p).2 40) (bof (b8_ b p).1)
theorem mt_ {s : Sl} (h : lb_ s = true) : smb (bof s) = true := by
 obtain ⟨s1, s2, s3, s4⟩ := sz_ h
 unfold smb bof
 simp only [s1, decide_true, Bool.true_and]
 split <;> split <;> simp [mx_, s3, s4, aa0_]
theorem ze_ (b : Str) {p : Int} (hp : 0 ≤ p) (hp2 : p < 100000000) : p ≤ (d7 b p).2 ∧ (d7 b p).2 ≤ p + 700 ∧ smb (d7 b p).1 = true := by
 obtain ⟨h1, h2, h3, _⟩ := kg_ b hp hp2
 have hs := mt_ h3
 obtain ⟨s1, s2, s3⟩ := ek_ hs
 obtain ⟨q1, q2, q3⟩ := ae6_ b (p := (b8_ b p).2 + 1) (by omega) (by omega)
 have l1 := e1_ (b := b) (p := (b8_ b p).2 + 1) (l := [[120], [112, 114, 105, 110, 116], [88], []]) (by decide) (by omega) (by omega) 5 (by decide)
 unfold d7 hl_
 split
 ·exact ⟨by dsimp only; omega, by dsimp only; omega, hs⟩
 ·split
  ·refine ⟨by dsimp only; omega, by dsimp only; omega, ?_⟩
   simp only [smb, s2, s3, Bool.and_true, T3_]; omega
  ·split
   ·exact ⟨by dsimp only; omega, by dsimp only; omega, by simp only [smb, s1, q3, s3, decide_true, Bool.and_self]⟩
   ·split
    ·exact ⟨by dsimp only; omega, by dsimp only; omega, by simp only [smb, s1, s2, q3, decide_true, Bool.and_self]⟩
    ·exact ⟨by dsimp only; omega, by dsimp only; omega, hs⟩
theorem hd_ (b : Str) (p : Int) (hb : b.length ≤ 2000) (hp : 0 ≤ p) (hp2 : p < 100000000) : ACall En 55 [.pt 0 2 0 0] [rdB b p] [.ag (bC (d7 b p).1)] [rdB b (d7 b p).2] := by
 obtain ⟨h1, h2, h3, w1, w2, _⟩ := kg_ b hp hp2
 refine al_ (fn := Tryz.f55) [0] Tryz.func55 rfl rfl (by simp) fun C => ?_
 rw [aw_]
 simp only [Tryz.ntmps55, T7_, List.length_nil, Nat.reduceAdd, Nat.reduceSub, List.replicate_succ, List.replicate_zero, List.cons_append, List.nil_append, bo_]
 refine .seq (.rgn [] (by simp only [go_sem, seval, ah_, an_, au_, ar_, aj_, ag_, am_, ae_]; rfl) ?_ ?_)
 ·first | trivial | simp
 refine .seq (.rgn [bm_ [0] [] (sn_ b p hb hp hp2), a1_ (rt_ (b8_ b p).1 h3 w1 w2)] (by simp only [go_sem, seval, ah_, an_, au_, ar_, aj_, ag_, am_, ae_]; rfl) ?_ ?_)
 ·first | trivial | simp
 refine .seq (.seq (.rgn [bm_ [0] [] (di_ b (b8_ b p).2 40 hb (by omega) (by omega))] (by simp only [go_sem, seval, ah_, an_, au_, ar_, aj_, ag_, am_, ae_]; rfl) ?_ ?_))
 ·first | trivial | simp
 refine .block (.seq (.rgn [] (by simp only [go_sem, seval, ah_, an_, au_, ar_, aj_, ag_, am_, ae_]; rfl) ?_ ?_))
 ·first | trivial | simp
 refine .condB (by simp only [go_sem, seval, ah_, an_, au_, ar_, aj_, ag_, am_, ae_]; rfl) (by simp only [go_sem, seval, ah_, an_, au_, ar_, aj_, ag_, am_, ae_]) (fun h9 => ?_) (fun h9 => ?_)
 ·refine .rgn [bm_ [0] [] (pw_ b ((b8_ b p).2 + 1) [0, 4, 1, 2, 3] (by decide) hb (by omega) (by omega))] (by simp only [go_sem, seval, ah_, an_, au_, ar_, aj_, ag_, am_, ae_]; rfl) ?_ ?_
  ·first | trivial | simp
  refine .seq (.rgn [] (by simp only [go_sem, seval, ah_, an_, au_, ar_, aj_, ag_, am_, ae_]; rfl) ?_ ?_)
  ·first | trivial | simp
  refine .ret ⟨.inr rfl, ?_⟩
  exact Out.mem' (by simp only [Tryz.results55]; rfl) (by simp only [av_, a3_, go_sem, seval, ah_, an_, au_, ar_, aj_, ag_, am_, ae_]) (by simp only [a2_, rns, rn, go_sem, seval, ah_, an_, au_, ar_, aj_, ag_, am_, ae_] <;> (simp at h9; simp [d7, hl_, h9])) (by simp) rfl (by decide) (by simp only [go_sem, seval, ah_, an_, au_, ar_, aj_, ag_, am_, ae_]) (by simp only [an_, go_sem, seval, ah_, an_, au_, ar_, aj_, ag_, am_, ae_]) (by simp only [ah_, go_sem, seval, ah_, an_, au_, ar_, aj_, ag_, am_, ae_] <;> (simp at h9; simp [d7, hl_, h9]))
 ·refine .seq (.rgn [] (by simp only [go_sem, seval, ah_, an_, au_, ar_, aj_, ag_, am_, ae_]; rfl) ?_ ?_)
  ·first | trivial | simp
  refine .condB (by simp only [go_sem, seval, ah_, an_, au_, ar_, aj_, ag_, am_, ae_]; rfl) (by simp only [go_sem, seval, ah_, an_, au_, ar_, aj_, ag_, am_, ae_]) (fun h15 => ?_) (fun h15 => ?_)
  ·refine .rgn [bm_ [0] [] (pi_ b ((b8_ b p).2 + 1) [[120], [112, 114, 105, 110, 116], [88], []] (by decide) hb (by omega) (by omega))] (by simp only [go_sem, seval, ah_, an_, au_, ar_, aj_, ag_, am_, ae_]; rfl) ?_ ?_
   ·first | trivial | simp
   refine .seq (.rgn [] (by simp only [go_sem, seval, ah_, an_, au_, ar_, aj_, ag_, am_, ae_]; rfl) ?_ ?_)
   ·first | trivial | simp
   refine .ret ⟨.inr rfl, ?_⟩
   exact Out.mem' (by simp only [Tryz.results55]; rfl) (by simp only [av_, a3_, go_sem, seval, ah_, an_, au_, ar_, aj_, ag_, am_, ae_]) (by simp only [a2_, rns, rn, go_sem, seval, ah_, an_, au_, ar_, aj_, ag_, am_, ae_] <;> (simp at h9 h15; simp [d7, hl_, h9, h15])) (by simp) rfl (by decide) (by simp only [go_sem, seval, ah_, an_, au_, ar_, aj_, ag_, am_, ae_]) (by simp only [an_, go_sem, seval, ah_, an_, au_, ar_, aj_, ag_, am_, ae_]) (by simp only [ah_, go_sem, seval, ah_, an_, au_, ar_, aj_, ag_, am_, ae_] <;> (simp at h9 h15; simp [d7, hl_, h9, h15]))
  ·refine .seq (.rgn [] (by simp only [go_sem, seval, ah_, an_, au_, ar_, aj_, ag_, am_, ae_]; rfl) ?_ ?_)
   ·first | trivial | simp
   refine .condB (by simp only [go_sem, seval, ah_, an_, au_, ar_, aj_, ag_, am_, ae_]; rfl) (by simp only [go_sem, seval, ah_, an_, au_, ar_, aj_, ag_, am_, ae_]) (fun h21 => ?_) (fun h21 => ?_)
   ·refine .rgn [bm_ [0] [] (s3_ b ((b8_ b p).2 + 1) hb (by omega) (by omega))] (by simp only [go_sem, seval, ah_, an_, au_, ar_, aj_, ag_, am_, ae_]; rfl) ?_ ?_
    ·first | trivial | simp
    refine .seq (.rgn [] (by simp only [go_sem, seval, ah_, an_, au_, ar_, aj_, ag_, am_, ae_]; rfl) ?_ ?_)
    ·first | trivial | simp
    refine .ret ⟨.inr rfl, ?_⟩
    exact Out.mem' (by simp only [Tryz.results55]; rfl) (by simp only [av_, a3_, go_sem, seval, ah_, an_, au_, ar_, aj_, ag_, am_, ae_]) (by simp only [a2_, rns, rn, go_sem, seval, ah_, an_, au_, ar_, aj_, ag_, am_, ae_] <;> (simp at h9 h15 h21; simp [d7, hl_, h9, h15, h21])) (by simp) rfl (by decide) (by simp only [go_sem, seval, ah_, an_, au_, ar_, aj_, ag_, am_, ae_]) (by simp only [an_, go_sem, seval, ah_, an_, au_, ar_, aj_, ag_, am_, ae_]) (by simp only [ah_, go_sem, seval, ah_, an_, au_, ar_, aj_, ag_, am_, ae_] <;> (simp at h9 h15 h21; simp [d7, hl_, h9, h15, h21]))
   ·refine .seq (.rgn [] (by simp only [go_sem, seval, ah_, an_, au_, ar_, aj_, ag_, am_, ae_]; rfl) ?_ ?_)
    ·first | trivial | simp
    refine .condB (by simp only [go_sem, seval, ah_, an_, au_, ar_, aj_, ag_, am_, ae_]; rfl) (by simp only [go_sem, seval, ah_, an_, au_, ar_, aj_, ag_, am_, ae_]) (fun h26 => ?_) (fun h26 => ?_)
    ·refine .rgn [bm_ [0] [] (s3_ b ((b8_ b p).2 + 1) hb (by omega) (by omega))] (by simp only [go_sem, seval, ah_, an_, au_, ar_, aj_, ag_, am_, ae_]; rfl) ?_ ?_
     ·first | trivial | simp
     refine .seq (.rgn [] (by simp only [go_sem, seval, ah_, an_, au_, ar_, aj_, ag_, am_, ae_]; rfl) ?_ ?_)
     ·first | trivial | simp
     refine .ret ⟨.inr rfl, ?_⟩
     exact Out.mem' (by simp only [Tryz.results55]; rfl) (by simp only [av_, a3_, go_sem, seval, ah_, an_, au_, ar_, aj_, ag_, am_, ae_]) (by simp only [a2_, rns, rn, go_sem, seval, ah_, an_, au_, ar_, aj_, ag_, am_, ae_] <;> (simp at h9 h15 h21 h26; simp [d7, hl_, h9, h15, h21, h26])) (by simp) rfl (by decide) (by simp only [go_sem, seval, ah_, an_, au_, ar_, aj_, ag_, am_, ae_]) (by simp only [an_, go_sem, seval, ah_, an_, au_, ar_, aj_, ag_, am_, ae_]) (by simp only [ah_, go_sem, seval, ah_, an_, au_, ar_, aj_, ag_, am_, ae_] <;> (simp at h9 h15 h21 h26; simp [d7, hl_, h9, h15, h21, h26]))
    ·refine .skip (.seq (.rgn [] (by simp only [go_sem, seval, ah_, an_, au_, ar_, aj_, ag_, am_, ae_]; rfl) ?_ ?_))
     ·first | trivial | simp
     refine .ret ⟨.inr rfl, ?_⟩
     exact Out.mem' (by simp only [Tryz.results55]; rfl) (by simp only [av_, a3_, go_sem, seval, ah_, an_, au_, ar_, aj_, ag_, am_, ae_]) (by simp only [a2_, rns, rn, go_sem, seval, ah_, an_, au_, ar_, aj_, ag_, am_, ae_] <;> (simp at h9 h15 h21 h26; simp [d7, hl_, h9, h15, h21, h26])) (by simp) rfl (by decide) (by simp only [go_sem, seval, ah_, an_, au_, ar_, aj_, ag_, am_, ae_]) (by simp only [an_, go_sem, seval, ah_, an_, au_, ar_, aj_, ag_, am_, ae_]) (by simp only [ah_, go_sem, seval, ah_, an_, au_, ar_, aj_, ag_, am_, ae_] <;> (simp at h9 h15 h21 h26; simp [d7, hl_, h9, h15, h21, h26]))
end
end Go.Proofs.YtpikbndepapbhabGreatDoor
