/- What is drawn: expressions. Conditions: none. -/
import Derived.Test.YtpikbndepapbhaaGreatDoorKh
import Derived.Test.YtpikbndepapbhaaGreatDoorKi
import Derived.Test.YtpikbndepapbhaaGreatDoorKd
set_option linter.unusedVariables false
set_option linter.unusedSimpArgs false
namespace Go.Proofs.YtpikbndepapbhaaGreatDoor
section
set_option maxRecDepth 100000
set_option maxHeartbeats 1000000
theorem E.kind_mk (k n : Int) (s : Str) (r : List E) : (E.mk k n s r).kind = k := rfl
theorem E.n_mk (k n : Int) (s : Str) (r : List E) : (E.mk k n s r).n = n := rfl
theorem E.s_mk (k n : Int) (s : Str) (r : List E) : (E.mk k n s r).s = s := rfl
theorem E.kids_mk (k n : Int) (s : Str) (r : List E) : (E.mk k n s r).kids = r := rfl
abbrev rdB (b : Str) (p : Int) : Blk := ⟨92, 2, [[.sl false (byR b), .i .i64 p]]⟩
def lfE (b : Str) (p : Int) : E := if br_ b p 2 = 0 then .mk 1 (u2_ b (p + 1) [0, 1, 2, 7, 30, 1000000]) [] [] else .mk 2 0 (ofI b (p + 1) [[120], [121], [122], [120]]) []
def dE (b : Str) : Nat → Int → E × Int
 | 0, p => (lfE b p, p + 2)
 | d + 1, p =>
  if d = 0 then (lfE b p, p + 2)
  else if br_ b p 4 = 0 then (lfE b (p + 1), p + 3)
  else if br_ b (p + 1) 4 = 0 then (.mk 4 0 (ofI b (p + 2) [[105, 110, 116], [98, 111, 111, 108], [105, 110, 116]]) [(dE b d (p + 3)).1], (dE b d (p + 3)).2)
  else (.mk 3 0 (ofI b (p + 2) [[43], [45], [42], [60], [43], [42]]) [(dE b d (p + 3)).1, (dE b d (dE b d (p + 3)).2).1], (dE b d (dE b d (p + 3)).2).2)
theorem xl_ (b : Str) : ∀ (d : Nat) (p : Int), p ≤ (dE b d p).2 ∧ (dE b d p).2 ≤ p + 5 * 2 ^ d - 3
 | 0, p => by simp [dE]; omega
 | d + 1, p => by
  have e : (2 : Int) ^ (d + 1) = 2 * 2 ^ d := by rw [Int.pow_succ]; omega
  have e2 : (0 : Int) < 2 ^ d := Int.pow_pos (by decide)
  have h1 := xl_ b d (p + 3)
  have h2 := xl_ b d (dE b d (p + 3)).2
  simp only [dE]
  split
  ·dsimp only; omega
  ·split
   ·dsimp only; omega
   ·split <;> dsimp only <;> omega
theorem zt_ {b : Str} {p : Int} {l : List Int} (hl : 0 < l.length) (hp : 0 ≤ p) (hp2 : p < 1099511627776) : u2_ b p l ∈ l := by
 have := d3_ b hp hp2 (show 1 ≤ (l.length : Int) by omega)
 exact bp_ (by omega)
theorem pi_ {b : Str} {p : Int} {l : List Str} (hl : 0 < l.length) (hp : 0 ≤ p) (hp2 : p < 1099511627776) : ofI b p l ∈ l := by
 have := d3_ b hp hp2 (show 1 ≤ (l.length : Int) by omega)
 exact bp_ (by omega)
theorem ace_ {n : Int} {d : Int} (hd : 1 ≤ d) (h : 0 ≤ n) (h1 : n ≤ 1000000) : form (.mk 1 n [] []) d = true := by simp [form, c5_, shape, h, h1, hd]
theorem aac_ {s : Str} {d : Int} (hd : 1 ≤ d) (h : ga_ s = true) : form (.mk 2 0 s []) d = true := by simp [form, c5_, shape, h, hd]
theorem wd_ (b : Str) (p : Int) (hp : 0 ≤ p) (hp2 : p + 1 < 1099511627776) (d : Int) (hd : 1 ≤ d) : form (lfE b p) d = true ∧ sm (lfE b p) = true ∧ many (lfE b p) d = 1 := by
 unfold lfE
 split
 ·have := zt_ (b := b) (l := [0, 1, 2, 7, 30, 1000000]) (by decide) (show 0 ≤ p + 1 by omega) hp2
  simp only [List.mem_cons, List.not_mem_nil, or_false] at this
  refine ⟨ace_ hd (by omega) (by omega), by simp [sm, sms], by simp [many, c2_]⟩
 ·have := pi_ (b := b) (l := [[120], [121], [122], [120]]) (by decide) (show 0 ≤ p + 1 by omega) hp2
  simp only [List.mem_cons, List.not_mem_nil, or_false] at this
  refine ⟨aac_ hd ?_, ?_, by simp [many, c2_]⟩
  ·rcases this with h | h | h | h <;> rw [h] <;> decide
  ·rcases this with h | h | h | h <;> rw [h] <;> decide
theorem lo_ (b : Str) : ∀ (d : Nat) (p : Int), 0 ≤ p → p + 5 * 2 ^ (d + 1) < 1099511627776 → form (dE b (d + 1) p).1 ((d + 1 : Nat) : Int) = true ∧ sm (dE b (d + 1) p).1 = true
 | 0, p, hp, hp2 => by simp only [dE]; have := wd_ b p hp (by omega) 1 (by decide); exact ⟨this.1, this.2.1⟩
 | d + 1, p, hp, hp2 => by
  have e : (2 : Int) ^ (d + 1 + 1) = 2 * 2 ^ (d + 1) := by rw [Int.pow_succ]; omega
  have e2 : (0 : Int) < 2 ^ (d + 1) := Int.pow_pos (by decide)
  have e3 : ((d + 1 + 1 : Nat) : Int) - 1 = ((d + 1 : Nat) : Int) := by omega
  have q1 := xl_ b (d + 1) (p + 3)
  have h1 := lo_ b d (p + 3) (by omega) (by omega)
  have h2 := lo_ b d (dE b (d + 1) (p + 3)).2 (by omega) (by omega)
  have e4 : (decide ((1 : Int) ≤ ((d + 1 + 1 : Nat) : Int))) = true := by simp; omega
  rw [dE, if_neg (by omega)]
  split
  ·have := wd_ b (p + 1) (by omega) (by omega) ((d + 1 + 1 : Nat) : Int) (by omega); exact ⟨this.1, this.2.1⟩
  ·split
   ·have := pi_ (b := b) (l := [[105, 110, 116], [98, 111, 111, 108], [105, 110, 116]]) (by decide) (show 0 ≤ p + 2 by omega) (by omega)
    simp only [List.mem_cons, List.not_mem_nil, or_false] at this
    have ht : er_ (ofI b (p + 2) [[105, 110, 116], [98, 111, 111, 108], [105, 110, 116]]) = true := by rcases this with h | h | h <;> rw [h] <;> decide
    have hl := ma_ ht
    refine ⟨?_, ?_⟩
    ·simp only [form, c5_, shape, e3, e4, h1.1, ht]; rfl
    ·simp only [sm, sms, h1.2, T7_, List.length_nil, Bool.and_true, T5_, T3_]; omega
   ·have := pi_ (b := b) (l := [[43], [45], [42], [60], [43], [42]]) (by decide) (show 0 ≤ p + 2 by omega) (by omega)
    simp only [List.mem_cons, List.not_mem_nil, or_false] at this
    have ht : fv_ (ofI b (p + 2) [[43], [45], [42], [60], [43], [42]]) = true := by rcases this with h | h | h | h | h | h <;> rw [h] <;> decide
    have hl := vl_ ht
    refine ⟨?_, ?_⟩
    ·simp only [form, c5_, shape, e3, e4, h1.1, h2.1, ht]; rfl
    ·simp only [sm, sms, h1.2, h2.2, T7_, List.length_nil, Bool.and_true, T5_, T3_]; omega
theorem akh_ (b : Str) (p : Int) : dE b 1 p = (lfE b p, p + 2) := by simp [dE]
theorem hq_ (b : Str) (d : Nat) (p : Int) : dE b (d + 1 + 1) p = if br_ b p 4 = 0 then (lfE b (p + 1), p + 3)
  else if br_ b (p + 1) 4 = 0 then (.mk 4 0 (ofI b (p + 2) [[105, 110, 116], [98, 111, 111, 108], [105, 110, 116]]) [(dE b (d + 1) (p + 3)).1], (dE b (d + 1) (p + 3)).2)
  else (.mk 3 0 (ofI b (p + 2) [[43], [45], [42], [60], [43], [42]]) [(dE b (d + 1) (p + 3)).1, (dE b (d + 1) (dE b (d + 1) (p + 3)).2).1], (dE b (d + 1) (dE b (d + 1) (p + 3)).2).2) := by
 rw [dE, if_neg (by omega)]
theorem abo_ (b : Str) (p deep : Int) (hb : b.length ≤ 2000) (hp : 0 ≤ p) (hp2 : p < 10000000000) (hd : deep ≤ 1) : ACall En 134 [.pt 0 2 0 0, .i .i64 deep] [rdB b p] [.ag (eC (lfE b p))] [rdB b (p + 2)] := by
 have hdd : decide (deep ≤ 1) = true := by simpa using hd
 refine al_ (fn := Tryz.f134) [0] Tryz.func134 rfl rfl (by simp) fun C => ?_
 rw [av_]
 simp only [Tryz.ntmps134, T7_, List.length_nil, Nat.reduceAdd, Nat.reduceSub, List.replicate_succ, List.replicate_zero, List.cons_append, List.nil_append, bt_]
 refine .seq (.rgn [] (by simp only [go_sem, seval, hdd, ag_, ak_, aw_, ap_, ao_, am_]; rfl) ?_ ?_)
 ·first | trivial | simp
 refine .seq (.seq (.rgn [bw_ [0] [] (dv_ b p 4 hb hp (by omega))] (by simp only [go_sem, seval, hdd, ag_, ak_, aw_, ap_, ao_, am_]; rfl) ?_ ?_))
 ·first | trivial | simp
 refine .condB (by simp only [go_sem, seval, hdd, ag_, ak_, aw_, ap_, ao_, am_]; rfl) (by simp only [go_sem, seval, hdd, ag_, ak_, aw_, ap_, ao_, am_]) (fun h11 => ?_) (fun h11 => ?_)
 ·refine .seq (.seq (.rgn [bw_ [0] [] (dv_ b p 2 hb hp (by omega))] (by simp only [go_sem, seval, hdd, ag_, ak_, aw_, ap_, ao_, am_]; rfl) ?_ ?_))
  ·first | trivial | simp
  refine .condB (by simp only [go_sem, seval, hdd, ag_, ak_, aw_, ap_, ao_, am_]; rfl) (by simp only [go_sem, seval, hdd, ag_, ak_, aw_, ap_, ao_, am_]) (fun h14 => ?_) (fun h14 => ?_)
  ·refine .seq (.rgn [bw_ [0] [] (qr_ b (p + 1) [0, 1, 2, 7, 30, 1000000] (by decide) hb (by omega) (by omega))] (by simp only [go_sem, seval, hdd, ag_, ak_, aw_, ap_, ao_, am_]; rfl) ?_ ?_)
   ·first | trivial | simp
   refine .ret ⟨.inr rfl, ?_⟩
   exact Out.memL' (by simp only [Tryz.results134]; rfl) (by simp only [ax_, a6_, go_sem, seval, hdd, ag_, ak_, aw_, ap_, ao_, am_]) (by simp only [a4_, rns, rn, go_sem, seval, hdd, ag_, ak_, aw_, ap_, ao_, am_] <;> (simp at h14; simp [lfE, h14, a7_, E.kind_mk, E.n_mk, E.s_mk, E.kids_mk, eR, ler])) (by simp) rfl (by decide) (by simp only [go_sem, seval, hdd, ag_, ak_, aw_, ap_, ao_, am_]) (by simp only [ak_, go_sem, seval, hdd, ag_, ak_, aw_, ap_, ao_, am_]) (by simp only [ag_, go_sem, seval, hdd, ag_, ak_, aw_, ap_, ao_, am_] <;> (rw [show p + 1 + 1 = p + 2 by omega]))
  ·refine .skip (.seq (.rgn [bw_ [0] [] (qo_ b (p + 1) [[120], [121], [122], [120]] (by decide) hb (by omega) (by omega))] (by simp only [go_sem, seval, hdd, ag_, ak_, aw_, ap_, ao_, am_]; rfl) ?_ ?_))
   ·first | trivial | simp
   refine .ret ⟨.inr rfl, ?_⟩
   exact Out.memL' (by simp only [Tryz.results134]; rfl) (by simp only [ax_, a6_, go_sem, seval, hdd, ag_, ak_, aw_, ap_, ao_, am_]) (by simp only [a4_, rns, rn, go_sem, seval, hdd, ag_, ak_, aw_, ap_, ao_, am_] <;> (simp at h14; simp [lfE, h14, a7_, E.kind_mk, E.n_mk, E.s_mk, E.kids_mk, eR, ler])) (by simp) rfl (by decide) (by simp only [go_sem, seval, hdd, ag_, ak_, aw_, ap_, ao_, am_]) (by simp only [ak_, go_sem, seval, hdd, ag_, ak_, aw_, ap_, ao_, am_]) (by simp only [ag_, go_sem, seval, hdd, ag_, ak_, aw_, ap_, ao_, am_] <;> (rw [show p + 1 + 1 = p + 2 by omega]))
 ·exact absurd h11 (by simp)
theorem o1_ (b : Str) (hb : b.length ≤ 2000) (d : Nat) : ∀ p : Int, 0 ≤ p → p + 5 * 2 ^ (d + 1) < 10000000000 → d < 10 →
  ACall En 134 [.pt 0 2 0 0, .i .i64 ((d + 1 : Nat) : Int)] [rdB b p] [.ag (eC (dE b (d + 1) p).1)] [rdB b (dE b (d + 1) p).2] := by
 induction d with
 | zero => intro p hp hp2 _; rw [akh_]; exact abo_ b p _ hb hp (by omega) (by decide)
 | succ d ih =>
 intro p hp hp2 hd10
 have e : (2 : Int) ^ (d + 1 + 1) = 2 * 2 ^ (d + 1) := by rw [Int.pow_succ]; omega
 have e2 : (0 : Int) < 2 ^ (d + 1) := Int.pow_pos (by decide)
 have q1 := xl_ b (d + 1) (p + 3)
 have hdd : decide (((d + 1 + 1 : Nat) : Int) ≤ 1) = false := by simp; omega
 have hw : IntKind.i64.wrap (((d + 1 + 1 : Nat) : Int) - 1) = ((d + 1 : Nat) : Int) := by rw [bd_ (by omega) (by omega)]; omega
 have A := fun (c1 : ¬ br_ b p 4 = 0) => ih (p + 3) (by omega) (by omega) (by omega)
 have B := fun (c1 : ¬ br_ b p 4 = 0) => ih (dE b (d + 1) (p + 3)).2 (by omega) (by omega) (by omega)
 refine al_ (fn := Tryz.f134) [0] Tryz.func134 rfl rfl (by simp) fun C => ?_
 rw [av_]
 simp only [Tryz.ntmps134, T7_, List.length_nil, Nat.reduceAdd, Nat.reduceSub, List.replicate_succ, List.replicate_zero, List.cons_append, List.nil_append, bt_]
 refine .seq (.rgn [] (by simp only [go_sem, seval, hdd, hw, ag_, ak_, aw_, ap_, ao_, am_, show p + 1 + 1 = p + 2 from by omega, show p + 2 + 1 = p + 3 from by omega]; rfl) ?_ ?_)
 ·first | trivial | simp
 refine .seq (.seq (.rgn [bw_ [0] [] (dv_ b p 4 hb hp (by omega))] (by simp only [go_sem, seval, hdd, hw, ag_, ak_, aw_, ap_, ao_, am_, show p + 1 + 1 = p + 2 from by omega, show p + 2 + 1 = p + 3 from by omega]; rfl) ?_ ?_))
 ·first | trivial | simp
 refine .condB (by simp only [go_sem, seval, hdd, hw, ag_, ak_, aw_, ap_, ao_, am_, show p + 1 + 1 = p + 2 from by omega, show p + 2 + 1 = p + 3 from by omega]; rfl) (by simp only [go_sem, seval, hdd, hw, ag_, ak_, aw_, ap_, ao_, am_, show p + 1 + 1 = p + 2 from by omega, show p + 2 + 1 = p + 3 from by omega]) (fun h11 => ?_) (fun h11 => ?_)
 ·refine .seq (.seq (.rgn [bw_ [0] [] (dv_ b (p + 1) 2 hb (by omega) (by omega))] (by simp only [go_sem, seval, hdd, hw, ag_, ak_, aw_, ap_, ao_, am_, show p + 1 + 1 = p + 2 from by omega, show p + 2 + 1 = p + 3 from by omega]; rfl) ?_ ?_))
  ·first | trivial | simp
  refine .condB (by simp only [go_sem, seval, hdd, hw, ag_, ak_, aw_, ap_, ao_, am_, show p + 1 + 1 = p + 2 from by omega, show p + 2 + 1 = p + 3 from by omega]; rfl) (by simp only [go_sem, seval, hdd, hw, ag_, ak_, aw_, ap_, ao_, am_, show p + 1 + 1 = p + 2 from by omega, show p + 2 + 1 = p + 3 from by omega]) (fun h14 => ?_) (fun h14 => ?_)
  ·refine .seq (.rgn [bw_ [0] [] (qr_ b (p + 1 + 1) [0, 1, 2, 7, 30, 1000000] (by decide) hb (by omega) (by omega))] (by simp only [go_sem, seval, hdd, hw, ag_, ak_, aw_, ap_, ao_, am_, show p + 1 + 1 = p + 2 from by omega, show p + 2 + 1 = p + 3 from by omega]; rfl) ?_ ?_)
   ·first | trivial | simp
   refine .ret ⟨.inr rfl, ?_⟩
   exact Out.memL' (by simp only [Tryz.results134]; rfl) (by simp only [ax_, a6_, go_sem, seval, hdd, hw, ag_, ak_, aw_, ap_, ao_, am_, show p + 1 + 1 = p + 2 from by omega, show p + 2 + 1 = p + 3 from by omega]) (by simp only [a4_, rns, rn, go_sem, seval, hdd, hw, ag_, ak_, aw_, ap_, ao_, am_, show p + 1 + 1 = p + 2 from by omega, show p + 2 + 1 = p + 3 from by omega] <;> (simp at h11 h14; simp [hq_, lfE, h11, h14, a7_, E.kind_mk, E.n_mk, E.s_mk, E.kids_mk, eR, ler, les, leV, a8_, show p + 1 + 1 = p + 2 by omega])) (by simp) rfl (by decide) (by simp only [go_sem, seval, hdd, hw, ag_, ak_, aw_, ap_, ao_, am_, show p + 1 + 1 = p + 2 from by omega, show p + 2 + 1 = p + 3 from by omega]) (by simp only [ak_, go_sem, seval, hdd, hw, ag_, ak_, aw_, ap_, ao_, am_, show p + 1 + 1 = p + 2 from by omega, show p + 2 + 1 = p + 3 from by omega]) (by simp only [ag_, go_sem, seval, hdd, hw, ag_, ak_, aw_, ap_, ao_, am_, show p + 1 + 1 = p + 2 from by omega, show p + 2 + 1 = p + 3 from by omega] <;> (simp at h11; simp [hq_, h11]))
  ·refine .skip (.seq (.rgn [bw_ [0] [] (qo_ b (p + 1 + 1) [[120], [121], [122], [120]] (by decide) hb (by omega) (by omega))] (by simp only [go_sem, seval, hdd, hw, ag_, ak_, aw_, ap_, ao_, am_, show p + 1 + 1 = p + 2 from by omega, show p + 2 + 1 = p + 3 from by omega]; rfl) ?_ ?_))
   ·first | trivial | simp
   refine .ret ⟨.inr rfl, ?_⟩
   exact Out.memL' (by simp only [Tryz.results134]; rfl) (by simp only [ax_, a6_, go_sem, seval, hdd, hw, ag_, ak_, aw_, ap_, ao_, am_, show p + 1 + 1 = p + 2 from by omega, show p + 2 + 1 = p + 3 from by omega]) (by simp only [a4_, rns, rn, go_sem, seval, hdd, hw, ag_, ak_, aw_, ap_, ao_, am_, show p + 1 + 1 = p + 2 from by omega, show p + 2 + 1 = p + 3 from by omega] <;> (simp at h11 h14; simp [hq_, lfE, h11, h14, a7_, E.kind_mk, E.n_mk, E.s_mk, E.kids_mk, eR, ler, les, leV, a8_, show p + 1 + 1 = p + 2 by omega])) (by simp) rfl (by decide) (by simp only [go_sem, seval, hdd, hw, ag_, ak_, aw_, ap_, ao_, am_, show p + 1 + 1 = p + 2 from by omega, show p + 2 + 1 = p + 3 from by omega]) (by simp only [ak_, go_sem, seval, hdd, hw, ag_, ak_, aw_, ap_, ao_, am_, show p + 1 + 1 = p + 2 from by omega, show p + 2 + 1 = p + 3 from by omega]) (by simp only [ag_, go_sem, seval, hdd, hw, ag_, ak_, aw_, ap_, ao_, am_, show p + 1 + 1 = p + 2 from by omega, show p + 2 + 1 = p + 3 from by omega] <;> (simp at h11; simp [hq_, h11]))
 ·refine .skip (.seq (.seq (.rgn [bw_ [0] [] (dv_ b (p + 1) 4 hb (by omega) (by omega))] (by simp only [go_sem, seval, hdd, hw, ag_, ak_, aw_, ap_, ao_, am_, show p + 1 + 1 = p + 2 from by omega, show p + 2 + 1 = p + 3 from by omega]; rfl) ?_ ?_)))
  ·first | trivial | simp
  refine .condB (by simp only [go_sem, seval, hdd, hw, ag_, ak_, aw_, ap_, ao_, am_, show p + 1 + 1 = p + 2 from by omega, show p + 2 + 1 = p + 3 from by omega]; rfl) (by simp only [go_sem, seval, hdd, hw, ag_, ak_, aw_, ap_, ao_, am_, show p + 1 + 1 = p + 2 from by omega, show p + 2 + 1 = p + 3 from by omega]) (fun h25 => ?_) (fun h25 => ?_)
  ·refine .seq (.rgn [bw_ [0] [] (qo_ b (p + 1 + 1) [[105, 110, 116], [98, 111, 111, 108], [105, 110, 116]] (by decide) hb (by omega) (by omega)), bw_ [0] [] (A (by simpa using h11))] (by simp only [go_sem, seval, hdd, hw, ag_, ak_, aw_, ap_, ao_, am_, show p + 1 + 1 = p + 2 from by omega, show p + 2 + 1 = p + 3 from by omega]; rfl) ?_ ?_)
   ·first | trivial | simp
   refine .ret ⟨.inr rfl, ?_⟩
   exact Out.memL' (by simp only [Tryz.results134]; rfl) (by simp only [ax_, a6_, go_sem, seval, hdd, hw, ag_, ak_, aw_, ap_, ao_, am_, show p + 1 + 1 = p + 2 from by omega, show p + 2 + 1 = p + 3 from by omega]) (by simp only [a4_, rns, rn, go_sem, seval, hdd, hw, ag_, ak_, aw_, ap_, ao_, am_, show p + 1 + 1 = p + 2 from by omega, show p + 2 + 1 = p + 3 from by omega] <;> (simp at h11 h25; simp [hq_, h11, h25, a7_, E.kind_mk, E.n_mk, E.s_mk, E.kids_mk, eR, ler, les, leV, a8_, show p + 1 + 1 = p + 2 by omega])) (by simp) rfl (by decide) (by simp only [go_sem, seval, hdd, hw, ag_, ak_, aw_, ap_, ao_, am_, show p + 1 + 1 = p + 2 from by omega, show p + 2 + 1 = p + 3 from by omega]) (by simp only [ak_, go_sem, seval, hdd, hw, ag_, ak_, aw_, ap_, ao_, am_, show p + 1 + 1 = p + 2 from by omega, show p + 2 + 1 = p + 3 from by omega]) (by simp only [ag_, go_sem, seval, hdd, hw, ag_, ak_, aw_, ap_, ao_, am_, show p + 1 + 1 = p + 2 from by omega, show p + 2 + 1 = p + 3 from by omega] <;> (simp at h11 h25; simp [hq_, h11, h25]))
  ·refine .skip (.seq (.rgn [bw_ [0] [] (qo_ b (p + 1 + 1) [[43], [45], [42], [60], [43], [42]] (by decide) hb (by omega) (by omega)), bw_ [0] [] (A (by simpa using h11)), bw_ [0] [] (B (by simpa using h11))] (by simp only [go_sem, seval, hdd, hw, ag_, ak_, aw_, ap_, ao_, am_, show p + 1 + 1 = p + 2 from by omega, show p + 2 + 1 = p + 3 from by omega]; rfl) ?_ ?_))
   ·first | trivial | simp
   refine .ret ⟨.inr rfl, ?_⟩
   exact Out.memL' (by simp only [Tryz.results134]; rfl) (by simp only [ax_, a6_, go_sem, seval, hdd, hw, ag_, ak_, aw_, ap_, ao_, am_, show p + 1 + 1 = p + 2 from by omega, show p + 2 + 1 = p + 3 from by omega]) (by simp only [a4_, rns, rn, go_sem, seval, hdd, hw, ag_, ak_, aw_, ap_, ao_, am_, show p + 1 + 1 = p + 2 from by omega, show p + 2 + 1 = p + 3 from by omega] <;> (simp at h11 h25; simp [hq_, h11, h25, a7_, E.kind_mk, E.n_mk, E.s_mk, E.kids_mk, eR, ler, les, leV, a8_, show p + 1 + 1 = p + 2 by omega])) (by simp) rfl (by decide) (by simp only [go_sem, seval, hdd, hw, ag_, ak_, aw_, ap_, ao_, am_, show p + 1 + 1 = p + 2 from by omega, show p + 2 + 1 = p + 3 from by omega]) (by simp only [ak_, go_sem, seval, hdd, hw, ag_, ak_, aw_, ap_, ao_, am_, show p + 1 + 1 = p + 2 from by omega, show p + 2 + 1 = p + 3 from by omega]) (by simp only [ag_, go_sem, seval, hdd, hw, ag_, ak_, aw_, ap_, ao_, am_, show p + 1 + 1 = p + 2 from by omega, show p + 2 + 1 = p + 3 from by omega] <;> (simp at h11 h25; simp [hq_, h11, h25]))
end
section
set_option maxRecDepth 100000
set_option maxHeartbeats 1000000
theorem anf_ {e : E} (h : form e ((2 : Nat) : Int) = true) : eok e = true := by
 have h1 := mt_ e 2 3 h
 have h2 := (k4_ e 2 h).2
 have h3 : (2 : Int) ^ 2 - 1 = 3 := by decide
 have e5 : ((2 + 3 : Nat) : Int) = 5 := by decide
 rw [e5] at h1
 simp only [eok, T5_, T3_]
 refine ⟨h1.1, ?_⟩
 rw [h1.2]
 have : (2 : Int) ^ (2 : Nat) = 4 := by decide
 omega
def dS0 (b : Str) (p : Int) : E × Int := dE b ((br_ b p 4).toNat + 1) (p + 1)
def cy_ (b : Str) (p : Int) : E × Int := if eok (dS0 b p).1 then dS0 b p else dE b 2 (dS0 b p).2
theorem ajb_ (b : Str) {p : Int} (hp : 0 ≤ p) (hp2 : p < 1000000000) : p ≤ (dS0 b p).2 ∧ (dS0 b p).2 ≤ p + 100 ∧ sm (dS0 b p).1 = true ∧ (br_ b p 4).toNat < 4 := by
 have h1 := d3_ b hp (by omega) (show (1 : Int) ≤ 4 by decide)
 have h2 : (br_ b p 4).toNat < 4 := by omega
 have h3 := xl_ b ((br_ b p 4).toNat + 1) (p + 1)
 have h4 : ∀ k : Nat, k < 4 → (5 : Int) * 2 ^ (k + 1) ≤ 80 := by decide
 have h5 := h4 _ h2
 unfold dS0
 exact ⟨by omega, by omega, (lo_ b _ (p + 1) (by omega) (by omega)).2, h2⟩
theorem n5_ (b : Str) {p : Int} (hp : 0 ≤ p) (hp2 : p < 1000000000) : p ≤ (cy_ b p).2 ∧ (cy_ b p).2 ≤ p + 200 ∧ sm (cy_ b p).1 = true ∧ eok (cy_ b p).1 = true := by
 obtain ⟨h1, h2, h3, _⟩ := ajb_ b hp hp2
 unfold cy_
 split
 ·rename_i h; exact ⟨h1, by omega, h3, h⟩
 ·have h4 := xl_ b 2 (dS0 b p).2
  have h5 := lo_ b 1 (dS0 b p).2 (by omega) (by omega)
  have h6 : (5 : Int) * 2 ^ 2 = 20 := by decide
  exact ⟨by omega, by omega, h5.2, anf_ h5.1⟩
theorem uz_ (b : Str) (p : Int) (hb : b.length ≤ 2000) (hp : 0 ≤ p) (hp2 : p < 1000000000) : ACall En 133 [.pt 0 2 0 0] [rdB b p] [.ag (eC (cy_ b p).1)] [rdB b (cy_ b p).2] := by
 obtain ⟨h1, h2, h3, h4⟩ := ajb_ b hp hp2
 have hk : ∀ k : Nat, k < 4 → (5 : Int) * 2 ^ (k + 1) ≤ 80 := by decide
 have hr := d3_ b hp (by omega) (show (1 : Int) ≤ 4 by decide)
 have hw : IntKind.i64.wrap (1 + br_ b p 4) = (((br_ b p 4).toNat + 1 : Nat) : Int) := by rw [bd_ (by omega) (by omega)]; omega
 have A := o1_ b hb (br_ b p 4).toNat (p + 1) (by omega) (by have := hk _ h4; omega) (by omega)
 have A2 := o1_ b hb 1 (dS0 b p).2 (by omega) (by have : (5 : Int) * 2 ^ (1 + 1) = 20 := (by decide); omega) (by decide)
 rw [show ((1 + 1 : Nat) : Int) = 2 from rfl, show 1 + 1 = 2 from rfl] at A2
 rw [show dE b ((br_ b p 4).toNat + 1) (p + 1) = dS0 b p from rfl] at A
 refine al_ (fn := Tryz.f133) [0] Tryz.func133 rfl rfl (by simp) fun C => ?_
 rw [av_]
 simp only [Tryz.ntmps133, T7_, List.length_nil, Nat.reduceAdd, Nat.reduceSub, List.replicate_succ, List.replicate_zero, List.cons_append, List.nil_append, bt_]
 refine .seq (.rgn [] (by simp only [go_sem, seval, hw, ag_, ak_]; rfl) ?_ ?_)
 ·first | trivial | simp
 refine .seq (.rgn [bw_ [0] [] (dv_ b p 4 hb hp (by omega)), bw_ [0] [] A] (by simp only [go_sem, seval, hw, ag_, ak_]; rfl) ?_ ?_)
 ·first | trivial | simp
 refine .seq (.seq (.rgn [a3_ (g0_ (dS0 b p).1 h3)] (by simp only [go_sem, seval, hw, ag_, ak_]; rfl) ?_ ?_))
 ·first | trivial | simp
 refine .condB (by simp only [go_sem, seval, hw, ag_, ak_]; rfl) (by simp only [go_sem, seval, hw, ag_, ak_]) (fun h11 => ?_) (fun h11 => ?_)
 ·refine .seq (.rgn [bw_ [0] [] A2] (by simp only [go_sem, seval, hw, ag_, ak_]; rfl) ?_ ?_)
  ·first | trivial | simp
  refine .ret ⟨.inr rfl, ?_⟩
  exact Out.mem' (by simp only [Tryz.results133]; rfl) (by simp only [ax_, a6_, go_sem, seval, hw, ag_, ak_]) (by simp only [a4_, rns, rn, go_sem, seval, hw, ag_, ak_] <;> (simp at h11; simp [cy_, h11, a7_])) (by simp) rfl (by decide) (by simp only [go_sem, seval, hw, ag_, ak_]) (by simp only [ak_, go_sem, seval, hw, ag_, ak_]) (by simp only [ag_, go_sem, seval, hw, ag_, ak_] <;> (simp at h11; simp [cy_, h11]))
 ·refine .skip (.seq (.rgn [] (by simp only [go_sem, seval, hw, ag_, ak_]; rfl) ?_ ?_))
  ·first | trivial | simp
  refine .ret ⟨.inr rfl, ?_⟩
  exact Out.mem' (by simp only [Tryz.results133]; rfl) (by simp only [ax_, a6_, go_sem, seval, hw, ag_, ak_]) (by simp only [a4_, rns, rn, go_sem, seval, hw, ag_, ak_] <;> (simp at h11; simp [cy_, h11, a7_])) (by simp) rfl (by decide) (by simp only [go_sem, seval, hw, ag_, ak_]) (by simp only [ak_, go_sem, seval, hw, ag_, ak_]) (by simp only [ag_, go_sem, seval, hw, ag_, ak_] <;> (simp at h11; simp [cy_, h11]))
def asN : Nat → E → E
 | 0, e => e
 | k + 1, e => .mk 4 0 [105, 110, 116] [asN k e]
theorem abq_ {e : E} (h : sm e = true) : ∀ k, sm (asN k e) = true
 | 0 => h
 | k + 1 => by simp only [asN, sm, sms, abq_ h k]; simp
def pp_ (b : Str) (q k : Int) (e : E) : E :=
 if k = 0 then .mk (u2_ b q [0, 5, 3, 4]) e.n e.s e.kids
 else if k = 1 then .mk e.kind (u2_ b q [1, -1, 1000001]) e.s e.kids
 else if k = 2 then .mk e.kind e.n (ofI b q [[108, 101, 116], [88], [60], [105, 110, 116], [120]]) e.kids
 else if k = 3 then asN 5 e
 else e
def nb_ (q k : Int) : Int := if k = 0 ∨ k = 1 ∨ k = 2 then q + 1 else q
def gf_ (b : Str) (p : Int) : E × Int := (pp_ b ((cy_ b p).2 + 1) (br_ b (cy_ b p).2 48) (cy_ b p).1, nb_ ((cy_ b p).2 + 1) (br_ b (cy_ b p).2 48))
theorem agf_ (b : Str) {p : Int} (hp : 0 ≤ p) (hp2 : p < 1000000000) : p ≤ (gf_ b p).2 ∧ (gf_ b p).2 ≤ p + 300 ∧ sm (gf_ b p).1 = true := by
 obtain ⟨h1, h2, h3, h4⟩ := n5_ b hp hp2
 have hs := fc_ h3
 have hk := zl_ h3
 refine ⟨by simp only [gf_, nb_]; split <;> omega, by simp only [gf_, nb_]; split <;> omega, ?_⟩
 simp only [gf_, pp_]
 split
 ·simp only [sm, T5_, T3_]; exact ⟨⟨hs.1, hk⟩, hs.2.2⟩
 ·split
  ·simp only [sm, T5_, T3_]; exact ⟨⟨hs.1, hk⟩, hs.2.2⟩
  ·split
   ·have := pi_ (b := b) (p := (cy_ b p).2 + 1) (l := [[108, 101, 116], [88], [60], [105, 110, 116], [120]]) (by decide) (by omega) (by omega)
    simp only [List.mem_cons, List.not_mem_nil, or_false] at this
    simp only [sm, T5_, T3_]
    refine ⟨⟨?_, hk⟩, hs.2.2⟩
    rcases this with h | h | h | h | h <;> rw [h] <;> decide
   ·split
    ·exact abq_ h3 5
    ·exact h3
theorem adf_ (b : Str) (p : Int) (hb : b.length ≤ 2000) (hp : 0 ≤ p) (hp2 : p < 1000000000) : ACall En 163 [.pt 0 2 0 0] [rdB b p] [.ag (eC (gf_ b p).1)] [rdB b (gf_ b p).2] := by
 obtain ⟨h1, h2, h3, _⟩ := n5_ b hp hp2
 refine al_ (fn := Tryz.f163) [0] Tryz.func163 rfl rfl (by simp) fun C => ?_
 rw [av_]
 simp only [Tryz.ntmps163, T7_, List.length_nil, Nat.reduceAdd, Nat.reduceSub, List.replicate_succ, List.replicate_zero, List.cons_append, List.nil_append, bt_]
 refine .seq (.rgn [] (by simp only [go_sem, seval, ag_, ak_, aw_, ap_, ao_, am_]; rfl) ?_ ?_)
 ·first | trivial | simp
 refine .seq (.rgn [bw_ [0] [] (uz_ b p hb hp hp2)] (by simp only [go_sem, seval, ag_, ak_, aw_, ap_, ao_, am_]; rfl) ?_ ?_)
 ·first | trivial | simp
 refine .seqJ (fun u : Unit => ⟨[.no, .no, .pt 12 4 0 0, .pt 13 4 0 0, .no, .no, .no, .no, .no, .no, .no, .no, .no, .no, .no, .no, .no, .no, .no, .no, .no, .no, .no, .no, .no, .no, .no, .no, .no, .no, .no, .no, .no, .no, .no, .no, .no], be_ [(0, rdB b (gf_ b p).2), (12, ⟨64, 4, [[.i .i64 0, .i .i64 0, .s [], .sl true []]]⟩), (13, ⟨64, 4, [eC (gf_ b p).1]⟩)], us [12, 13]⟩) (fun u : Unit => True) ?_ (fun u hJ => ?_)
 ·refine .seq (.rgn [bw_ [0] [] (dv_ b (cy_ b p).2 48 hb (by omega) (by omega))] (by simp only [go_sem, seval, ag_, ak_, aw_, ap_, ao_, am_]; rfl) ?_ ?_)
  ·first | trivial | simp
  refine .block (.seq (.rgn [] (by simp only [go_sem, seval, ag_, ak_, aw_, ap_, ao_, am_]; rfl) ?_ ?_))
  ·first | trivial | simp
  refine .condB (by simp only [go_sem, seval, ag_, ak_, aw_, ap_, ao_, am_]; rfl) (by simp only [go_sem, seval, ag_, ak_, aw_, ap_, ao_, am_]) (fun h9 => ?_) (fun h9 => ?_)
  ·refine .rgn [bw_ [0] [] (qr_ b ((cy_ b p).2 + 1) [0, 5, 3, 4] (by decide) hb (by omega) (by omega))] (by simp only [go_sem, seval, ag_, ak_, aw_, ap_, ao_, am_]; rfl) ?_ ?_
   ·first | trivial | simp
   refine Exists.intro (()) ⟨?_, ?_⟩
   ·trivial
   exact Can.weak (Weak.lit (by simp only [go_sem, seval, ag_, ak_, aw_, ap_, ao_, am_, as_, leV, aq_, ar_, V.inn, us, T9_, Ta_] <;> (simp)) (by simp only [go_sem, seval, ag_, ak_, aw_, ap_, ao_, am_, as_, leV, aq_, ar_, V.inn, us, T9_, Ta_]) (by simp only [go_sem, seval, ag_, ak_, aw_, ap_, ao_, am_, as_, leV, aq_, ar_, V.inn, us, T9_, Ta_] <;> ((try (have := hI); try (have hk5 : k = 5 := by simp at h30; omega); try subst hk5); simp_all [gf_, pp_, nb_, E.kind_mk, E.n_mk, E.s_mk, E.kids_mk]; done)))
  ·refine .seq (.rgn [] (by simp only [go_sem, seval, ag_, ak_, aw_, ap_, ao_, am_]; rfl) ?_ ?_)
   ·first | trivial | simp
   refine .condB (by simp only [go_sem, seval, ag_, ak_, aw_, ap_, ao_, am_]; rfl) (by simp only [go_sem, seval, ag_, ak_, aw_, ap_, ao_, am_]) (fun h15 => ?_) (fun h15 => ?_)
   ·refine .rgn [bw_ [0] [] (qr_ b ((cy_ b p).2 + 1) [1, -1, 1000001] (by decide) hb (by omega) (by omega))] (by simp only [go_sem, seval, ag_, ak_, aw_, ap_, ao_, am_]; rfl) ?_ ?_
    ·first | trivial | simp
    refine Exists.intro (()) ⟨?_, ?_⟩
    ·trivial
    exact Can.weak (Weak.lit (by simp only [go_sem, seval, ag_, ak_, aw_, ap_, ao_, am_, as_, leV, aq_, ar_, V.inn, us, T9_, Ta_] <;> (simp)) (by simp only [go_sem, seval, ag_, ak_, aw_, ap_, ao_, am_, as_, leV, aq_, ar_, V.inn, us, T9_, Ta_]) (by simp only [go_sem, seval, ag_, ak_, aw_, ap_, ao_, am_, as_, leV, aq_, ar_, V.inn, us, T9_, Ta_] <;> ((try (have := hI); try (have hk5 : k = 5 := by simp at h30; omega); try subst hk5); simp_all [gf_, pp_, nb_, E.kind_mk, E.n_mk, E.s_mk, E.kids_mk]; done)))
   ·refine .seq (.rgn [] (by simp only [go_sem, seval, ag_, ak_, aw_, ap_, ao_, am_]; rfl) ?_ ?_)
    ·first | trivial | simp
    refine .condB (by simp only [go_sem, seval, ag_, ak_, aw_, ap_, ao_, am_]; rfl) (by simp only [go_sem, seval, ag_, ak_, aw_, ap_, ao_, am_]) (fun h21 => ?_) (fun h21 => ?_)
    ·refine .rgn [bw_ [0] [] (qo_ b ((cy_ b p).2 + 1) [[108, 101, 116], [88], [60], [105, 110, 116], [120]] (by decide) hb (by omega) (by omega))] (by simp only [go_sem, seval, ag_, ak_, aw_, ap_, ao_, am_]; rfl) ?_ ?_
     ·first | trivial | simp
     refine Exists.intro (()) ⟨?_, ?_⟩
     ·trivial
     exact Can.weak (Weak.lit (by simp only [go_sem, seval, ag_, ak_, aw_, ap_, ao_, am_, as_, leV, aq_, ar_, V.inn, us, T9_, Ta_] <;> (simp)) (by simp only [go_sem, seval, ag_, ak_, aw_, ap_, ao_, am_, as_, leV, aq_, ar_, V.inn, us, T9_, Ta_]) (by simp only [go_sem, seval, ag_, ak_, aw_, ap_, ao_, am_, as_, leV, aq_, ar_, V.inn, us, T9_, Ta_] <;> ((try (have := hI); try (have hk5 : k = 5 := by simp at h30; omega); try subst hk5); simp_all [gf_, pp_, nb_, E.kind_mk, E.n_mk, E.s_mk, E.kids_mk]; done)))
    ·refine .seq (.rgn [] (by simp only [go_sem, seval, ag_, ak_, aw_, ap_, ao_, am_]; rfl) ?_ ?_)
     ·first | trivial | simp
     refine .condB (by simp only [go_sem, seval, ag_, ak_, aw_, ap_, ao_, am_]; rfl) (by simp only [go_sem, seval, ag_, ak_, aw_, ap_, ao_, am_]) (fun h27 => ?_) (fun h27 => ?_)
     ·refine .seq (.rgn [] (by simp only [go_sem, seval, ag_, ak_, aw_, ap_, ao_, am_]; rfl) ?_ ?_)
      ·first | trivial | simp
      refine .block (.loopK (fun k : Nat => ⟨[.no, .no, .pt 12 4 0 0, .pt 13 4 0 0, .i .i64 k, .no, .no, .no, .no, .no, .no, .no, .no, .no, .no, .no, .no, .no, .no, .no, .no, .no, .no, .no, .no, .no, .no, .no, .no, .no, .no, .no, .no, .no, .no, .no, .no], be_ [(0, rdB b ((cy_ b p).2 + 1)), (12, ⟨64, 4, [[.i .i64 0, .i .i64 0, .s [], .sl true []]]⟩), (13, ⟨64, 4, [eC (asN k (cy_ b p).1)]⟩)], us [12, 13]⟩) (fun k : Nat => k ≤ 5) (fun k : Nat => 5 - k) (0) ?_ ?_ (fun k hI => ?_))
      ·simp
      ·exact Can.weak (Weak.lit (by simp only [go_sem, seval, ag_, ak_, aw_, ap_, ao_, am_, as_, leV, aq_, ar_, V.inn, us, T9_, Ta_] <;> (rfl)) (by simp only [go_sem, seval, ag_, ak_, aw_, ap_, ao_, am_, as_, leV, aq_, ar_, V.inn, us, T9_, Ta_]) (by simp only [go_sem, seval, ag_, ak_, aw_, ap_, ao_, am_, as_, leV, aq_, ar_, V.inn, us, T9_, Ta_] <;> (simp [asN])))
      refine .seq (.seq (.rgn [] (by simp only [go_sem, seval, ag_, ak_, aw_, ap_, ao_, am_]; rfl) ?_ ?_))
      ·first | trivial | simp
      refine .condB (by simp only [go_sem, seval, ag_, ak_, aw_, ap_, ao_, am_]; rfl) (by simp only [go_sem, seval, ag_, ak_, aw_, ap_, ao_, am_]) (fun h30 => ?_) (fun h30 => ?_)
      ·refine .skip (.seq (.block (.rgn [] (by simp only [go_sem, seval, ag_, ak_, aw_, ap_, ao_, am_]; rfl) ?_ ?_)))
       ·first | trivial | simp
       refine .rgn [] (by simp only [go_sem, seval, ag_, ak_, aw_, ap_, ao_, am_]; rfl) ?_ ?_
       ·first | trivial | simp
       refine Exists.intro (k + 1) ⟨?_, ?_, ?_⟩
       ·simp at h30; omega
       ·simp at h30; omega
       refine Can.trans (Can.leAt 13 ([[.i .i64 4, .i .i64 0, .s [105, 110, 116], .sl false [eC (asN k (cy_ b p).1)]]]) (by simp only [go_sem, seval, ag_, ak_, aw_, ap_, ao_, am_] <;> rfl) (by simp only [go_sem, seval, ag_, ak_, aw_, ap_, ao_, am_, ler, les, leV] <;> (first | trivial | simp)) (by simp only [go_sem, seval, ag_, ak_, aw_, ap_, ao_, am_] <;> rfl)) ?_
       exact Can.weak (Weak.lit (by simp only [go_sem, seval, ag_, ak_, aw_, ap_, ao_, am_, as_, leV, aq_, ar_, V.inn, us, T9_, Ta_] <;> (rw [bd_ (by simp at h30; omega) (by simp at h30; omega)]; simp)) (by simp only [go_sem, seval, ag_, ak_, aw_, ap_, ao_, am_, as_, leV, aq_, ar_, V.inn, us, T9_, Ta_]) (by simp only [go_sem, seval, ag_, ak_, aw_, ap_, ao_, am_, as_, leV, aq_, ar_, V.inn, us, T9_, Ta_] <;> (simp [asN, E.kind_mk, E.n_mk, E.s_mk, E.kids_mk, eR, a7_])))
      ·refine .exit ?_
       refine Exists.intro (()) ⟨?_, ?_⟩
       ·trivial
       exact Can.weak (Weak.lit (by simp only [go_sem, seval, ag_, ak_, aw_, ap_, ao_, am_, as_, leV, aq_, ar_, V.inn, us, T9_, Ta_] <;> (simp)) (by simp only [go_sem, seval, ag_, ak_, aw_, ap_, ao_, am_, as_, leV, aq_, ar_, V.inn, us, T9_, Ta_]) (by simp only [go_sem, seval, ag_, ak_, aw_, ap_, ao_, am_, as_, leV, aq_, ar_, V.inn, us, T9_, Ta_] <;> ((try (have := hI); try (have hk5 : k = 5 := by simp at h30; omega); try subst hk5); simp_all [gf_, pp_, nb_, E.kind_mk, E.n_mk, E.s_mk, E.kids_mk]; done)))
     ·refine .skip ?_
      refine Exists.intro (()) ⟨?_, ?_⟩
      ·trivial
      exact Can.weak (Weak.lit (by simp only [go_sem, seval, ag_, ak_, aw_, ap_, ao_, am_, as_, leV, aq_, ar_, V.inn, us, T9_, Ta_] <;> (simp)) (by simp only [go_sem, seval, ag_, ak_, aw_, ap_, ao_, am_, as_, leV, aq_, ar_, V.inn, us, T9_, Ta_]) (by simp only [go_sem, seval, ag_, ak_, aw_, ap_, ao_, am_, as_, leV, aq_, ar_, V.inn, us, T9_, Ta_] <;> ((try (have := hI); try (have hk5 : k = 5 := by simp at h30; omega); try subst hk5); simp_all [gf_, pp_, nb_, E.kind_mk, E.n_mk, E.s_mk, E.kids_mk]; done)))
 refine .seq (.rgn [] (by simp only [go_sem, seval, ag_, ak_, aw_, ap_, ao_, am_]; rfl) ?_ ?_)
 ·first | trivial | simp
 refine .ret ⟨.inr rfl, ?_⟩
 exact Out.mem' (by simp only [Tryz.results163]; rfl) (by simp only [ax_, a6_, go_sem, seval, ag_, ak_, aw_, ap_, ao_, am_]) (by simp only [a4_, rns, rn, go_sem, seval, ag_, ak_, aw_, ap_, ao_, am_] <;> (simp [a7_])) (by simp) rfl (by decide) (by simp only [go_sem, seval, ag_, ak_, aw_, ap_, ao_, am_]) (by simp only [ak_, go_sem, seval, ag_, ak_, aw_, ap_, ao_, am_]) (by simp only [ag_, go_sem, seval, ag_, ak_, aw_, ap_, ao_, am_] <;> (simp))
end
section
set_option maxRecDepth 100000
set_option maxHeartbeats 1000000
def sC (s : Sl) : List V := .i .i64 s.kind :: .s s.name :: .s s.type :: (eC s.expr ++ eC s.thn)
theorem aj_ (s : Sl) : sC s = [.i .i64 s.kind, .s s.name, .s s.type, .i .i64 s.expr.kind, .i .i64 s.expr.n, .s s.expr.s, .sl false (eR s.expr.kids), .i .i64 s.thn.kind, .i .i64 s.thn.n, .s s.thn.s, .sl false (eR s.thn.kids)] := by
 simp only [sC, a7_]; rfl
def ez_ (s : Sl) : Bool := decide (s.name.length < 4611686018427387904) && decide (s.type.length < 4611686018427387904) && sm s.expr && sm s.thn
theorem gk_ {s : Sl} (h : ez_ s = true) : s.name.length < 4611686018427387904 ∧ s.type.length < 4611686018427387904 ∧ sm s.expr = true ∧ sm s.thn = true := by
 simp only [ez_, T5_, T3_] at h; exact ⟨h.1.1.1, h.1.1.2, h.1.2, h.2⟩
def d5 (b : Str) (p k : Int) : Sl × Int :=
 if k = 0 then (S0, (cy_ b p).2)
 else if k = 1 then (⟨1, ofI b (cy_ b p).2 [[120], [121], [122]], ofI b ((cy_ b p).2 + 1) [[105, 110, 116], [105, 110, 116], [98, 111, 111, 108]], (cy_ b p).1, E0⟩, (cy_ b p).2 + 2)
 else if k = 3 then (⟨3, [], [], (cy_ b p).1, (dE b 2 (cy_ b p).2).1⟩, (dE b 2 (cy_ b p).2).2)
 else (⟨k, [], [], (cy_ b p).1, E0⟩, (cy_ b p).2)
def cn_ (b : Str) (p : Int) : Sl × Int := d5 b (p + 1) (u2_ b p [1, 1, 2, 2, 3, 3, 0])
theorem iy_ : E0.kind = 0 := rfl
theorem i0_ : E0.n = 0 := rfl
theorem ip_ : E0.s = [] := rfl
theorem dj_ : E0.kids = [] := rfl
theorem ec_ : eR [] = [] := by simp only [eR]
theorem na_ : wf E0 = true := by decide
theorem ab2_ : sm E0 = true := by decide
theorem hd_ {b : Str} {p : Int} {l : List Str} (hl : 0 < l.length) (hp : 0 ≤ p) (hp2 : p < 1099511627776) (k : Nat) (h : ∀ s ∈ l, s.length ≤ k) : (ofI b p l).length ≤ k := h _ (pi_ hl hp hp2)
theorem k0_ (b : Str) {p : Int} (hp : 0 ≤ p) (hp2 : p < 100000000) : p ≤ (cn_ b p).2 ∧ (cn_ b p).2 ≤ p + 300 ∧ ez_ (cn_ b p).1 = true ∧ wf (cn_ b p).1.expr = true ∧ wf (cn_ b p).1.thn = true ∧ ((cn_ b p).1.kind = 0 ∨ (cn_ b p).1.kind = 1 ∨ (cn_ b p).1.kind = 2 ∨ (cn_ b p).1.kind = 3) := by
 obtain ⟨h1, h2, h3, h4⟩ := n5_ b (p := p + 1) (by omega) (by omega)
 have hk := zt_ (b := b) (p := p) (l := [1, 1, 2, 2, 3, 3, 0]) (by decide) hp (by omega)
 have h5 := xl_ b 2 (cy_ b (p + 1)).2
 have h6 := lo_ b 1 (cy_ b (p + 1)).2 (by omega) (by omega)
 have h7 : (5 : Int) * 2 ^ 2 = 20 := by decide
 have l1 := hd_ (b := b) (p := (cy_ b (p + 1)).2) (l := [[120], [121], [122]]) (by decide) (by omega) (by omega) 4 (by decide)
 have l2 := hd_ (b := b) (p := (cy_ b (p + 1)).2 + 1) (l := [[105, 110, 116], [105, 110, 116], [98, 111, 111, 108]]) (by decide) (by omega) (by omega) 4 (by decide)
 simp only [List.mem_cons, List.not_mem_nil, or_false] at hk
 unfold cn_
 generalize u2_ b p [1, 1, 2, 2, 3, 3, 0] = k at hk
 unfold d5
 split
 ·refine ⟨by dsimp only; omega, by dsimp only; omega, show ez_ S0 = true by decide, na_, na_, .inl rfl⟩
 ·split
  ·refine ⟨by dsimp only; omega, by dsimp only; omega, ?_, iq_ h4, na_, .inr (.inl rfl)⟩
   simp only [ez_, h3, ab2_, Bool.and_true, T5_, T3_]; omega
  ·split
   ·exact ⟨by dsimp only; omega, by dsimp only; omega, by simp only [ez_, h3, h6.2, List.length_nil]; rfl, iq_ h4, sx_ _ _ h6.1, .inr (.inr (.inr rfl))⟩
   ·exact ⟨by dsimp only; omega, by dsimp only; omega, by simp only [ez_, h3, ab2_, List.length_nil]; rfl, iq_ h4, na_, by dsimp only; omega⟩
theorem v6_ (b : Str) (p : Int) (hb : b.length ≤ 2000) (hp : 0 ≤ p) (hp2 : p < 100000000) : ACall En 95 [.pt 0 2 0 0] [rdB b p] [.ag (sC (cn_ b p).1)] [rdB b (cn_ b p).2] := by
 obtain ⟨h1, h2, h3, h4⟩ := n5_ b (p := p + 1) (by omega) (by omega)
 have A2 := o1_ b hb 1 (cy_ b (p + 1)).2 (by omega) (by have : (5 : Int) * 2 ^ (1 + 1) = 20 := (by decide); omega) (by decide)
 rw [show ((1 + 1 : Nat) : Int) = 2 from rfl, show 1 + 1 = 2 from rfl] at A2
 refine al_ (fn := Tryz.f95) [0] Tryz.func95 rfl rfl (by simp) fun C => ?_
 rw [av_]
 simp only [Tryz.ntmps95, T7_, List.length_nil, Nat.reduceAdd, Nat.reduceSub, List.replicate_succ, List.replicate_zero, List.cons_append, List.nil_append, bt_]
 refine .seq (.rgn [] (by simp only [go_sem, seval, ag_, ak_, aw_, ap_, ao_, am_, aj_]; rfl) ?_ ?_)
 ·first | trivial | simp
 refine .seq (.rgn [bw_ [0] [] (qr_ b p [1, 1, 2, 2, 3, 3, 0] (by decide) hb (by omega) (by omega)), bw_ [0] [] (uz_ b (p + 1) hb (by omega) (by omega))] (by simp only [go_sem, seval, ag_, ak_, aw_, ap_, ao_, am_, aj_]; rfl) ?_ ?_)
 ·first | trivial | simp
 refine .seq (.seq (.rgn [] (by simp only [go_sem, seval, ag_, ak_, aw_, ap_, ao_, am_, aj_]; rfl) ?_ ?_))
 ·first | trivial | simp
 refine .block (.seq (.rgn [] (by simp only [go_sem, seval, ag_, ak_, aw_, ap_, ao_, am_, aj_]; rfl) ?_ ?_))
 ·first | trivial | simp
 refine .condB (by simp only [go_sem, seval, ag_, ak_, aw_, ap_, ao_, am_, aj_]; rfl) (by simp only [go_sem, seval, ag_, ak_, aw_, ap_, ao_, am_, aj_]) (fun h12 => ?_) (fun h12 => ?_)
 ·refine .seq (.rgn [] (by simp only [go_sem, seval, ag_, ak_, aw_, ap_, ao_, am_, aj_]; rfl) ?_ ?_)
  ·first | trivial | simp
  refine .ret ⟨.inr rfl, ?_⟩
  exact Out.memL' (by simp only [Tryz.results95]; rfl) (by simp only [ax_, a6_, go_sem, seval, ag_, ak_, aw_, ap_, ao_, am_, aj_]) (by simp only [a4_, rns, rn, go_sem, seval, ag_, ak_, aw_, ap_, ao_, am_, aj_] <;> (simp at h12; simp [cn_, d5, h12, aj_, S0, iy_, i0_, ip_, dj_, ec_, ler])) (by simp) rfl (by decide) (by simp only [go_sem, seval, ag_, ak_, aw_, ap_, ao_, am_, aj_]) (by simp only [ak_, go_sem, seval, ag_, ak_, aw_, ap_, ao_, am_, aj_]) (by simp only [ag_, go_sem, seval, ag_, ak_, aw_, ap_, ao_, am_, aj_] <;> (simp at h12; simp [cn_, d5, h12]))
 ·refine .seq (.rgn [] (by simp only [go_sem, seval, ag_, ak_, aw_, ap_, ao_, am_, aj_]; rfl) ?_ ?_)
  ·first | trivial | simp
  refine .condB (by simp only [go_sem, seval, ag_, ak_, aw_, ap_, ao_, am_, aj_]; rfl) (by simp only [go_sem, seval, ag_, ak_, aw_, ap_, ao_, am_, aj_]) (fun h15 => ?_) (fun h15 => ?_)
  ·refine .seq (.rgn [bw_ [0] [] (qo_ b (cy_ b (p + 1)).2 [[120], [121], [122]] (by decide) hb (by omega) (by omega))] (by simp only [go_sem, seval, ag_, ak_, aw_, ap_, ao_, am_, aj_]; rfl) ?_ ?_)
   ·first | trivial | simp
   refine .rgn [bw_ [0] [] (qo_ b ((cy_ b (p + 1)).2 + 1) [[105, 110, 116], [105, 110, 116], [98, 111, 111, 108]] (by decide) hb (by omega) (by omega))] (by simp only [go_sem, seval, ag_, ak_, aw_, ap_, ao_, am_, aj_]; rfl) ?_ ?_
   ·first | trivial | simp
   refine .seq (.rgn [] (by simp only [go_sem, seval, ag_, ak_, aw_, ap_, ao_, am_, aj_]; rfl) ?_ ?_)
   ·first | trivial | simp
   refine .ret ⟨.inr rfl, ?_⟩
   exact Out.memL' (by simp only [Tryz.results95]; rfl) (by simp only [ax_, a6_, go_sem, seval, ag_, ak_, aw_, ap_, ao_, am_, aj_]) (by simp only [a4_, rns, rn, go_sem, seval, ag_, ak_, aw_, ap_, ao_, am_, aj_] <;> (simp at h12 h15; simp [cn_, d5, h12, h15, aj_, iy_, i0_, ip_, dj_, ec_, ler, a8_])) (by simp) rfl (by decide) (by simp only [go_sem, seval, ag_, ak_, aw_, ap_, ao_, am_, aj_]) (by simp only [ak_, go_sem, seval, ag_, ak_, aw_, ap_, ao_, am_, aj_]) (by simp only [ag_, go_sem, seval, ag_, ak_, aw_, ap_, ao_, am_, aj_] <;> (simp at h12 h15; simp [cn_, d5, h12, h15]; omega))
  ·refine .seq (.rgn [] (by simp only [go_sem, seval, ag_, ak_, aw_, ap_, ao_, am_, aj_]; rfl) ?_ ?_)
   ·first | trivial | simp
   refine .condB (by simp only [go_sem, seval, ag_, ak_, aw_, ap_, ao_, am_, aj_]; rfl) (by simp only [go_sem, seval, ag_, ak_, aw_, ap_, ao_, am_, aj_]) (fun h25 => ?_) (fun h25 => ?_)
   ·refine .rgn [bw_ [0] [] A2] (by simp only [go_sem, seval, ag_, ak_, aw_, ap_, ao_, am_, aj_]; rfl) ?_ ?_
    ·first | trivial | simp
    refine .seq (.rgn [] (by simp only [go_sem, seval, ag_, ak_, aw_, ap_, ao_, am_, aj_]; rfl) ?_ ?_)
    ·first | trivial | simp
    refine .ret ⟨.inr rfl, ?_⟩
    exact Out.memL' (by simp only [Tryz.results95]; rfl) (by simp only [ax_, a6_, go_sem, seval, ag_, ak_, aw_, ap_, ao_, am_, aj_]) (by simp only [a4_, rns, rn, go_sem, seval, ag_, ak_, aw_, ap_, ao_, am_, aj_] <;> (simp at h12 h15 h25; simp [cn_, d5, h12, h15, h25, aj_, iy_, i0_, ip_, dj_, ec_, ler, a8_])) (by simp) rfl (by decide) (by simp only [go_sem, seval, ag_, ak_, aw_, ap_, ao_, am_, aj_]) (by simp only [ak_, go_sem, seval, ag_, ak_, aw_, ap_, ao_, am_, aj_]) (by simp only [ag_, go_sem, seval, ag_, ak_, aw_, ap_, ao_, am_, aj_] <;> (simp at h12 h15 h25; simp [cn_, d5, h12, h15, h25]))
   ·refine .skip (.seq (.rgn [] (by simp only [go_sem, seval, ag_, ak_, aw_, ap_, ao_, am_, aj_]; rfl) ?_ ?_))
    ·first | trivial | simp
    refine .ret ⟨.inr rfl, ?_⟩
    exact Out.memL' (by simp only [Tryz.results95]; rfl) (by simp only [ax_, a6_, go_sem, seval, ag_, ak_, aw_, ap_, ao_, am_, aj_]) (by simp only [a4_, rns, rn, go_sem, seval, ag_, ak_, aw_, ap_, ao_, am_, aj_] <;> (simp at h12 h15 h25; simp [cn_, d5, h12, h15, h25, aj_, iy_, i0_, ip_, dj_, ec_, ler, a8_])) (by simp) rfl (by decide) (by simp only [go_sem, seval, ag_, ak_, aw_, ap_, ao_, am_, aj_]) (by simp only [ak_, go_sem, seval, ag_, ak_, aw_, ap_, ao_, am_, aj_]) (by simp only [ag_, go_sem, seval, ag_, ak_, aw_, ap_, ao_, am_, aj_] <;> (simp at h12 h15 h25; simp [cn_, d5, h12, h15, h25]))
theorem aii_ {s : Sl} (h : ez_ s = true) : smb (bof s) = true := by
 obtain ⟨s1, s2, s3, s4⟩ := gk_ h
 unfold smb bof
 simp only [s1, decide_true, Bool.true_and]
 split <;> split <;> simp [sp_, s3, s4, ab2_]
end
end Go.Proofs.YtpikbndepapbhaaGreatDoor
