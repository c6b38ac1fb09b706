/- What the exact laws do with expressions: size, copies, sameness. Conditions: none. -/
import Derived.Test.YtcigkafioinfoaaGreatDoorKl
import Derived.Test.YtcigkafioinfoaaGreatDoorKk
set_option linter.unusedVariables false
set_option linter.unusedSimpArgs false
namespace Go.Proofs.YtcigkafioinfoaaGreatDoor
section
set_option maxRecDepth 100000
set_option maxHeartbeats 4000000
def z4 : List V := [.i .i64 0, .i .i64 0, .s [], .sl true []]
end
section
set_option maxRecDepth 100000
set_option maxHeartbeats 4000000
end
section
open Go.ChangeShapes Go.WideShapes Go.ChangeAt Go.RowKit
set_option maxRecDepth 100000
section
variable {H : Type} {enc : TypeId × Value → H} {P : Program} {W : World}
def Opn (enc : TypeId × Value → H) (P : Program) (W : World) (fuel : Nat) (t : TypeId) (Q : List V → Prop) : Prop :=
 ∀ cs x, DataW.trod enc P W 0 (fun _ => true) true fuel t cs = some x → ∃ vs, Q vs ∧ VRs (fun _ => none) (fun _ => True) W vs cs ∧ vs.all V.one = true
theorem aie_ {t : TypeId} {k : IntKind} {fuel : Nat} (ht : P.underlying t = some (.int k)) : Opn enc P W fuel t fun vs => ∃ n : Int, vs = [.i k n] ∧ (Lit.int k n).wf = true := fun cs x h => by
 obtain ⟨n, rfl, _, hw⟩ := DataW.trod_int ht h
 exact ⟨_, ⟨n, rfl, hw⟩, .cons (by simp only [VR]) .nil, rfl⟩
theorem adx_ {t : TypeId} {fuel : Nat} (ht : P.underlying t = some .bool) : Opn enc P W fuel t fun vs => ∃ n : Bool, vs = [.b n] := fun cs x h => by
 obtain ⟨n, rfl, _⟩ := DataW.trod_bool ht h
 exact ⟨_, ⟨n, rfl⟩, .cons (by simp only [VR]) .nil, rfl⟩
theorem y3_ {t : TypeId} {fuel : Nat} (ht : P.underlying t = some .string) : Opn enc P W fuel t fun vs => ∃ s : Str, vs = [.s s] ∧ s.length ≤ maxLen := fun cs x h => by
 obtain ⟨s, rfl, _, hw⟩ := DataW.trod_string ht h
 refine ⟨_, ⟨s.data.toList, rfl, by rw [Array.length_toList]; exact hw⟩, .cons (by simp only [VR]) .nil, rfl⟩
theorem jt_ {fs : Array Field} {t : TypeId} {fuel : Nat} {cs : List Value} {x : DataW H × List MemPlace} (ht : P.underlying t = some (.struct fs)) (h : DataW.trod enc P W 0 (fun _ => true) true fuel t cs = some x) {Q : List V → Prop} {f : Field} {i : Nat} (hf : fs[i]? = some f) {off size : Nat} (ho : f.offset = off) (hs : P.cellsOf f.type = size)
  (hq : ∀ n, n + 1 = fuel → Opn enc P W n f.type Q) : cs.length = P.cellsOf t ∧ ∃ vs, Q vs ∧ VRs (fun _ => none) (fun _ => True) W vs ((cs.drop off).take size) ∧ vs.all V.one = true := by
 obtain ⟨xs, n, e1, _, hl, hxl, hx⟩ := DataW.trod_struct ht h
 have hh := hx i f hf
 have hi : i < xs.length := by rw [hxl]; exact (Array.getElem?_eq_some_iff.1 hf).1
 rw [T6_ hi, ho, hs] at hh
 exact ⟨hl, hq n e1.symm _ _ hh⟩
theorem wz_ {base g o z : Nat} {sp : Option _} {cs : List Value} (h : W.cells? base ⟨g, o, sp⟩ z = some cs) : cs.length = z ∧ ∀ j u, cs[j]? = some u → W.cell? ((⟨g, o, sp⟩ : Addr).add j) = some u := by
 unfold World.cells? at h
 split at h
 ·refine ⟨by simpa using mapM_some_length h, fun j u hu => ?_⟩
  have hj : j < z := by
   have h1 := mapM_some_length h
   have h2 := (List.getElem?_eq_some_iff.1 hu).1
   simp at h1; omega
  have := mapM_some_get h j j (by simp [hj])
  rw [this]; exact hu
 ·cases h
theorem p2_ {α : Type} (R : α → List V) (Good : α → Prop) {z g o : Nat} : ∀ n : Nat, (∀ i, i < n → ∃ (a : α) (cs : List Value), Good a ∧ (R a).length = z ∧ VRs (fun _ => none) (fun _ => True) W (R a) cs ∧ (R a).all V.one = true ∧ ∀ j u, cs[j]? = some u → W.cell? ⟨g, o + i * z + j, none⟩ = some u) →
  ∃ l : List α, l.length = n ∧ (∀ a ∈ l, Good a) ∧ ∃ xs, VRr (fun _ => none) (fun _ => True) W z (l.map R) xs ∧ ∀ j u, xs[j]? = some u → W.cell? ⟨g, o + j, none⟩ = some u
 | 0, _ => ⟨[], rfl, fun a ha => (by cases ha), [], .nil, fun j u hu => by simp at hu⟩
 | n + 1, h => by
  obtain ⟨l, hl, hg, xs, hr, hc⟩ := p2_ R Good (z := z) (g := g) (o := o) n fun i hi => h i (by omega)
  obtain ⟨a, cs, ga, hz, hv, h1, hcc⟩ := h n (by omega)
  have hxl : xs.length = n * z := by rw [hr.len, List.length_map, hl]
  have hnew : VRr (fun _ => none) (fun _ => True) W z [R a] (cs ++ []) := .cons hz hv (VRs.ones hv h1) .nil
  refine ⟨l ++ [a], by simp [hl], fun b hb => ?_, xs ++ cs, ?_, fun j u hu => ?_⟩
  ·rcases List.mem_append.1 hb with hb | hb
   ·exact hg b hb
   ·simp at hb; subst hb; exact ga
  ·have := hr.append hnew
   simpa using this
  ·rw [List.getElem?_append] at hu
   split at hu
   ·exact hc j u hu
   ·rename_i hj
    have := hcc _ u hu
    rw [show o + n * z + (j - xs.length) = o + j by omega] at this
    exact this
theorem rt_ {α : Type} (R : α → List V) (Good : α → Prop) {t e : TypeId} {z fuel : Nat} (ht : P.underlying t = some (.slice e)) (hz : P.cellsOf e = z) (hz0 : 0 < z) (hq : ∀ n, n + 1 = fuel → Opn enc P W n e fun vs => ∃ a, vs = R a ∧ Good a) :
  Opn enc P W fuel t fun vs => ∃ l : List α, vs = [.sl false (l.map R)] ∧ l.length ≤ maxLen ∧ ∀ a ∈ l, Good a := fun cs x h => by
 rcases DataW.trod_slice ht h with ⟨rfl, _⟩ | ⟨a, len, cap, elems, rest, n, e1, rfl, _, _, hl, hm, hlen, hel, _⟩
 ·refine ⟨_, ⟨[], rfl, by simp, fun a ha => by cases ha⟩, .cons ?_ .nil, rfl⟩
  simp only [VR]
  exact ⟨none, 0, 1, [], rfl, Nat.le_refl _, by decide, fun _ => rfl, fun h => absurd rfl h, VRr.nil⟩
 ·obtain ⟨g, o, sp⟩ := a
  by_cases h0 : len = 0
  ·subst h0
   refine ⟨_, ⟨[], rfl, by simp, fun a ha => by cases ha⟩, .cons ?_ .nil, rfl⟩
   simp only [VR]
   exact ⟨some ⟨g, o, sp⟩, cap, 1, [], rfl, hl, hm, (fun h => by cases h), (fun h => absurd rfl h), VRr.nil⟩
  ·have hE : ∀ i, i < len → ∃ (a : α) (cs : List Value), Good a ∧ (R a).length = z ∧ VRs (fun _ => none) (fun _ => True) W (R a) cs ∧ (R a).all V.one = true ∧ W.cells? 0 ((⟨g, o, sp⟩ : Addr).add (i * z)) z = some cs := fun i hi => by
    have h1 := hel i hi
    have hi2 : i < elems.length := by omega
    rw [T6_ hi2, hz, Option.bind_eq_some_iff] at h1
    obtain ⟨cs, h2, h3⟩ := h1
    obtain ⟨vs, ⟨a, rfl, ga⟩, hv, h4⟩ := hq n e1.symm _ _ h3
    refine ⟨a, cs, ga, ?_, hv, h4, h2⟩
    rw [← hv.len]
    unfold World.cells? at h2
    split at h2
    ·simpa using mapM_some_length h2
    ·cases h2
   obtain ⟨a0, cs0, _, hz1, hv0, _, hc0⟩ := hE 0 (by omega)
   have hne : 0 < cs0.length := by rw [hv0.len, hz1]; exact hz0
   have hs := (wz_ (by simpa [Addr.add] using hc0)).2 0 cs0[0] (T6_ hne)
   have hsp : sp = none := by simpa [Addr.add] using World.cell?_spot hs
   subst hsp
   have hg : g < W.heap.size := by
    cases hh : W.heap[g]? with
    | none => simp [World.cell?, hh, add_plain] at hs
    | some o => exact (Array.getElem?_eq_some_iff.1 hh).1
   obtain ⟨l, hll, hgood, xs, hr, hc⟩ := p2_ R Good (W := W) (z := z) (g := g) (o := o) len fun i hi => by
    obtain ⟨a, cs, k1, k2, k3, k4, k5⟩ := hE i hi
    rw [add_plain] at k5
    exact ⟨a, cs, k1, k2, k3, k4, fun j u hu => by have := (wz_ k5).2 j u hu; rwa [add_plain] at this⟩
   refine ⟨_, ⟨l, rfl, by omega, hgood⟩, .cons ?_ .nil, rfl⟩
   simp only [VR, List.length_map]
   exact ⟨some ⟨g, o, none⟩, cap, z, xs, by rw [hll], by omega, hm, (fun h => by cases h), (fun _ => ⟨g, o, rfl, trivial, hg, hc⟩), hr⟩
theorem m8_ {φ : Phi} {S : Nat → Prop} {vs us : List V} {cs : List Value} {a b c : Nat} (h : VRs φ S W vs ((cs.drop a).take b)) (hc : a + b = c) (k : VRs φ S W us (cs.drop c)) : VRs φ S W (vs ++ us) (cs.drop a) := by
 subst hc
 have := h.append k
 rw [← List.drop_drop, List.take_append_drop] at this
 exact this
theorem ad0_ {φ : Phi} {S : Nat → Prop} {vs : List V} {cs : List Value} {a b : Nat} (h : VRs φ S W vs ((cs.drop a).take b)) (hl : cs.length = a + b) : VRs φ S W vs (cs.drop a) := by
 rw [T1_ (by rw [List.length_drop]; omega)] at h; exact h
end
theorem ado_ : Tryz.prog.cellsOf 3 = 1 := by kernel_rfl
theorem uy_ : Tryz.prog.cellsOf 9 = 1 := by kernel_rfl
section
variable {H : Type} {enc : TypeId × Value → H} {W : World}
end
end
end Go.Proofs.YtcigkafioinfoaaGreatDoor
