/- Parts of the proof, one after another: Lists of numbers: the same, marked, held. | Lines without types, drawn. Conditions: none. -/
import Derived.Test.YteihfmnmpdbkiaaGreatDoorKt
import Derived.Test.YteihfmnmpdbkiaaGreatDoorKx
import Derived.Test.YteihfmnmpdbkiaaGreatDoorK4
import Derived.Test.YteihfmnmpdbkiaaGreatDoorK6
import Derived.Test.YteihfmnmpdbkiaaGreatDoorKv
set_option linter.unusedVariables false
set_option linter.unusedSimpArgs false
namespace Go.Proofs.YteihfmnmpdbkiaaGreatDoor
section
set_option maxRecDepth 100000
set_option maxHeartbeats 4000000
end

section
set_option maxRecDepth 100000
set_option maxHeartbeats 4000000

theorem sBareTxt_a (b : Bl) (hs : smb b = true) : ACall En 43 [.ag (bC b)] [] [.s (btxt b)] [] := by
  refine acall_of_body (fn := Tryz.f43) [] Tryz.func43 rfl rfl (by simp) fun C => ?_
  rw [entry_eq]
  simp only [Tryz.ntmps43, List.length_cons, List.length_nil, Nat.reduceAdd, Nat.reduceSub, List.replicate_succ, List.replicate_zero, List.cons_append, List.nil_append, numL]
  refine AWp.seq ?_
  refine AWp.rgn [] (by simp only [go_sem, seval, bC_eq, strR_pure]; rfl) ?_ ?_
  · (first | trivial | (simp; done))
  refine AWp.seq ?_
  refine AWp.seq ?_
  refine AWp.rgn [call0 (sBareOk_a b hs)] (by simp only [go_sem, seval, bC_eq, strR_pure]; rfl) ?_ ?_
  · (first | trivial | (simp; done))
  refine AWp.condB (by simp only [go_sem, seval, bC_eq, strR_pure]; rfl) (by simp only [go_sem, seval, bC_eq, strR_pure]) (fun h5 => ?_) (fun h5 => ?_)
  · refine AWp.seq ?_
    refine AWp.rgn [] (by simp only [go_sem, seval, bC_eq, strR_pure]; rfl) ?_ ?_
    · (first | trivial | (simp; done))
    refine AWp.ret (And.intro (.inr rfl) ?_)
    exact Out.plain (by simp only [Tryz.results43]; rfl) (by simp only [resCs, resC, go_sem, seval, bC_eq, strR_pure] <;> (split <;> rfl)) (by simp only [resV, go_sem, seval, bC_eq, strR_pure] <;> (simp at h5; simp [btxt, h5])) (by simp only [go_sem, seval, bC_eq, strR_pure])
  · refine AWp.skip ?_
    refine AWp.seq ?_
    refine AWp.rgn [callI (bok b = true) (fun h => l7Words_a b (bok_0 h) hs), callI (bok b = true) (fun h => sTokText_a (bw b) (by have := (bw_le (bok_0 h)).1; omega) (by have := bw_text (bok_0 h); omega))] (by simp only [go_sem, seval, bC_eq, strR_pure]; rfl) ?_ ?_
    · simp at h5; simp [h5]
    refine AWp.ret (And.intro (.inr rfl) ?_)
    exact Out.plain (by simp only [Tryz.results43]; rfl) (by simp only [resCs, resC, go_sem, seval, bC_eq, strR_pure] <;> (split <;> rfl)) (by simp only [resV, go_sem, seval, bC_eq, strR_pure] <;> (simp at h5; simp [btxt, h5])) (by simp only [go_sem, seval, bC_eq, strR_pure])
def torn (b : Str) (p : Int) (l : List Str) (s : Str) : Str :=
  s.take (pickI b p s.length).toNat ++ ofI b (p + 1) l ++ s.drop ((pickI b p s.length).toNat + (pickI b (p + 1 + 1) 2).toNat)
theorem torn_p {b : Str} {p : Int} {s : Str} (h0 : ((s.length : Int) == 0) = false) (hp : 0 ≤ p) (hp2 : p < 1000000000) (hs : s.length ≤ 1000000) :
    0 ≤ pickI b p s.length ∧ pickI b p s.length ≤ s.length ∧ IntKind.i64.wrap (pickI b p s.length + pickI b (p + 1 + 1) 2) = pickI b p s.length + pickI b (p + 1 + 1) 2 ∧ 0 ≤ pickI b p s.length + pickI b (p + 1 + 1) 2 ∧ pickI b p s.length + pickI b (p + 1 + 1) 2 ≤ s.length ∧ (pickI b p s.length + pickI b (p + 1 + 1) 2).toNat = (pickI b p s.length).toNat + (pickI b (p + 1 + 1) 2).toNat ∧ (s.take (pickI b p s.length).toNat).length ≤ s.length := by
  rw [beq_eq_false_iff_ne] at h0
  have h1 := pickI_le b (p := p) (n := s.length) hp (by omega) (by omega)
  have h2 := pickI_le b (p := p + 1 + 1) (n := 2) (by omega) (by omega) (by decide)
  refine ⟨h1.1, by omega, wrap64 (by omega) (by omega), by omega, by omega, by omega, by simp; omega⟩
theorem torn_len {b : Str} {p : Int} {l : List Str} {s : Str} (k : Nat) (hl : 0 < l.length) (h : ∀ w ∈ l, w.length ≤ k) (hp : 0 ≤ p) (hp2 : p < 1000000000) : (torn b p l s).length ≤ s.length + k + s.length := by
  have := of_len (b := b) (p := p + 1) hl (by omega) (by omega) k h
  unfold torn
  simp only [List.length_append, List.length_take, List.length_drop]; omega
theorem btxt_le (b : Bl) : (btxt b).length ≤ 120 := by
  unfold btxt; split
  · rename_i h; exact (bok_open h).1
  · simp
end
end Go.Proofs.YteihfmnmpdbkiaaGreatDoor
