/- Lines with types: words, text, ok: the program's and the reference's; without types. Conditions: none. -/
import Derived.Test.YtefmbmafdgedmaaGreatDoorKj
import Derived.Test.YtefmbmafdgedmaaGreatDoorKk
set_option linter.unusedVariables false
set_option linter.unusedSimpArgs false
namespace Go.Proofs.YtefmbmafdgedmaaGreatDoor
section
set_option maxRecDepth 100000
set_option maxHeartbeats 4000000
end
section
set_option maxRecDepth 100000
set_option maxHeartbeats 4000000
end
section
set_option maxRecDepth 100000
set_option maxHeartbeats 4000000
end
section
set_option maxRecDepth 100000
set_option maxHeartbeats 4000000
def z4 : List V := [.i .i64 0, .i .i64 0, .s [], .sl true []]
def EqA (x : E) : Prop := ∀ y : E, sm y = true → ACall En 67 [.ag (eC x), .ag (eC y)] [] [.b (same x y)] []
theorem wr_ (xs ys : List E) (ih : ∀ e ∈ xs, EqA e) (hx : xs.length < 4611686018427387904) (hy : ys.length < 4611686018427387904) (hs : sms ys = true) : ACall En 118 [.sl false (eR xs), .sl false (eR ys)] [] [.b (same.sameL xs ys)] [] := by
 rw [gt_]
 refine aq_ (fn := Tryz.f118) [] Tryz.func118 rfl rfl (by simp) fun C => ?_
 rw [bb_]
 simp only [Tryz.ntmps118, T7_, List.length_nil, Nat.reduceAdd, Nat.reduceSub, List.replicate_succ, List.replicate_zero, List.cons_append, List.nil_append, bl_]
 refine .seq (.rgn [] (by simp only [go_sem, seval]; rfl) ?_ ?_)
 ·first | trivial | simp
 refine .seq (.seq (.rgn [] (by simp only [go_sem, seval]; rfl) ?_ ?_))
 ·first | trivial | simp
 refine .condB (by simp only [go_sem, seval]; rfl) (by simp only [go_sem, seval]) (fun h10 => ?_) (fun h10 => ?_)
 ·refine .seq (.rgn [] (by simp only [go_sem, seval]; rfl) ?_ ?_)
  ·first | trivial | simp
  refine .ret ⟨.inr rfl, ?_⟩
  exact Out.plain (by simp only [Tryz.results118]; rfl) (by simp only [a4_, bh_, go_sem, seval] <;> (split <;> rfl)) (by simp only [bg_, go_sem, seval] <;> (simp at h10; rw [decide_eq_false (by omega)]; rfl)) (by simp only [go_sem, seval])
 ·refine .skip (.seq (.seq (.rgn [] (by simp only [go_sem, seval]; rfl) ?_ ?_)))
  ·first | trivial | simp
  refine .block (.loopK (fun k : Nat => ⟨[.sl false (eR xs), .sl false (eR ys), .no, .no, .no, .i .i64 k, .no, .no, .no, .no, .no, .no, .no, .no, .no, .no, .no, .no, .no, .no, .no, .no, .no, .no, .no, .no, .no], be_ [], us []⟩) (fun k : Nat => k ≤ xs.length ∧ ((xs.zip ys).take k).all (fun q => same q.1 q.2) = true) (fun k : Nat => xs.length - k) (0) ?_ ?_ (fun k hI => ?_))
  ·simp
  ·exact Can.weak (Weak.lit (by simp only [go_sem, seval, a2_, leV, az_, a0_, V.inn, us, T9_, Ta_] <;> (simp)) (by simp only [go_sem, seval, a2_, leV, az_, a0_, V.inn, us, T9_, Ta_]) (by simp only [go_sem, seval, a2_, leV, az_, a0_, V.inn, us, T9_, Ta_]))
  refine .seq (.seq (.rgn [] (by simp only [go_sem, seval]; rfl) ?_ ?_))
  ·first | trivial | simp
  refine .condB (by simp only [go_sem, seval]; rfl) (by simp only [go_sem, seval]) (fun h14 => ?_) (fun h14 => ?_)
  ·refine .skip (.seq (.block (.seq (.rgnD [bj_ (ih (xs.getD k E0) (b5_ (by simpa using h14)) (ys.getD k E0) (de_ hs _ (b5_ (by simp at h14 h10; omega))))] enM (by simp only [go_sem, seval, ee_ (show k < xs.length by simpa using h14), ee_ (show k < ys.length by simp at h14 h10; omega)]; rfl) (by rfl) ?_ ?_))))
   ·simp at h14 h10; simp; omega
   refine .condB (by simp only [go_sem, seval]; rfl) (by simp only [go_sem, seval]) (fun h26 => ?_) (fun h26 => ?_)
   ·refine .seq (.rgn [] (by simp only [go_sem, seval]; rfl) ?_ ?_)
    ·first | trivial | simp
    refine .ret ⟨.inr rfl, ?_⟩
    exact Out.plain (by simp only [Tryz.results118]; rfl) (by simp only [a4_, bh_, go_sem, seval] <;> (split <;> rfl)) (by simp only [bg_, go_sem, seval] <;> (simp at h14 h10; simp only [Bool.not_eq_true'] at h26; have := qq_ (fun q => same q.1 q.2) h14 (show k < ys.length by omega) h26; rw [this]; simp)) (by simp only [go_sem, seval])
   ·refine .skip (.rgn [] (by simp only [go_sem, seval]; rfl) ?_ ?_)
    ·first | trivial | simp
    refine Exists.intro (k + 1) ⟨?_, ?_, ?_⟩
    ·simp at h14 h10; have hb := oi_ (fun q => same q.1 q.2) h14 (show k < ys.length by omega); simp only [Bool.not_eq_false'] at h26; exact ⟨by omega, by rw [hb, hI.2, h26]; rfl⟩
    ·simp at h14; omega
    exact Can.weak (Weak.lit (by simp only [go_sem, seval, a2_, leV, az_, a0_, V.inn, us, T9_, Ta_] <;> (rw [bt_ (by simp at h14; omega) (by simp at h14; omega)]; simp)) (by simp only [go_sem, seval, a2_, leV, az_, a0_, V.inn, us, T9_, Ta_]) (by simp only [go_sem, seval, a2_, leV, az_, a0_, V.inn, us, T9_, Ta_]))
  ·refine .exit (.seq (.rgn [] (by simp only [go_sem, seval]; rfl) ?_ ?_))
   ·first | trivial | simp
   refine .ret ⟨.inr rfl, ?_⟩
   exact Out.plain (by simp only [Tryz.results118]; rfl) (by simp only [a4_, bh_, go_sem, seval] <;> (split <;> rfl)) (by simp only [bg_, go_sem, seval] <;> (simp at h14 h10; have h0 := hI.2; rw [T1_ (by rw [List.length_zip]; omega)] at h0; rw [h0, decide_eq_true (by omega)]; rfl)) (by simp only [go_sem, seval])
theorem sx_ (x : E) : sm x = true → EqA x := by
 induction x using E.ind' with
 | h x ih =>
 intro hs y hy
 obtain ⟨a1, a2, a3⟩ := ey_ hs
 obtain ⟨b1, b2, b3⟩ := ey_ hy
 rw [kn_]
 refine aq_ (fn := Tryz.f67) [] Tryz.func67 rfl rfl (by simp) fun C => ?_
 rw [bb_]
 simp only [Tryz.ntmps67, T7_, List.length_nil, Nat.reduceAdd, Nat.reduceSub, List.replicate_succ, List.replicate_zero, List.cons_append, List.nil_append, bl_]
 refine .seq (.rgn [] (by simp only [go_sem, seval, a6_]; rfl) ?_ ?_)
 ·first | trivial | simp
 refine .seq (.seq (.rgn [] (by simp only [go_sem, seval, a6_]; rfl) ?_ ?_))
 ·first | trivial | simp
 refine .condB (by simp only [go_sem, seval, a6_]; rfl) (by simp only [go_sem, seval, a6_]) (fun h9 => ?_) (fun h9 => ?_)
 ·refine .seq (.rgn [] (by simp only [go_sem, seval, a6_]; rfl) ?_ ?_)
  ·first | trivial | simp
  refine .ret ⟨.inr rfl, ?_⟩
  exact Out.plain (by simp only [Tryz.results67]; rfl) (by simp only [a4_, bh_, go_sem, seval, a6_] <;> (split <;> rfl)) (by simp only [bg_, go_sem, seval, a6_] <;> (simp at h9; simp [h9])) (by simp only [go_sem, seval, a6_])
 ·refine .skip (.seq (.seq (.rgn [] (by simp only [go_sem, seval, a6_]; rfl) ?_ ?_)))
  ·first | trivial | simp
  refine .condB (by simp only [go_sem, seval, a6_]; rfl) (by simp only [go_sem, seval, a6_]) (fun h14 => ?_) (fun h14 => ?_)
  ·refine .seq (.rgn [] (by simp only [go_sem, seval, a6_]; rfl) ?_ ?_)
   ·first | trivial | simp
   refine .ret ⟨.inr rfl, ?_⟩
   exact Out.plain (by simp only [Tryz.results67]; rfl) (by simp only [a4_, bh_, go_sem, seval, a6_] <;> (split <;> rfl)) (by simp only [bg_, go_sem, seval, a6_] <;> (simp at h9 h14; simp [h14])) (by simp only [go_sem, seval, a6_])
  ·refine .skip (.seq (.seq (.rgn [] (by simp only [go_sem, seval, a6_]; rfl) ?_ ?_)))
   ·first | trivial | simp
   refine .condB (by simp only [go_sem, seval, a6_]; rfl) (by simp only [go_sem, seval, a6_]) (fun h19 => ?_) (fun h19 => ?_)
   ·refine .seq (.rgn [] (by simp only [go_sem, seval, a6_]; rfl) ?_ ?_)
    ·first | trivial | simp
    refine .ret ⟨.inr rfl, ?_⟩
    exact Out.plain (by simp only [Tryz.results67]; rfl) (by simp only [a4_, bh_, go_sem, seval, a6_] <;> (split <;> rfl)) (by simp only [bg_, go_sem, seval, a6_] <;> (simp at h9 h14 h19; simp [h19])) (by simp only [go_sem, seval, a6_])
   ·refine .skip (.seq (.seq (.rgn [bj_ (wr_ x.kids y.kids (fun e he => ih e he (de_ a3 e he)) a2 b2 b3)] (by simp only [go_sem, seval, a6_]; rfl) ?_ ?_)))
    ·first | trivial | simp
    refine .condB (by simp only [go_sem, seval, a6_]; rfl) (by simp only [go_sem, seval, a6_]) (fun h25 => ?_) (fun h25 => ?_)
    ·refine .seq (.rgn [] (by simp only [go_sem, seval, a6_]; rfl) ?_ ?_)
     ·first | trivial | simp
     refine .ret ⟨.inr rfl, ?_⟩
     exact Out.plain (by simp only [Tryz.results67]; rfl) (by simp only [a4_, bh_, go_sem, seval, a6_] <;> (split <;> rfl)) (by simp only [bg_, go_sem, seval, a6_] <;> (simp at h9 h14 h19 h25; simp [h25])) (by simp only [go_sem, seval, a6_])
    ·refine .skip (.seq (.rgn [] (by simp only [go_sem, seval, a6_]; rfl) ?_ ?_))
     ·first | trivial | simp
     refine .ret ⟨.inr rfl, ?_⟩
     exact Out.plain (by simp only [Tryz.results67]; rfl) (by simp only [a4_, bh_, go_sem, seval, a6_] <;> (split <;> rfl)) (by simp only [bg_, go_sem, seval, a6_] <;> (simp at h9 h14 h19 h25; simp [h9, h14, h19, h25])) (by simp only [go_sem, seval, a6_])
end
section
set_option maxRecDepth 100000
set_option maxHeartbeats 4000000
theorem s5_ (a b : Bl) (ha : smb a = true) (hb : smb b = true) : ACall En 21 [.ag (bC a), .ag (bC b)] [] [.b (l2_ a b)] [] := by
 obtain ⟨a1, a2, a3⟩ := hr_ ha
 obtain ⟨b1, b2, b3⟩ := hr_ hb
 refine aq_ (fn := Tryz.f21) [] Tryz.func21 rfl rfl (by simp) fun C => ?_
 rw [bb_]
 simp only [Tryz.ntmps21, T7_, List.length_nil, Nat.reduceAdd, Nat.reduceSub, List.replicate_succ, List.replicate_zero, List.cons_append, List.nil_append, bl_]
 refine .seq (.rgn [] (by simp only [go_sem, seval, as_]; rfl) ?_ ?_)
 ·first | trivial | simp
 refine .seq (.seq (.rgn [] (by simp only [go_sem, seval, as_]; rfl) ?_ ?_))
 ·first | trivial | simp
 refine .condB (by simp only [go_sem, seval, as_]; rfl) (by simp only [go_sem, seval, as_]) (fun h9 => ?_) (fun h9 => ?_)
 ·refine .seq (.rgn [] (by simp only [go_sem, seval, as_]; rfl) ?_ ?_)
  ·first | trivial | simp
  refine .ret ⟨.inr rfl, ?_⟩
  exact Out.plain (by simp only [Tryz.results21]; rfl) (by simp only [a4_, bh_, go_sem, seval, as_] <;> (split <;> rfl)) (by simp only [bg_, go_sem, seval, as_] <;> (simp at h9; simp [l2_, h9])) (by simp only [go_sem, seval, as_])
 ·refine .skip (.seq (.seq (.rgn [] (by simp only [go_sem, seval, as_]; rfl) ?_ ?_)))
  ·first | trivial | simp
  refine .condB (by simp only [go_sem, seval, as_]; rfl) (by simp only [go_sem, seval, as_]) (fun h14 => ?_) (fun h14 => ?_)
  ·refine .seq (.rgn [] (by simp only [go_sem, seval, as_]; rfl) ?_ ?_)
   ·first | trivial | simp
   refine .ret ⟨.inr rfl, ?_⟩
   exact Out.plain (by simp only [Tryz.results21]; rfl) (by simp only [a4_, bh_, go_sem, seval, as_] <;> (split <;> rfl)) (by simp only [bg_, go_sem, seval, as_] <;> (simp at h9 h14; simp [l2_, h14])) (by simp only [go_sem, seval, as_])
  ·refine .skip (.seq (.seq (.rgn [bj_ (sx_ a.expr a2 b.expr b2)] (by simp only [go_sem, seval, as_]; rfl) ?_ ?_)))
   ·first | trivial | simp
   refine .condB (by simp only [go_sem, seval, as_]; rfl) (by simp only [go_sem, seval, as_]) (fun h20 => ?_) (fun h20 => ?_)
   ·refine .seq (.rgn [] (by simp only [go_sem, seval, as_]; rfl) ?_ ?_)
    ·first | trivial | simp
    refine .ret ⟨.inr rfl, ?_⟩
    exact Out.plain (by simp only [Tryz.results21]; rfl) (by simp only [a4_, bh_, go_sem, seval, as_] <;> (split <;> rfl)) (by simp only [bg_, go_sem, seval, as_] <;> (simp at h9 h14 h20; simp [l2_, h20])) (by simp only [go_sem, seval, as_])
   ·refine .skip (.seq (.seq (.rgn [bj_ (sx_ a.thn a3 b.thn b3)] (by simp only [go_sem, seval, as_]; rfl) ?_ ?_)))
    ·first | trivial | simp
    refine .condB (by simp only [go_sem, seval, as_]; rfl) (by simp only [go_sem, seval, as_]) (fun h26 => ?_) (fun h26 => ?_)
    ·refine .seq (.rgn [] (by simp only [go_sem, seval, as_]; rfl) ?_ ?_)
     ·first | trivial | simp
     refine .ret ⟨.inr rfl, ?_⟩
     exact Out.plain (by simp only [Tryz.results21]; rfl) (by simp only [a4_, bh_, go_sem, seval, as_] <;> (split <;> rfl)) (by simp only [bg_, go_sem, seval, as_] <;> (simp at h9 h14 h20 h26; simp [l2_, h26])) (by simp only [go_sem, seval, as_])
    ·refine .skip (.seq (.rgn [] (by simp only [go_sem, seval, as_]; rfl) ?_ ?_))
     ·first | trivial | simp
     refine .ret ⟨.inr rfl, ?_⟩
     exact Out.plain (by simp only [Tryz.results21]; rfl) (by simp only [a4_, bh_, go_sem, seval, as_] <;> (split <;> rfl)) (by simp only [bg_, go_sem, seval, as_] <;> (simp at h9 h14 h20 h26; simp [l2_, h9, h14, h20, h26])) (by simp only [go_sem, seval, as_])
end
section
open Go.ChangeShapes Go.WideShapes Go.ChangeAt Go.RowKit
set_option maxRecDepth 100000
section
variable {H : Type} {enc : TypeId × Value → H} {P : Program} {W : World}
def Opn (enc : TypeId × Value → H) (P : Program) (W : World) (fuel : Nat) (t : TypeId) (Q : List V → Prop) : Prop :=
 ∀ cs x, DataW.trod enc P W 0 (fun _ => true) true fuel t cs = some x → ∃ vs, Q vs ∧ VRs (fun _ => none) (fun _ => True) W vs cs ∧ vs.all V.one = true
theorem act_ {t : TypeId} {fuel : Nat} (ht : P.underlying t = some .string) : Opn enc P W fuel t fun vs => ∃ s : Str, vs = [.s s] ∧ s.length ≤ maxLen := fun cs x h => by
 obtain ⟨s, rfl, _, hw⟩ := DataW.trod_string ht h
 refine ⟨_, ⟨s.data.toList, rfl, by rw [Array.length_toList]; exact hw⟩, .cons (by simp only [VR]) .nil, rfl⟩
end
section
variable {H : Type} {enc : TypeId × Value → H} {W : World}
theorem ab2_ {r : Reach} {base : Nat} {v0 : Value} {d0 : DataW H} {p : List MemPlace} (hv : Value.okWide Tryz.prog W r base 9 v0) (h0 : DataW.Trod enc Tryz.prog W 0 (fun _ => true) true 9 v0 d0 p) :
  ∃ b : Str, b.length ≤ 9223372036854775807 ∧ VR (fun _ => none) (fun _ => True) W (.s b) v0 := by
 obtain ⟨fuel, h⟩ := h0
 obtain ⟨_, ⟨s, rfl, hs⟩, hr, _⟩ := act_ (enc := enc) (P := Tryz.prog) (W := W) Tryz.underlying9 _ _ h
 have hm : maxLen = 9223372036854775807 := by decide
 obtain ⟨x, rfl⟩ := okWide_string Tryz.underlying9 hv
 refine ⟨s, by omega, ?_⟩
 simpa [Value.cells, VRs] using hr
end
end
end Go.Proofs.YtefmbmafdgedmaaGreatDoor
