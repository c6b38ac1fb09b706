/- What the exact laws do with lines with types, and lists of them: size, copies, sameness. Conditions: none. -/
import Derived.Test.YtcigkafioinfoaaGreatDoorKq
import Derived.Test.YtcigkafioinfoaaGreatDoorKm
set_option linter.unusedVariables false
set_option linter.unusedSimpArgs false
namespace Go.Proofs.YtcigkafioinfoaaGreatDoor
section
set_option maxRecDepth 100000
set_option maxHeartbeats 4000000
def bdS (s : Sl) : Bool := decide (s.name.length ≤ 9223372036854775807) && decide (s.type.length ≤ 9223372036854775807) && bd s.expr && bd s.thn
theorem xt_ {s : Sl} (h : bdS s = true) : s.name.length ≤ 9223372036854775807 ∧ s.type.length ≤ 9223372036854775807 ∧ bd s.expr = true ∧ bd s.thn = true := by
 simp only [bdS, T5_, T3_] at h; exact ⟨h.1.1.1, h.1.1.2, h.1.2, h.2⟩
def szS (s : Sl) (l : Int) : Int := if l - s.name.length < 0 then -1 else if l - s.name.length - s.type.length < 0 then -1 else if szE s.expr (l - s.name.length - s.type.length) < 0 then -1 else szE s.thn (szE s.expr (l - s.name.length - s.type.length))
theorem acr_ {s : Sl} {l : Int} (hl : l ≤ 1048576) (h0 : -1 ≤ l) (h : 0 ≤ szS s l) : f8_ s = true := by
 unfold szS at h
 split at h
 ·omega
 ·split at h
  ·omega
  ·have h1 := e5_ s.expr (l - s.name.length - s.type.length) (by omega)
   split at h
   ·omega
   ·have h2 := mk_ s.expr _ (by omega) (show 0 ≤ szE s.expr (l - s.name.length - s.type.length) by omega)
    have h3 := mk_ s.thn _ (by omega) h
    simp only [f8_, h2, h3, Bool.and_true, T5_, T3_]; omega
theorem wx_ (s : Sl) (hb : bdS s = true) (l : Int) (h1 : 0 ≤ l) (h2 : l ≤ 1048576) : ACall En 18 [.ag (sC s), .i .i64 l] [] [.i .i64 (szS s l)] [] := by
 obtain ⟨b1, b1', b2, b3⟩ := xt_ hb
 have hw : IntKind.i64.wrap (l - s.name.length) = l - s.name.length := bm_ (by omega) (by omega)
 have hle : 0 ≤ l - (s.name.length : Int) - s.type.length → szE s.expr (l - s.name.length - s.type.length) ≤ 1048576 := fun h => by have := e5_ s.expr (l - s.name.length - s.type.length) (by omega); omega
 refine am_ (fn := Tryz.f18) [] Tryz.func18 rfl rfl (by simp) fun C => ?_
 rw [a2_]
 simp only [Tryz.ntmps18, T7_, List.length_nil, Nat.reduceAdd, Nat.reduceSub, List.replicate_succ, List.replicate_zero, List.cons_append, List.nil_append, bn_]
 refine .seq (.rgn [] (by simp only [go_sem, seval, hw, ag_]; rfl) ?_ ?_)
 ·first | trivial | simp
 refine .seq (.rgn [] (by simp only [go_sem, seval, hw, ag_]; rfl) ?_ ?_)
 ·first | trivial | simp
 refine .seq (.seq (.rgn [] (by simp only [go_sem, seval, hw, ag_]; rfl) ?_ ?_))
 ·first | trivial | simp
 refine .condB (by simp only [go_sem, seval, hw, ag_]; rfl) (by simp only [go_sem, seval, hw, ag_]) (fun h11 => ?_) (fun h11 => ?_)
 ·refine .seq (.rgn [] (by simp only [go_sem, seval, hw, ag_]; rfl) ?_ ?_)
  ·first | trivial | simp
  refine .ret ⟨.inr rfl, ?_⟩
  exact Out.plain (by simp only [Tryz.results18]; rfl) (by simp only [ax_, bj_, go_sem, seval, hw, ag_] <;> (split <;> rfl)) (by simp only [bi_, go_sem, seval, hw, ag_] <;> (simp only [T3_] at h11; rw [szS, if_pos h11])) (by simp only [go_sem, seval, hw, ag_])
 ·refine .skip (.seq (.rgn [] (by simp only [go_sem, seval, hw, ag_, bm_ (show -9223372036854775808 ≤ l - (s.name.length : Int) - s.type.length by simp only [T4_] at h11; omega) (by omega)]; rfl) ?_ ?_))
  ·first | trivial | simp
  refine .seq (.seq (.rgn [] (by simp only [go_sem, seval, hw, ag_]; rfl) ?_ ?_))
  ·first | trivial | simp
  refine .condB (by simp only [go_sem, seval, hw, ag_]; rfl) (by simp only [go_sem, seval, hw, ag_]) (fun h18 => ?_) (fun h18 => ?_)
  ·refine .seq (.rgn [] (by simp only [go_sem, seval, hw, ag_]; rfl) ?_ ?_)
   ·first | trivial | simp
   refine .ret ⟨.inr rfl, ?_⟩
   exact Out.plain (by simp only [Tryz.results18]; rfl) (by simp only [ax_, bj_, go_sem, seval, hw, ag_] <;> (split <;> rfl)) (by simp only [bi_, go_sem, seval, hw, ag_] <;> (simp only [T3_, T4_] at h11 h18; rw [szS, if_neg h11, if_pos h18])) (by simp only [go_sem, seval, hw, ag_])
  ·refine .skip (.seq (.rgn [c9_ (0 ≤ l - (s.name.length : Int) - s.type.length) (fun h => i1_ s.expr b2 (l - s.name.length - s.type.length) h (by omega))] (by simp only [go_sem, seval, hw, ag_]; rfl) ?_ ?_))
   ·simp only [T4_] at h11 h18; simp; omega
   refine .seq (.seq (.rgn [] (by simp only [go_sem, seval, hw, ag_]; rfl) ?_ ?_))
   ·first | trivial | simp
   refine .condB (by simp only [go_sem, seval, hw, ag_]; rfl) (by simp only [go_sem, seval, hw, ag_]) (fun h24 => ?_) (fun h24 => ?_)
   ·refine .seq (.rgn [] (by simp only [go_sem, seval, hw, ag_]; rfl) ?_ ?_)
    ·first | trivial | simp
    refine .ret ⟨.inr rfl, ?_⟩
    exact Out.plain (by simp only [Tryz.results18]; rfl) (by simp only [ax_, bj_, go_sem, seval, hw, ag_] <;> (split <;> rfl)) (by simp only [bi_, go_sem, seval, hw, ag_] <;> (simp only [T3_, T4_] at h11 h18 h24; rw [szS, if_neg h11, if_neg h18, if_pos h24])) (by simp only [go_sem, seval, hw, ag_])
   ·refine .skip (.seq (.rgn [c9_ (0 ≤ l - (s.name.length : Int) - s.type.length ∧ 0 ≤ szE s.expr (l - s.name.length - s.type.length)) (fun h => i1_ s.thn b3 (szE s.expr (l - s.name.length - s.type.length)) h.2 (hle h.1))] (by simp only [go_sem, seval, hw, ag_]; rfl) ?_ ?_))
    ·simp only [T4_] at h11 h18 h24; simp; omega
    refine .seq (.seq (.rgn [] (by simp only [go_sem, seval, hw, ag_]; rfl) ?_ ?_))
    ·first | trivial | simp
    refine .condB (by simp only [go_sem, seval, hw, ag_]; rfl) (by simp only [go_sem, seval, hw, ag_]) (fun h30 => ?_) (fun h30 => ?_)
    ·refine .seq (.rgn [] (by simp only [go_sem, seval, hw, ag_]; rfl) ?_ ?_)
     ·first | trivial | simp
     refine .ret ⟨.inr rfl, ?_⟩
     exact Out.plain (by simp only [Tryz.results18]; rfl) (by simp only [ax_, bj_, go_sem, seval, hw, ag_] <;> (split <;> rfl)) (by simp only [bi_, go_sem, seval, hw, ag_] <;> (simp only [T3_, T4_] at h11 h18 h24 h30; rw [szS, if_neg h11, if_neg h18, if_neg h24]; have := e5_ s.thn (szE s.expr (l - s.name.length - s.type.length)) (by omega); congr 1; congr 1; omega)) (by simp only [go_sem, seval, hw, ag_])
    ·refine .skip (.seq (.rgn [] (by simp only [go_sem, seval, hw, ag_]; rfl) ?_ ?_))
     ·first | trivial | simp
     refine .ret ⟨.inr rfl, ?_⟩
     exact Out.plain (by simp only [Tryz.results18]; rfl) (by simp only [ax_, bj_, go_sem, seval, hw, ag_] <;> (split <;> rfl)) (by simp only [bi_, go_sem, seval, hw, ag_] <;> (simp only [T3_, T4_] at h11 h18 h24 h30; rw [szS, if_neg h11, if_neg h18, if_neg h24])) (by simp only [go_sem, seval, hw, ag_])
theorem mw_ (s : Sl) (hs : f8_ s = true) : ACall En 20 [.ag (sC s)] [] [.ag (sC s)] [] := by
 obtain ⟨s1, s1', s2, s3⟩ := dm_ hs
 refine am_ (fn := Tryz.f20) [] Tryz.func20 rfl rfl (by simp) fun C => ?_
 rw [a2_]
 simp only [Tryz.ntmps20, T7_, List.length_nil, Nat.reduceAdd, Nat.reduceSub, List.replicate_succ, List.replicate_zero, List.cons_append, List.nil_append, bn_]
 refine .seq (.rgn [] (by simp only [go_sem, seval, ag_, bq_]; rfl) ?_ ?_)
 ·first | trivial | simp
 refine .seq (.rgn [] (by simp only [go_sem, seval, ag_, bq_]; rfl) ?_ ?_)
 ·first | trivial | simp
 refine .seq (.rgn [] (by simp only [go_sem, seval, ag_, bq_]; rfl) ?_ ?_)
 ·first | trivial | simp
 refine .seq (.rgn [] (by simp only [go_sem, seval, ag_, bq_]; rfl) ?_ ?_)
 ·first | trivial | simp
 refine .seq (.rgn [] (by simp only [go_sem, seval, ag_, bq_]; rfl) ?_ ?_)
 ·first | trivial | simp
 refine .seq (.rgn [ba_ (im_ s.expr s2)] (by simp only [go_sem, seval, ag_, bq_]; rfl) ?_ ?_)
 ·first | trivial | simp
 refine .seq (.rgn [ba_ (im_ s.thn s3)] (by simp only [go_sem, seval, ag_, bq_]; rfl) ?_ ?_)
 ·first | trivial | simp
 refine .seq (.rgn [] (by simp only [go_sem, seval, ag_, bq_]; rfl) ?_ ?_)
 ·first | trivial | simp
 refine .ret ⟨.inr rfl, ?_⟩
 exact Out.plain (by simp only [Tryz.results20]; rfl) (by simp only [ax_, bj_, go_sem, seval, ag_, bq_] <;> (split <;> rfl)) (by simp only [bi_, go_sem, seval, ag_, bq_] <;> (rfl)) (by simp only [go_sem, seval, ag_, bq_])
def il_ (a b : Sl) : Bool := a.kind == b.kind && a.name == b.name && a.type == b.type && same a.expr b.expr && same a.thn b.thn
theorem r1_ (a : Sl) : il_ a a = true := by simp [il_, vv_]
theorem v5_ (a b : Sl) (ha : f8_ a = true) (hb : f8_ b = true) : ACall En 23 [.ag (sC a), .ag (sC b)] [] [.b (il_ a b)] [] := by
 obtain ⟨a1, a1', a2, a3⟩ := dm_ ha
 obtain ⟨b1, b1', b2, b3⟩ := dm_ hb
 refine am_ (fn := Tryz.f23) [] Tryz.func23 rfl rfl (by simp) fun C => ?_
 rw [a2_]
 simp only [Tryz.ntmps23, T7_, List.length_nil, Nat.reduceAdd, Nat.reduceSub, List.replicate_succ, List.replicate_zero, List.cons_append, List.nil_append, bn_]
 refine .seq (.rgn [] (by simp only [go_sem, seval, ag_]; rfl) ?_ ?_)
 ·first | trivial | simp
 refine .seq (.seq (.rgn [] (by simp only [go_sem, seval, ag_]; rfl) ?_ ?_))
 ·first | trivial | simp
 refine .condB (by simp only [go_sem, seval, ag_]; rfl) (by simp only [go_sem, seval, ag_]) (fun h9 => ?_) (fun h9 => ?_)
 ·refine .seq (.rgn [] (by simp only [go_sem, seval, ag_]; rfl) ?_ ?_)
  ·first | trivial | simp
  refine .ret ⟨.inr rfl, ?_⟩
  exact Out.plain (by simp only [Tryz.results23]; rfl) (by simp only [ax_, bj_, go_sem, seval, ag_] <;> (split <;> rfl)) (by simp only [bi_, go_sem, seval, ag_] <;> (simp at h9; simp [il_, h9])) (by simp only [go_sem, seval, ag_])
 ·refine .skip (.seq (.seq (.rgn [] (by simp only [go_sem, seval, ag_]; rfl) ?_ ?_)))
  ·first | trivial | simp
  refine .condB (by simp only [go_sem, seval, ag_]; rfl) (by simp only [go_sem, seval, ag_]) (fun h14 => ?_) (fun h14 => ?_)
  ·refine .seq (.rgn [] (by simp only [go_sem, seval, ag_]; rfl) ?_ ?_)
   ·first | trivial | simp
   refine .ret ⟨.inr rfl, ?_⟩
   exact Out.plain (by simp only [Tryz.results23]; rfl) (by simp only [ax_, bj_, go_sem, seval, ag_] <;> (split <;> rfl)) (by simp only [bi_, go_sem, seval, ag_] <;> (simp at h9 h14; simp [il_, h14])) (by simp only [go_sem, seval, ag_])
  ·refine .skip (.seq (.seq (.rgn [] (by simp only [go_sem, seval, ag_]; rfl) ?_ ?_)))
   ·first | trivial | simp
   refine .condB (by simp only [go_sem, seval, ag_]; rfl) (by simp only [go_sem, seval, ag_]) (fun h19 => ?_) (fun h19 => ?_)
   ·refine .seq (.rgn [] (by simp only [go_sem, seval, ag_]; rfl) ?_ ?_)
    ·first | trivial | simp
    refine .ret ⟨.inr rfl, ?_⟩
    exact Out.plain (by simp only [Tryz.results23]; rfl) (by simp only [ax_, bj_, go_sem, seval, ag_] <;> (split <;> rfl)) (by simp only [bi_, go_sem, seval, ag_] <;> (simp at h9 h14 h19; simp [il_, h19])) (by simp only [go_sem, seval, ag_])
   ·refine .skip (.seq (.seq (.rgn [ba_ (jd_ a.expr a2 b.expr b2)] (by simp only [go_sem, seval, ag_]; rfl) ?_ ?_)))
    ·first | trivial | simp
    refine .condB (by simp only [go_sem, seval, ag_]; rfl) (by simp only [go_sem, seval, ag_]) (fun h25 => ?_) (fun h25 => ?_)
    ·refine .seq (.rgn [] (by simp only [go_sem, seval, ag_]; rfl) ?_ ?_)
     ·first | trivial | simp
     refine .ret ⟨.inr rfl, ?_⟩
     exact Out.plain (by simp only [Tryz.results23]; rfl) (by simp only [ax_, bj_, go_sem, seval, ag_] <;> (split <;> rfl)) (by simp only [bi_, go_sem, seval, ag_] <;> (simp at h9 h14 h19 h25; simp [il_, h25])) (by simp only [go_sem, seval, ag_])
    ·refine .skip (.seq (.seq (.rgn [ba_ (jd_ a.thn a3 b.thn b3)] (by simp only [go_sem, seval, ag_]; rfl) ?_ ?_)))
     ·first | trivial | simp
     refine .condB (by simp only [go_sem, seval, ag_]; rfl) (by simp only [go_sem, seval, ag_]) (fun h31 => ?_) (fun h31 => ?_)
     ·refine .seq (.rgn [] (by simp only [go_sem, seval, ag_]; rfl) ?_ ?_)
      ·first | trivial | simp
      refine .ret ⟨.inr rfl, ?_⟩
      exact Out.plain (by simp only [Tryz.results23]; rfl) (by simp only [ax_, bj_, go_sem, seval, ag_] <;> (split <;> rfl)) (by simp only [bi_, go_sem, seval, ag_] <;> (simp at h9 h14 h19 h25 h31; simp [il_, h31])) (by simp only [go_sem, seval, ag_])
     ·refine .skip (.seq (.rgn [] (by simp only [go_sem, seval, ag_]; rfl) ?_ ?_))
      ·first | trivial | simp
      refine .ret ⟨.inr rfl, ?_⟩
      exact Out.plain (by simp only [Tryz.results23]; rfl) (by simp only [ax_, bj_, go_sem, seval, ag_] <;> (split <;> rfl)) (by simp only [bi_, go_sem, seval, ag_] <;> (simp at h9 h14 h19 h25 h31; simp [il_, h9, h14, h19, h25, h31])) (by simp only [go_sem, seval, ag_])
/-! lists -/
end
section
open Go.ChangeShapes Go.WideShapes Go.ChangeAt Go.RowKit
set_option maxRecDepth 100000
section
variable {H : Type} {enc : TypeId × Value → H} {W : World}
theorem abm_ : Tryz.prog.cellsOf 46 = 11 := by kernel_rfl
theorem abc_ (s : Sl) : (sC s).all V.one = true := by rw [ag_]; rfl
theorem yh_ : ∀ fuel, Opn enc Tryz.prog W fuel 46 fun vs => ∃ s, vs = sC s ∧ bdS s = true := by
 intro fuel cs x h
 obtain ⟨hl, _, ⟨k, rfl, _⟩, u0, o0⟩ := c2_ Tryz.underlying46 h (i := 0) rfl rfl ja_ fun n _ => lm_ Tryz.underlying3
 obtain ⟨_, _, ⟨s, rfl, hs⟩, u1, o1⟩ := c2_ Tryz.underlying46 h (i := 1) rfl rfl in_ fun n _ => lj_ Tryz.underlying9
 obtain ⟨_, _, ⟨t, rfl, ht⟩, u2, o2⟩ := c2_ Tryz.underlying46 h (i := 2) rfl rfl in_ fun n _ => lj_ Tryz.underlying9
 obtain ⟨_, _, ⟨e1, rfl, b1⟩, u3, o3⟩ := c2_ Tryz.underlying46 h (i := 3) rfl rfl hu_ fun n _ => ji_ n
 obtain ⟨_, _, ⟨e2, rfl, b2⟩, u4, o4⟩ := c2_ Tryz.underlying46 h (i := 4) rfl rfl hu_ fun n _ => ji_ n
 rw [abm_] at hl
 have hm : maxLen = 9223372036854775807 := by decide
 refine ⟨_, ⟨⟨k, s, t, e1, e2⟩, rfl, by simp only [bdS, b1, b2, Bool.and_true, T5_, T3_]; omega⟩, ?_, abc_ _⟩
 have := di_ u0 rfl (di_ u1 rfl (di_ u2 rfl (di_ u3 rfl (mh_ u4 hl))))
 simpa [sC] using this
theorem x8_ {r : Reach} {base : Nat} {v0 : Value} {d0 : DataW H} {p : List MemPlace} (hv : Value.okWide Tryz.prog W r base 46 v0) (h0 : DataW.Trod enc Tryz.prog W 0 (fun _ => true) true 46 v0 d0 p) :
  ∃ s : Sl, bdS s = true ∧ VR (fun _ => none) (fun _ => True) W (.ag (sC s)) v0 := by
 obtain ⟨fuel, h⟩ := h0
 obtain ⟨_, ⟨s, rfl, hs⟩, hr, _⟩ := yh_ fuel _ _ h
 obtain ⟨xs, rfl, _⟩ := okWide_struct Tryz.underlying46 hv
 refine ⟨s, hs, ?_⟩
 simp only [VR]
 exact ⟨xs, rfl, by simpa [Value.cells] using hr⟩
end
end
end Go.Proofs.YtcigkafioinfoaaGreatDoor
