/- What the library's functions answer: strconv.Atoi, strings.Contains; numbers. Conditions: none. -/
import Derived.Test.YtefmbmafdgedmaaGreatDoorKf
import Derived.Test.YtefmbmafdgedmaaGreatDoorKg
import Derived.Test.YtefmbmafdgedmaaGreatDoorKh
import Derived.Test.YtefmbmafdgedmaaGreatDoorKd
set_option linter.unusedVariables false
set_option linter.unusedSimpArgs false
namespace Go.Proofs.YtefmbmafdgedmaaGreatDoor
section
open Go.RowKit
set_option maxRecDepth 100000
set_option maxHeartbeats 1000000
theorem errU : En.P.underlying 170 = some (.interface (En.P.methodsAt 170)) := by kernel_rfl
def jc_ (o : Option Int) : V := match o with | some n => .i .i64 n | none => .no
def hk_ (s : Str) : Option Int := match Lib.atoiAll s with | .ok v => some v | _ => none
theorem aap_ (s : Str) (hs : s.length ≤ 281474976710656) : ACall En 204 [.s s] [] [jc_ (hk_ s), ifV (hk_ s).isSome] [] := by
 refine iy_ (fn := Tryz.f204) Tryz.func204 rfl rfl fun S w xs hx _ ⟨B, hB, _⟩ => ?_
 simp only [VRs, VR] at hx
 obtain ⟨x, r, e1, rfl, rfl⟩ := hx
 obtain rfl : xs = #[.string ⟨s.toArray⟩] := by apply Array.ext'; simpa using e1
 have hsz : (⟨s.toArray⟩ : ByteArray).size ≤ 281474976710656 := by simpa [ByteArray.size] using hs
 have hd : (⟨s.toArray⟩ : ByteArray).data.toList = s := by simp
 cases h : Lib.atoiAll s with
 | ok v =>
  have ho : hk_ s = some v := by simp [hk_, h]
  refine (Tryz.strconv_Atoi_ok ⟨s.toArray⟩ (by omega) v (by rw [hd]; exact h) w).mono ?_
  rintro e w' ⟨rfl, hw⟩
  refine ⟨[.int .i64 v, .nilIface], rfl, ?_, ?_⟩
  ·rcases hw with rfl | ⟨t, rfl⟩
   ·exact Below.refl _ _
   ·exact Lib.bytesWorld_below _ _ _
  ·rw [ho]; exact .cons (by simp only [jc_, VR]) (.cons (by simp [ifV, VR]) .nil)
 | range =>
  have ho : hk_ s = none := by simp [hk_, h]
  obtain ⟨tp, p, hv⟩ := hB.rng
  refine (Any.strconv_Atoi_range_var Tryz.laysC172 ⟨s.toArray⟩ hsz (by rw [hd]; exact h) tp p w hv).mono ?_
  rintro e w' ⟨N, rfl, _, _, hb⟩
  exact ⟨[_, _], rfl, hb, by rw [ho]; exact .cons (by simp only [jc_, VR]) (.cons (by simp [ifV, VR]) .nil)⟩
 | _ =>
  have ho : hk_ s = none := by simp [hk_, h]
  obtain ⟨tp, p, hv⟩ := hB.syn
  refine (Any.strconv_Atoi_syntax_var Tryz.laysC172 ⟨s.toArray⟩ hsz (by rw [hd]; exact h) tp p w hv).mono ?_
  rintro e w' ⟨N, rfl, _, _, hb⟩
  exact ⟨[_, _], rfl, hb, by rw [ho]; exact .cons (by simp only [jc_, VR]) (.cons (by simp [ifV, VR]) .nil)⟩
def hx_ (s : Str) : V := if cw_ s then .i .i64 (b9_ s) else .no
theorem cf_ (s : Str) : (hx_ s).pure = true := by unfold hx_; split <;> rfl
theorem dq_ (s : Str) : peel (hx_ s) = hx_ s := by unfold hx_; split <;> rfl
theorem c0_ (s : Str) : d6_ (hx_ s) = true := by unfold hx_; split <;> rfl
theorem abb_ (v : V) : leV v .no = True := by cases v <;> simp only [leV]
theorem us_ : ∀ (l : Str) (c : UInt8), -1 ≤ Lib.indexByte l c
 | [], _ => by simp [Lib.indexByte]
 | b :: l, c => by
  have := us_ l c
  simp only [Lib.indexByte]
  split
  ·decide
  ·split <;> omega
theorem q2_ : ∀ (l : Str) (c : UInt8), 0 ≤ Lib.indexByte l c ↔ c ∈ l
 | [], _ => by simp [Lib.indexByte]
 | b :: l, c => by
  have h1 := us_ l c
  have h2 := q2_ l c
  rw [List.mem_cons, ← h2, Lib.indexByte]
  by_cases hb : b = c
  ·subst hb; rw [if_pos (beq_self_eq_true b)]; exact ⟨fun _ => .inl rfl, fun _ => Int.le_refl _⟩
  ·rw [if_neg (by simpa using hb)]
   by_cases hc : Lib.indexByte l c = -1
   ·rw [if_pos (by rw [hc]; rfl), hc]; exact ⟨fun h => absurd h (by decide), fun h => h.elim (fun e => absurd e.symm hb) id⟩
   ·rw [if_neg (by simpa using hc)]; exact ⟨fun h => .inr (by omega), fun h => h.elim (fun e => absurd e.symm hb) (fun h => by omega)⟩
theorem h2_ (l : Str) (c : UInt8) : decide (0 ≤ Lib.indexByte l c) = l.contains c := by
 rw [List.contains_eq_mem]; exact decide_eq_decide.2 (q2_ l c)
theorem zh_ (s : Str) (hs : s.length ≤ 281474976710656) (h : hk_ s = none) : ACall En 163 [.s s] [] [hx_ s, .b (cw_ s)] [] := by
 have A := aap_ s hs
 rw [h] at A
 have hn : cw_ s = false := aax_ fun v hv => by simp [hk_, hv] at h
 refine aq_ (fn := Tryz.f163) [] Tryz.func163 rfl rfl (by simp) fun C => ?_
 rw [bb_]
 simp only [Tryz.ntmps163, T7_, List.length_nil, Nat.reduceAdd, Nat.reduceSub, List.replicate_succ, List.replicate_zero, List.cons_append, List.nil_append, bl_]
 refine .seq (.rgn [] (by simp only [go_sem, seval, jc_, Option.isSome_none, cf_]; rfl) ?_ ?_)
 ·first | trivial | simp
 refine .seq (.rgn [bj_ A] (by simp only [go_sem, seval, jc_, Option.isSome_none, cf_]; rfl) ?_ ?_)
 ·first | trivial | simp
 refine .seq (.rgnS [13] [ifO En 170 false errU, bj_ (in_a 0 0 1000000), bj_ (t3_ 0 (by decide) (by decide))] (by simp only [go_sem, seval, jc_, Option.isSome_none, cf_]; rfl) ?_ ?_)
 ·first | trivial | simp
 refine .ret ⟨.inr rfl, ?_⟩
 exact Out.plainL (by simp only [Tryz.results163]; rfl) (by simp only [a4_, bh_, go_sem, seval, jc_, Option.isSome_none, cf_] <;> (split <;> rfl)) (by simp only [bg_, go_sem, seval, jc_, Option.isSome_none, cf_] <;> (simp [hn, hx_, abb_])) (by simp only [go_sem, seval, jc_, Option.isSome_none, cf_])
theorem zd_ (s : Str) (hs : s.length ≤ 281474976710656) {v : Int} (h : hk_ s = some v) : ACall En 163 [.s s] [] [hx_ s, .b (cw_ s)] [] := by
 have A := aap_ s hs
 rw [h] at A
 have hv : Lib.atoiAll s = .ok v := by
  unfold hk_ at h
  split at h
  ·rename_i v' hv'; cases h; exact hv'
  ·cases h
 refine aq_ (fn := Tryz.f163) [] Tryz.func163 rfl rfl (by simp) fun C => ?_
 rw [bb_]
 simp only [Tryz.ntmps163, T7_, List.length_nil, Nat.reduceAdd, Nat.reduceSub, List.replicate_succ, List.replicate_zero, List.cons_append, List.nil_append, bl_]
 refine .seq (.rgn [] (by simp only [go_sem, seval, jc_, Option.isSome_some, cf_]; rfl) ?_ ?_)
 ·first | trivial | simp
 refine .seq (.rgn [bj_ A] (by simp only [go_sem, seval, jc_, Option.isSome_some, cf_]; rfl) ?_ ?_)
 ·first | trivial | simp
 refine .seq (.rgnS [13] [ifO En 170 true errU, bj_ (in_a v 0 1000000), ef_ (0 ≤ v ∧ v ≤ 1000000) (fun h => t3_ v (by omega) (by omega))] (by simp only [go_sem, seval, jc_, Option.isSome_some, cf_]; rfl) ?_ ?_)
 ·first | trivial | simp
 refine .ret ⟨.inr rfl, ?_⟩
 exact Out.plainL (by simp only [Tryz.results163]; rfl) (by simp only [a4_, bh_, go_sem, seval, jc_, Option.isSome_some, cf_] <;> (split <;> rfl)) (by simp only [bg_, go_sem, seval, jc_, Option.isSome_some, cf_] <;> (have k := acn_ hv; cases hn : cw_ s; (simp only [hn] at k; simp only [hx_, hn]; refine ⟨?_, ?_⟩; (simp only [Bool.false_eq_true, if_false]; rw [abb_]; trivial); simpa using k); (have hv2 := yz_ hv hn; simp only [hx_, hn, if_true]; rw [← hv2]; simp only [hn] at k; simp only [g4_]; simpa using k))) (by simp only [go_sem, seval, jc_, Option.isSome_some, cf_])
theorem m5_ (s : Str) (hs : s.length ≤ 281474976710656) : ACall En 163 [.s s] [] [hx_ s, .b (cw_ s)] [] := by
 cases h : hk_ s with
 | none => exact zh_ s hs h
 | some v => exact zd_ s hs h
theorem l8_ (s : Str) (c : UInt8) : ACall En 164 [.s s, .s [c]] [] [.b (s.contains c)] [] := by
 refine iy_ (fn := Tryz.f164) Tryz.func164 rfl rfl fun S w xs hx _ ⟨B, hB, _⟩ => ?_
 simp only [VRs, VR] at hx
 obtain ⟨x, r, e1, rfl, y, q, rfl, rfl, rfl⟩ := hx
 obtain rfl : xs = #[.string ⟨s.toArray⟩, .string ⟨#[c]⟩] := by apply Array.ext'; simpa using e1
 refine (Tryz.strings_Contains_one ⟨s.toArray⟩ c w).mono ?_
 rintro e w' ⟨rfl, rfl⟩
 refine ⟨[_], rfl, Below.refl _ _, .cons ?_ .nil⟩
 simp only [VR]
 rw [← h2_]
end
section
set_option maxRecDepth 100000
set_option maxHeartbeats 4000000
theorem x4_ (s : Str) (hs : s.length ≤ 281474976710656) : ACall En 104 [.i .i64 2, .s s] [] [.b (cw_ s)] [] := by
 refine aq_ (fn := Tryz.f104) [] Tryz.func104 rfl rfl (by simp) fun C => ?_
 rw [bb_]
 simp only [Tryz.ntmps104, T7_, List.length_nil, Nat.reduceAdd, Nat.reduceSub, List.replicate_succ, List.replicate_zero, List.cons_append, List.nil_append, bl_]
 refine .seq (.rgn [] (by simp only [go_sem, seval, cf_, dq_, c0_]; rfl) ?_ ?_)
 ·first | trivial | simp
 refine .seq (.seq (.rgn [] (by simp only [go_sem, seval, cf_, dq_, c0_]; rfl) ?_ ?_))
 ·first | trivial | simp
 refine .block (.seq (.rgn [] (by simp only [go_sem, seval, cf_, dq_, c0_]; rfl) ?_ ?_))
 ·first | trivial | simp
 refine .condB (by simp only [go_sem, seval, cf_, dq_, c0_]; rfl) (by simp only [go_sem, seval, cf_, dq_, c0_]) (fun h8 => ?_) (fun h8 => ?_)
 ·exact absurd h8 (by simp)
 ·refine .seq (.rgn [] (by simp only [go_sem, seval, cf_, dq_, c0_]; rfl) ?_ ?_)
  ·first | trivial | simp
  refine .condB (by simp only [go_sem, seval, cf_, dq_, c0_]; rfl) (by simp only [go_sem, seval, cf_, dq_, c0_]) (fun h20 => ?_) (fun h20 => ?_)
  ·refine .seq (.rgn [bj_ (m5_ s hs)] (by simp only [go_sem, seval, cf_, dq_, c0_]; rfl) ?_ ?_)
   ·first | trivial | simp
   refine .seq (.rgn [] (by simp only [go_sem, seval, cf_, dq_, c0_]; rfl) ?_ ?_)
   ·first | trivial | simp
   refine .ret ⟨.inr rfl, ?_⟩
   exact Out.plain (by simp only [Tryz.results104]; rfl) (by simp only [a4_, bh_, go_sem, seval, cf_, dq_, c0_] <;> (split <;> rfl)) (by simp only [bg_, go_sem, seval, cf_, dq_, c0_] <;> (rfl)) (by simp only [go_sem, seval, cf_, dq_, c0_])
  ·exact absurd h20 (by simp)
theorem tw_ (c : UInt8) : ACall En 104 [.i .i64 3, .s [c]] [] [.b (fj_ [c])] [] := by
 refine aq_ (fn := Tryz.f104) [] Tryz.func104 rfl rfl (by simp) fun C => ?_
 rw [bb_]
 simp only [Tryz.ntmps104, T7_, List.length_nil, Nat.reduceAdd, Nat.reduceSub, List.replicate_succ, List.replicate_zero, List.cons_append, List.nil_append, bl_]
 refine .seq (.rgn [] (by simp only [go_sem, seval]; rfl) ?_ ?_)
 ·(first | trivial | (simp [marks]; done))
 refine .seq (.seq (.rgn [] (by simp only [go_sem, seval]; rfl) ?_ ?_))
 ·(first | trivial | (simp [marks]; done))
 refine .block (.seq (.rgn [] (by simp only [go_sem, seval]; rfl) ?_ ?_))
 ·(first | trivial | (simp [marks]; done))
 refine .condB (by simp only [go_sem, seval]; rfl) (by simp only [go_sem, seval]) (fun h8 => ?_) (fun h8 => ?_)
 ·exact absurd h8 (by simp)
 ·refine .seq (.rgn [] (by simp only [go_sem, seval]; rfl) ?_ ?_)
  ·(first | trivial | (simp [marks]; done))
  refine .condB (by simp only [go_sem, seval]; rfl) (by simp only [go_sem, seval]) (fun h20 => ?_) (fun h20 => ?_)
  ·exact absurd h20 (by simp)
  ·refine .seq (.rgn [] (by simp only [go_sem, seval]; rfl) ?_ ?_)
   ·(first | trivial | (simp [marks]; done))
   refine .condB (by simp only [go_sem, seval]; rfl) (by simp only [go_sem, seval]) (fun h28 => ?_) (fun h28 => ?_)
   ·refine .seq (.rgn [bj_ (l8_ marks c)] (by simp only [go_sem, seval]; rfl) ?_ ?_)
    ·(first | trivial | (simp [marks]; done))
    refine .ret ⟨.inr rfl, ?_⟩
    exact Out.plain (by simp only [Tryz.results104]; rfl) (by simp only [a4_, bh_, go_sem, seval] <;> (split <;> rfl)) (by simp only [bg_, go_sem, seval] <;> (simp [fj_])) (by simp only [go_sem, seval])
   ·exact absurd h28 (by simp)
theorem tu_ (s : Str) (h : s.length ≠ 1) : ACall En 104 [.i .i64 3, .s s] [] [.b (fj_ s)] [] := by
 have h2 : ((s.length : Int) == 1) = false := by simpa using (show ¬ (s.length : Int) = 1 by omega)
 refine aq_ (fn := Tryz.f104) [] Tryz.func104 rfl rfl (by simp) fun C => ?_
 rw [bb_]
 simp only [Tryz.ntmps104, T7_, List.length_nil, Nat.reduceAdd, Nat.reduceSub, List.replicate_succ, List.replicate_zero, List.cons_append, List.nil_append, bl_]
 refine .seq (.rgn [] (by simp only [go_sem, seval]; rfl) ?_ ?_)
 ·(first | trivial | (simp [h2]; done))
 refine .seq (.seq (.rgn [] (by simp only [go_sem, seval]; rfl) ?_ ?_))
 ·(first | trivial | (simp [h2]; done))
 refine .block (.seq (.rgn [] (by simp only [go_sem, seval]; rfl) ?_ ?_))
 ·(first | trivial | (simp [h2]; done))
 refine .condB (by simp only [go_sem, seval]; rfl) (by simp only [go_sem, seval]) (fun h8 => ?_) (fun h8 => ?_)
 ·exact absurd h8 (by simp)
 ·refine .seq (.rgn [] (by simp only [go_sem, seval]; rfl) ?_ ?_)
  ·(first | trivial | (simp [h2]; done))
  refine .condB (by simp only [go_sem, seval]; rfl) (by simp only [go_sem, seval]) (fun h20 => ?_) (fun h20 => ?_)
  ·exact absurd h20 (by simp)
  ·refine .seq (.rgn [] (by simp only [go_sem, seval]; rfl) ?_ ?_)
   ·(first | trivial | (simp [h2]; done))
   refine .condB (by simp only [go_sem, seval]; rfl) (by simp only [go_sem, seval]) (fun h28 => ?_) (fun h28 => ?_)
   ·refine .seq (.rgn [bj_ (l8_ marks 0)] (by simp only [go_sem, seval]; rfl) ?_ ?_)
    ·(first | trivial | (simp [h2]; done))
    refine .ret ⟨.inr rfl, ?_⟩
    exact Out.plain (by simp only [Tryz.results104]; rfl) (by simp only [a4_, bh_, go_sem, seval] <;> (split <;> rfl)) (by simp only [bg_, go_sem, seval] <;> (simp [fj_, h, h2])) (by simp only [go_sem, seval])
   ·exact absurd h28 (by simp)
def nw_ (k : Int) (s : Str) : Bool := if k = 1 then e6_ s else if k = 2 then cw_ s else fj_ s
theorem acy_ (k : Int) (hk : k = 1 ∨ k = 2 ∨ k = 3) (s : Str) (hs : s.length ≤ 281474976710656) : ACall En 104 [.i .i64 k, .s s] [] [.b (nw_ k s)] [] := by
 rcases hk with rfl | rfl | rfl
 ·exact s1_ s (by omega)
 ·exact x4_ s hs
 ·by_cases h : s.length = 1
  ·obtain ⟨c, rfl⟩ := List.length_eq_one_iff.1 h
   exact tw_ c
  ·exact tu_ s h
theorem na_ (s : Str) : dg_ s = if nw_ 1 s then 1 else if nw_ 2 s then 2 else if nw_ 3 s then 3 else 0 := rfl
theorem xb_ (s : Str) (hs : s.length ≤ 281474976710656) : ACall En 53 [.s s] [] [.i .i64 (dg_ s)] [] := by
 refine aq_ (fn := Tryz.f53) [] Tryz.func53 rfl rfl (by simp) fun C => ?_
 rw [bb_]
 simp only [Tryz.ntmps53, T7_, List.length_nil, Nat.reduceAdd, Nat.reduceSub, List.replicate_succ, List.replicate_zero, List.cons_append, List.nil_append, bl_]
 refine .seq (.rgn [] (by simp only [go_sem, seval]; rfl) ?_ ?_)
 ·first | trivial | simp
 refine .seq (.seq (.rgn [] (by simp only [go_sem, seval]; rfl) ?_ ?_))
 ·first | trivial | simp
 refine .block (.loopK (fun k : Int => ⟨[.s s, .no, .no, .i .i64 k, .no, .no, .no, .no, .no, .no, .no, .no], be_ [], us []⟩) (fun k : Int => 1 ≤ k ∧ k ≤ 4 ∧ (1 < k → nw_ 1 s = false) ∧ (2 < k → nw_ 2 s = false) ∧ (3 < k → nw_ 3 s = false)) (fun k : Int => (4 - k).toNat) (1) ?_ ?_ (fun k hI => ?_))
 ·simp
 ·exact Can.weak (Weak.lit (by simp only [go_sem, seval, a2_, leV, az_, a0_, V.inn, us, T9_, Ta_] <;> (simp)) (by simp only [go_sem, seval, a2_, leV, az_, a0_, V.inn, us, T9_, Ta_]) (by simp only [go_sem, seval, a2_, leV, az_, a0_, V.inn, us, T9_, Ta_]))
 refine .seq (.seq (.rgn [] (by simp only [go_sem, seval]; rfl) ?_ ?_))
 ·first | trivial | simp
 refine .condB (by simp only [go_sem, seval]; rfl) (by simp only [go_sem, seval]) (fun h5 => ?_) (fun h5 => ?_)
 ·refine .skip (.seq (.block (.seq (.rgn [ef_ (k = 1 ∨ k = 2 ∨ k = 3) (fun h => acy_ k h s hs)] (by simp only [go_sem, seval]; rfl) ?_ ?_))))
  ·simp at h5; omega
  refine .condB (by simp only [go_sem, seval]; rfl) (by simp only [go_sem, seval]) (fun h10 => ?_) (fun h10 => ?_)
  ·refine .seq (.rgn [] (by simp only [go_sem, seval]; rfl) ?_ ?_)
   ·first | trivial | simp
   refine .ret ⟨.inr rfl, ?_⟩
   exact Out.plain (by simp only [Tryz.results53]; rfl) (by simp only [a4_, bh_, go_sem, seval] <;> (split <;> rfl)) (by simp only [bg_, go_sem, seval] <;> (simp at h5; (have hk : k = 1 ∨ k = 2 ∨ k = 3 := by omega); rw [na_]; rcases hk with rfl | rfl | rfl <;> simp_all)) (by simp only [go_sem, seval])
  ·refine .skip (.rgn [] (by simp only [go_sem, seval]; rfl) ?_ ?_)
   ·first | trivial | simp
   refine Exists.intro (k + 1) ⟨?_, ?_, ?_⟩
   ·simp at h5; (have hk : k = 1 ∨ k = 2 ∨ k = 3 := by omega); rcases hk with rfl | rfl | rfl <;> simp_all
   ·simp at h5; omega
   exact Can.weak (Weak.lit (by simp only [go_sem, seval, a2_, leV, az_, a0_, V.inn, us, T9_, Ta_] <;> (rw [bt_ (by omega) (by omega)])) (by simp only [go_sem, seval, a2_, leV, az_, a0_, V.inn, us, T9_, Ta_]) (by simp only [go_sem, seval, a2_, leV, az_, a0_, V.inn, us, T9_, Ta_]))
 ·refine .exit (.seq (.rgn [] (by simp only [go_sem, seval]; rfl) ?_ ?_))
  ·first | trivial | simp
  refine .ret ⟨.inr rfl, ?_⟩
  exact Out.plain (by simp only [Tryz.results53]; rfl) (by simp only [a4_, bh_, go_sem, seval] <;> (split <;> rfl)) (by simp only [bg_, go_sem, seval] <;> (simp at h5; (have hk : k = 4 := by omega); subst hk; simp_all [na_])) (by simp only [go_sem, seval])
def tkR (l : List Tk) : List (List V) := l.map fun t => [.i .i64 t.kind, .s t.s, .i .i64 t.col]
theorem ay_ (l : List Tk) : (tkR l).length = l.length := by simp [tkR]
theorem at_ : ∀ l : List Tk, cr_ (tkR l) = true
 | [] => rfl
 | _ :: r => by show (dp_ [_, _, _] && cr_ (tkR r)) = true; rw [at_ r]; rfl
theorem nu_ (l : List Tk) (t : Tk) : tkR (l ++ [t]) = tkR l ++ [[.i .i64 t.kind, .s t.s, .i .i64 t.col]] := by simp [tkR]
theorem aa0_ (l : List Tk) : (∀ r, r ∈ tkR l → r.length = 3) = True := eq_true fun r hr => by obtain ⟨t, _, rfl⟩ := List.mem_map.1 hr; rfl
theorem v5_ {l : List Tk} {k : Nat} (h : k < l.length) : (tkR l).getD k [] = [.i .i64 (l.getD k ⟨0, [], 0⟩).kind, .s (l.getD k ⟨0, [], 0⟩).s, .i .i64 (l.getD k ⟨0, [], 0⟩).col] := by
 simp [tkR, T8_, T6_ h]
theorem xj_ (l : List Tk) (n : Nat) (hn : n = l.length) (hl : l.length < 1099511627776) : ACall En 54 [.ow 0 3 0 n] [⟨40, 3, tkR l⟩] [.ow 0 3 0 n] [⟨40, 3, tkR l⟩] := by
 refine aq_ (fn := Tryz.f54) [0] Tryz.func54 rfl rfl (by simp) fun C => ?_
 rw [bb_]
 simp only [Tryz.ntmps54, T7_, List.length_nil, Nat.reduceAdd, Nat.reduceSub, List.replicate_succ, List.replicate_zero, List.cons_append, List.nil_append, bl_]
 refine .seq (.rgn [] (by simp only [go_sem, seval, at_]; rfl) ?_ ?_)
 ·subst hn; simp [ay_]
 refine .seq (.rgn [] (by simp only [go_sem, seval, at_]; rfl) ?_ ?_)
 ·subst hn; simp [ay_]
 refine .ret ⟨.inr rfl, ?_⟩
 exact Out.mem' (by simp only [Tryz.results54]; rfl) (by simp only [a4_, bh_, go_sem, seval, at_]) (by simp only [bg_, rns, rn, go_sem, seval, at_] <;> (simp)) (by simp) rfl (by decide) (by simp only [go_sem, seval, at_]) (by simp only [ax_, go_sem, seval, at_]) (by simp only [ao_, go_sem, seval, at_] <;> (simp [c8_, at_]))
theorem m0_ {l : Str} {k : Nat} (h : k < l.length) (col : Int) : e5_ (l.drop k).length (l.drop k) col =
  if l.getD k 0 = 32 then e5_ (l.drop (k + 1)).length (l.drop (k + 1)) (col + 1)
  else if dg_ ((l.drop k).take (ea_ (l.drop k))) = 0 then none
  else (e5_ (l.drop (k + ea_ (l.drop k))).length (l.drop (k + ea_ (l.drop k))) (col + ea_ (l.drop k))).map (⟨dg_ ((l.drop k).take (ea_ (l.drop k))), (l.drop k).take (ea_ (l.drop k)), col⟩ :: ·) := by
 have e : l.drop k = l.getD k 0 :: l.drop (k + 1) := by
  rw [List.drop_eq_getElem_cons h, T8_, T6_ h]; rfl
 have h2 := i7_ (l.getD k 0) (l.drop (k + 1)) col
 rw [← e, List.drop_drop] at h2
 exact h2
theorem he_ {l : Str} {k : Nat} (h : k < l.length) : l.getD k 0 = 32 ↔ ((l.getD k 0).toNat : Int) = 32 := by
 constructor
 ·intro e; rw [e]; rfl
 ·intro e; apply UInt8.toNat_inj.1; show _ = 32; omega
theorem xa_ {s : Str} {k : Nat} (h : k < s.length) : 1 ≤ ea_ (s.drop k) ∧ k + ea_ (s.drop k) ≤ s.length := by
 have h1 := kj_ (s.drop k)
 have h2 := abj_ (l := s.drop k) (fun e => by have := congrArg List.length e; rw [List.length_drop] at this; simp only [List.length_nil] at this; omega)
 rw [List.length_drop] at h2
 omega
theorem nm_ (s : Str) (k w : Nat) : (s.take (k + w)).drop k = (s.drop k).take w := by rw [List.drop_take, Nat.add_sub_cancel_left]
theorem aee_ (r : Str) : (if ((r.takeWhile ct_).length : Int) > (if ((r.takeWhile cz_).length : Int) > 1 then ((r.takeWhile cz_).length : Int) else 1) then ((r.takeWhile ct_).length : Int) else (if ((r.takeWhile cz_).length : Int) > 1 then ((r.takeWhile cz_).length : Int) else 1)) = (ea_ r : Int) := by
 unfold ea_
 split <;> split at * <;> omega
theorem kx_ {s : Str} (h : 120 < s.length) : ch_ s = none := by rw [ch_, if_pos h]
theorem gq_ {s : Str} (h : s.length ≤ 120) : ch_ s = e5_ s.length s 0 := by rw [ch_, if_neg (by omega)]
theorem pv_ {s : Str} {k : Nat} (h : s.length ≤ k) (c : Int) : e5_ (s.drop k).length (s.drop k) c = some [] := by rw [List.drop_of_length_le h]; rfl
theorem w6_ (s : Str) (hs : s.length ≤ 281474976710656) : ACall En 16 [.s s] [] [.sl false (tkR ((ch_ s).getD [])), .b (ch_ s).isSome] [] := by
 refine aq_ (fn := Tryz.f16) [] Tryz.func16 rfl rfl (by simp) fun C => ?_
 rw [bb_]
 simp only [Tryz.ntmps16, T7_, List.length_nil, Nat.reduceAdd, Nat.reduceSub, List.replicate_succ, List.replicate_zero, List.cons_append, List.nil_append, bl_]
 refine .seq (.rgn [] (by simp only [go_sem, seval, at_, ay_]; rfl) ?_ ?_)
 ·first | trivial | simp
 refine .seq (.seq (.rgn [] (by simp only [go_sem, seval, at_, ay_]; rfl) ?_ ?_))
 ·first | trivial | simp
 refine .condB (by simp only [go_sem, seval, at_, ay_]; rfl) (by simp only [go_sem, seval, at_, ay_]) (fun h10 => ?_) (fun h10 => ?_)
 ·refine .seq (.rgn [] (by simp only [go_sem, seval, at_, ay_]; rfl) ?_ ?_)
  ·first | trivial | simp
  refine .ret ⟨.inr rfl, ?_⟩
  exact Out.plainL (by simp only [Tryz.results16]; rfl) (by simp only [a4_, bh_, go_sem, seval, at_, ay_] <;> (split <;> rfl)) (by simp only [bg_, go_sem, seval, at_, ay_] <;> (simp at h10; rw [kx_ (by omega)]; simp [tkR, ler])) (by simp only [go_sem, seval, at_, ay_])
 ·refine .skip (.seq (.rgn [] (by simp only [go_sem, seval, at_, ay_]; rfl) ?_ ?_))
  ·first | trivial | simp
  refine .seq (.seq (.rgn [] (by simp only [go_sem, seval, at_, ay_]; rfl) ?_ ?_))
  ·first | trivial | simp
  refine .block (.loopK (fun k : Nat × List Tk => ⟨[.s s, .no, .no, .no, .ow 20 3 0 k.2.length, .i .i64 k.1, .no, .no, .no, .no, .no, .no, .no, .no, .no, .no, .no, .no, .no, .no, .no, .no, .no, .no, .no, .no, .no, .no, .no, .no, .no, .no, .no, .no, .no, .no, .no, .no, .no, .no, .no, .no, .no, .no, .no, .no, .no, .no, .no, .no, .no, .no, .no, .no, .no, .no, .no], be_ [(20, ⟨40, 3, tkR k.2⟩)], us [20]⟩) (fun k : Nat × List Tk => k.1 ≤ s.length ∧ s.length ≤ 120 ∧ k.2.length ≤ k.1 ∧ e5_ s.length s 0 = (e5_ (s.drop k.1).length (s.drop k.1) k.1).map (k.2 ++ ·)) (fun k : Nat × List Tk => s.length - k.1) ((0, [])) ?_ ?_ (fun k hI => ?_))
  ·simp at h10; simp; omega
  ·refine Can.trans (Can.ownSlot 4 20 40 3 (by simp only [go_sem, seval, at_, ay_] <;> rfl) (by simp only [go_sem, seval, at_, ay_]) (by simp only [go_sem, seval, at_, ay_] <;> rfl)) ?_
   exact Can.weak (Weak.lit (by simp only [go_sem, seval, at_, ay_, a2_, leV, az_, a0_, V.inn, us, T9_, Ta_] <;> (rfl)) (by simp only [go_sem, seval, at_, ay_, a2_, leV, az_, a0_, V.inn, us, T9_, Ta_]) (by simp only [go_sem, seval, at_, ay_, a2_, leV, az_, a0_, V.inn, us, T9_, Ta_] <;> (rfl)))
  refine .seq (.seq (.rgn [] (by simp only [go_sem, seval, at_, ay_]; rfl) ?_ ?_))
  ·first | trivial | simp
  refine .condB (by simp only [go_sem, seval, at_, ay_]; rfl) (by simp only [go_sem, seval, at_, ay_]) (fun h14 => ?_) (fun h14 => ?_)
  ·refine .skip (.block (.seq (.seq (.rgn [] (by simp only [go_sem, seval, at_, ay_]; rfl) ?_ ?_))))
   ·simp at h14; simp; exact h14
   refine .condB (by simp only [go_sem, seval, at_, ay_]; rfl) (by simp only [go_sem, seval, at_, ay_]) (fun h18 => ?_) (fun h18 => ?_)
   ·refine .seq (.rgn [] (by simp only [go_sem, seval, at_, ay_]; rfl) ?_ ?_)
    ·first | trivial | simp
    refine .exit ?_
    refine Exists.intro ((k.1 + 1, k.2)) ⟨?_, ?_, ?_⟩
    ·simp only [T3_] at h14; simp only [beq_iff_eq] at h18; obtain ⟨i1, i2, i3, i4⟩ := hI; have e := m0_ (show k.1 < s.length by omega) k.1; rw [if_pos ((he_ (by omega)).2 h18)] at e; exact ⟨by dsimp only; omega, i2, by dsimp only; omega, by rw [i4, e]; rfl⟩
    ·simp only [T3_] at h14; dsimp only; omega
    exact Can.weak (Weak.lit (by simp only [go_sem, seval, at_, ay_, a2_, leV, az_, a0_, V.inn, us, T9_, Ta_] <;> (rw [bt_ (by omega) (by omega)]; rfl)) (by simp only [go_sem, seval, at_, ay_, a2_, leV, az_, a0_, V.inn, us, T9_, Ta_]) (by simp only [go_sem, seval, at_, ay_, a2_, leV, az_, a0_, V.inn, us, T9_, Ta_]))
   ·refine .skip (.seqJ (fun u : Unit => ⟨[.s s, .no, .no, .no, .ow 20 3 0 k.2.length, .i .i64 k.1, .i .i64 (ea_ (s.drop k.1)), .no, .no, .no, .no, .no, .no, .no, .no, .no, .no, .no, .no, .no, .no, .no, .no, .no, .no, .no, .no, .no, .no, .no, .no, .no, .no, .no, .no, .no, .no, .no, .no, .no, .no, .no, .no, .no, .no, .no, .no, .no, .no, .no, .no, .no, .no, .no, .no, .no, .no], be_ [(20, ⟨40, 3, tkR k.2⟩)], us [20]⟩) (fun u : Unit => True) ?_ (fun u hJ => ?_))
    ·refine .rgnDS [29] [bj_ (yc_ cz_ 51 n2_ (s.drop k.1) (by simp; omega)), bj_ (yc_ ct_ 52 wv_ (s.drop k.1) (by simp; omega)), maxO En] enM (by simp only [go_sem, seval, at_, ay_]; rfl) (by rfl) ?_ ?_
     ·simp at h14; simp; omega
     refine Exists.intro (()) ⟨?_, ?_⟩
     ·trivial
     exact Can.weak (Weak.lit (by simp only [go_sem, seval, at_, ay_, a2_, leV, az_, a0_, V.inn, us, T9_, Ta_] <;> (rw [aee_])) (by simp only [go_sem, seval, at_, ay_, a2_, leV, az_, a0_, V.inn, us, T9_, Ta_]) (by simp only [go_sem, seval, at_, ay_, a2_, leV, az_, a0_, V.inn, us, T9_, Ta_]))
    refine .seq (.rgnD [bj_ (xb_ ((s.drop k.1).take (ea_ (s.drop k.1))) (by simp; omega))] enM (by simp only [go_sem, seval, at_, ay_, show IntKind.i64.wrap ((k.1 : Int) + (ea_ (s.drop k.1) : Int)) = ((k.1 + ea_ (s.drop k.1) : Nat) : Int) by (have := xa_ (show k.1 < s.length by simpa using h14); rw [bt_ (by omega) (by omega)]; rfl), nm_]; rfl) (by rfl) ?_ ?_)
    ·have h14' : k.1 < s.length := (by simpa using h14); have := xa_ h14'; simp [dh_]; omega
    refine .seq (.seq (.rgn [] (by simp only [go_sem, seval, at_, ay_]; rfl) ?_ ?_))
    ·first | trivial | simp
    refine .condB (by simp only [go_sem, seval, at_, ay_]; rfl) (by simp only [go_sem, seval, at_, ay_]) (fun h47 => ?_) (fun h47 => ?_)
    ·refine .seq (.rgn [] (by simp only [go_sem, seval, at_, ay_]; rfl) ?_ ?_)
     ·first | trivial | simp
     refine .ret ⟨.inr rfl, ?_⟩
     exact Out.plainL (by simp only [Tryz.results16]; rfl) (by simp only [a4_, bh_, go_sem, seval, at_, ay_] <;> (split <;> rfl)) (by simp only [bg_, go_sem, seval, at_, ay_] <;> (simp only [T3_] at h14; simp only [beq_eq_false_iff_ne] at h18; simp only [beq_iff_eq] at h47; have e := m0_ (show k.1 < s.length by omega) k.1; rw [if_neg (fun h => h18 ((he_ (by omega)).1 h)), if_pos h47] at e; rw [gq_ (by omega), hI.2.2.2, e]; simp [tkR, ler])) (by simp only [go_sem, seval, at_, ay_])
    ·refine .skip (.seq (.rgn [] (by simp only [go_sem, seval, at_, ay_]; rfl) ?_ ?_))
     ·simp [aa0_]; omega
     refine .rgn [] (by simp only [go_sem, seval, at_, ay_]; rfl) ?_ ?_
     ·first | trivial | simp
     refine Exists.intro ((k.1 + ea_ (s.drop k.1), k.2 ++ [⟨dg_ ((s.drop k.1).take (ea_ (s.drop k.1))), (s.drop k.1).take (ea_ (s.drop k.1)), k.1⟩])) ⟨?_, ?_, ?_⟩
     ·simp only [T3_] at h14; simp only [beq_eq_false_iff_ne] at h18 h47; obtain ⟨i1, i2, i3, i4⟩ := hI; have e := m0_ (show k.1 < s.length by omega) k.1; rw [if_neg (fun h => h18 ((he_ (by omega)).1 h)), if_neg h47] at e; have hb := xa_ (show k.1 < s.length by omega); exact ⟨by dsimp only; omega, i2, by simp only [T2_, List.length_singleton]; omega, by rw [i4, e, Option.map_map]; simp [Function.comp_def]⟩
     ·simp only [T3_] at h14; have hb := xa_ (show k.1 < s.length by omega); dsimp only; omega
     refine Can.trans (Can.swap 61 20 (by decide) (by decide) (by decide) (by decide) (by simp only [go_sem, seval, at_, ay_, V.cl]) (by simp only [go_sem, seval, at_, ay_, V.cl]) (by simp only [go_sem, seval, at_, ay_, ck_, sw, swM, rnB] <;> rfl) (by simp only [go_sem, seval, at_, ay_, ck_, sw, swM, rnB] <;> rfl) (by simp only [go_sem, seval, at_, ay_, ck_, sw, swM, rnB] <;> rfl)) ?_
     exact Can.weak (Weak.lit (by simp only [go_sem, seval, at_, ay_, a2_, leV, az_, a0_, V.inn, us, T9_, Ta_] <;> ((have hb := xa_ (show k.1 < s.length by simpa using h14)); rw [bt_ (by omega) (by omega)]; simp)) (by simp only [go_sem, seval, at_, ay_, a2_, leV, az_, a0_, V.inn, us, T9_, Ta_]) (by simp only [go_sem, seval, at_, ay_, a2_, leV, az_, a0_, V.inn, us, T9_, Ta_] <;> (rw [nu_])))
  ·refine .exit (.seq (.rgn [cu_ [20] [] (xj_ k.2 k.2.length rfl (by omega))] (by simp only [go_sem, seval, at_, ay_]; rfl) ?_ ?_))
   ·simp [ao_, ax_, at_]
   refine .frz 20 (by simp only [go_sem, seval, at_, ay_]; rfl) (by simp only [go_sem, seval, at_, ay_]) (by simp only [go_sem, seval, at_, ay_]; rfl) (by simp only [go_sem, seval, at_, ay_]; rfl) ?_
   refine .ret ⟨.inr rfl, ?_⟩
   exact Out.plainL (by simp only [Tryz.results16]; rfl) (by simp only [a4_, bh_, go_sem, seval, at_, ay_] <;> (split <;> rfl)) (by simp only [bg_, go_sem, seval, at_, ay_] <;> (simp only [T4_] at h14; rw [gq_ (by omega), hI.2.2.2, pv_ (by omega)]; simp [T1_, ay_, leV, bu_])) (by simp only [go_sem, seval, at_, ay_])
end
end Go.Proofs.YtefmbmafdgedmaaGreatDoor
