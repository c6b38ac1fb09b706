/- What the library's functions answer: strconv.Atoi, strings.Contains; numbers. Conditions: none. -/
import Derived.Test.YtpikbndepapbhaaGreatDoorKf
import Derived.Test.YtpikbndepapbhaaGreatDoorKg
import Derived.Test.YtpikbndepapbhaaGreatDoorKh
import Derived.Test.YtpikbndepapbhaaGreatDoorKd
set_option linter.unusedVariables false
set_option linter.unusedSimpArgs false
namespace Go.Proofs.YtpikbndepapbhaaGreatDoor
section
open Go.RowKit
set_option maxRecDepth 100000
set_option maxHeartbeats 1000000
theorem errU : En.P.underlying 126 = some (.interface (En.P.methodsAt 126)) := by kernel_rfl
def jx_ (o : Option Int) : V := match o with | some n => .i .i64 n | none => .no
def h4_ (s : Str) : Option Int := match Lib.atoiAll s with | .ok v => some v | _ => none
theorem aft_ (s : Str) (hs : s.length ≤ 281474976710656) : ACall En 203 [.s s] [] [jx_ (h4_ s), ifV (h4_ s).isSome] [] := by
 refine gu_ (fn := Tryz.f203) Tryz.func203 rfl rfl fun S w xs hx _ ⟨B, hB, _⟩ => ?_
 simp only [VRs, VR] at hx
 obtain ⟨x, r, e1, rfl, rfl⟩ := hx
 obtain rfl : xs = #[.string ⟨s.toArray⟩] := by apply Array.ext'; simpa using e1
 have hsz : (⟨s.toArray⟩ : ByteArray).size ≤ 281474976710656 := by simpa [ByteArray.size] using hs
 have hd : (⟨s.toArray⟩ : ByteArray).data.toList = s := by simp
 cases h : Lib.atoiAll s with
 | ok v =>
  have ho : h4_ s = some v := by simp [h4_, h]
  refine (Tryz.strconv_Atoi_ok ⟨s.toArray⟩ (by omega) v (by rw [hd]; exact h) w).mono ?_
  rintro e w' ⟨rfl, hw⟩
  refine ⟨[.int .i64 v, .nilIface], rfl, ?_, ?_⟩
  ·rcases hw with rfl | ⟨t, rfl⟩
   ·exact Below.refl _ _
   ·exact Lib.bytesWorld_below _ _ _
  ·rw [ho]; exact .cons (by simp only [jx_, VR]) (.cons (by simp [ifV, VR]) .nil)
 | range =>
  have ho : h4_ s = none := by simp [h4_, h]
  obtain ⟨tp, p, hv⟩ := hB.rng
  refine (Any.strconv_Atoi_range_var Tryz.laysC172 ⟨s.toArray⟩ hsz (by rw [hd]; exact h) tp p w hv).mono ?_
  rintro e w' ⟨N, rfl, _, _, hb⟩
  exact ⟨[_, _], rfl, hb, by rw [ho]; exact .cons (by simp only [jx_, VR]) (.cons (by simp [ifV, VR]) .nil)⟩
 | _ =>
  have ho : h4_ s = none := by simp [h4_, h]
  obtain ⟨tp, p, hv⟩ := hB.syn
  refine (Any.strconv_Atoi_syntax_var Tryz.laysC172 ⟨s.toArray⟩ hsz (by rw [hd]; exact h) tp p w hv).mono ?_
  rintro e w' ⟨N, rfl, _, _, hb⟩
  exact ⟨[_, _], rfl, hb, by rw [ho]; exact .cons (by simp only [jx_, VR]) (.cons (by simp [ifV, VR]) .nil)⟩
def jf_ (s : Str) : V := if cs_ s then .i .i64 (b2_ s) else .no
theorem b6_ (s : Str) : (jf_ s).pure = true := by unfold jf_; split <;> rfl
theorem db_ (s : Str) : peel (jf_ s) = jf_ s := by unfold jf_; split <;> rfl
theorem cv_ (s : Str) : dr_ (jf_ s) = true := by unfold jf_; split <;> rfl
theorem ae2_ (v : V) : leV v .no = True := by cases v <;> simp only [leV]
theorem oo_ : ∀ (l : Str) (c : UInt8), -1 ≤ Lib.indexByte l c
 | [], _ => by simp [Lib.indexByte]
 | b :: l, c => by
  have := oo_ l c
  simp only [Lib.indexByte]
  split
  ·decide
  ·split <;> omega
theorem sh_ : ∀ (l : Str) (c : UInt8), 0 ≤ Lib.indexByte l c ↔ c ∈ l
 | [], _ => by simp [Lib.indexByte]
 | b :: l, c => by
  have h1 := oo_ l c
  have h2 := sh_ l c
  rw [List.mem_cons, ← h2, Lib.indexByte]
  by_cases hb : b = c
  ·subst hb; rw [if_pos (beq_self_eq_true b)]; exact ⟨fun _ => .inl rfl, fun _ => Int.le_refl _⟩
  ·rw [if_neg (by simpa using hb)]
   by_cases hc : Lib.indexByte l c = -1
   ·rw [if_pos (by rw [hc]; rfl), hc]; exact ⟨fun h => absurd h (by decide), fun h => h.elim (fun e => absurd e.symm hb) id⟩
   ·rw [if_neg (by simpa using hc)]; exact ⟨fun h => .inr (by omega), fun h => h.elim (fun e => absurd e.symm hb) (fun h => by omega)⟩
theorem in_ (l : Str) (c : UInt8) : decide (0 ≤ Lib.indexByte l c) = l.contains c := by
 rw [List.contains_eq_mem]; exact decide_eq_decide.2 (sh_ l c)
theorem ac8_ (s : Str) (hs : s.length ≤ 281474976710656) (h : h4_ s = none) : ACall En 186 [.s s] [] [jf_ s, .b (cs_ s)] [] := by
 have A := aft_ s hs
 rw [h] at A
 have hn : cs_ s = false := ab6_ fun v hv => by simp [h4_, hv] at h
 refine aj_ (fn := Tryz.f186) [] Tryz.func186 rfl rfl (by simp) fun C => ?_
 rw [a0_]
 simp only [Tryz.ntmps186, T7_, List.length_nil, Nat.reduceAdd, Nat.reduceSub, List.replicate_succ, List.replicate_zero, List.cons_append, List.nil_append, bq_]
 refine .seq (.rgn [] (by simp only [go_sem, seval, jx_, Option.isSome_none, b6_]; rfl) ?_ ?_)
 ·first | trivial | simp
 refine .seq (.rgn [a5_ A] (by simp only [go_sem, seval, jx_, Option.isSome_none, b6_]; rfl) ?_ ?_)
 ·first | trivial | simp
 refine .seq (.rgnS [13] [ifO En 126 false errU, a5_ (in_a 0 0 1000000), a5_ (xc_ 0 (by decide) (by decide))] (by simp only [go_sem, seval, jx_, Option.isSome_none, b6_]; rfl) ?_ ?_)
 ·first | trivial | simp
 refine .ret ⟨.inr rfl, ?_⟩
 exact Out.plainL (by simp only [Tryz.results186]; rfl) (by simp only [a1_, a9_, go_sem, seval, jx_, Option.isSome_none, b6_] <;> (split <;> rfl)) (by simp only [a8_, go_sem, seval, jx_, Option.isSome_none, b6_] <;> (simp [hn, jf_, ae2_])) (by simp only [go_sem, seval, jx_, Option.isSome_none, b6_])
theorem acx_ (s : Str) (hs : s.length ≤ 281474976710656) {v : Int} (h : h4_ s = some v) : ACall En 186 [.s s] [] [jf_ s, .b (cs_ s)] [] := by
 have A := aft_ s hs
 rw [h] at A
 have hv : Lib.atoiAll s = .ok v := by
  unfold h4_ at h
  split at h
  ·rename_i v' hv'; cases h; exact hv'
  ·cases h
 refine aj_ (fn := Tryz.f186) [] Tryz.func186 rfl rfl (by simp) fun C => ?_
 rw [a0_]
 simp only [Tryz.ntmps186, T7_, List.length_nil, Nat.reduceAdd, Nat.reduceSub, List.replicate_succ, List.replicate_zero, List.cons_append, List.nil_append, bq_]
 refine .seq (.rgn [] (by simp only [go_sem, seval, jx_, Option.isSome_some, b6_]; rfl) ?_ ?_)
 ·first | trivial | simp
 refine .seq (.rgn [a5_ A] (by simp only [go_sem, seval, jx_, Option.isSome_some, b6_]; rfl) ?_ ?_)
 ·first | trivial | simp
 refine .seq (.rgnS [13] [ifO En 126 true errU, a5_ (in_a v 0 1000000), cf_ (0 ≤ v ∧ v ≤ 1000000) (fun h => xc_ v (by omega) (by omega))] (by simp only [go_sem, seval, jx_, Option.isSome_some, b6_]; rfl) ?_ ?_)
 ·first | trivial | simp
 refine .ret ⟨.inr rfl, ?_⟩
 exact Out.plainL (by simp only [Tryz.results186]; rfl) (by simp only [a1_, a9_, go_sem, seval, jx_, Option.isSome_some, b6_] <;> (split <;> rfl)) (by simp only [a8_, go_sem, seval, jx_, Option.isSome_some, b6_] <;> (have k := agt_ hv; cases hn : cs_ s; (simp only [hn] at k; simp only [jf_, hn]; refine ⟨?_, ?_⟩; (simp only [Bool.false_eq_true, if_false]; rw [ae2_]; trivial); simpa using k); (have hv2 := afc_ hv hn; simp only [jf_, hn, if_true]; rw [← hv2]; simp only [hn] at k; simp only [gz_]; simpa using k))) (by simp only [go_sem, seval, jx_, Option.isSome_some, b6_])
theorem vy_ (s : Str) (hs : s.length ≤ 281474976710656) : ACall En 186 [.s s] [] [jf_ s, .b (cs_ s)] [] := by
 cases h : h4_ s with
 | none => exact ac8_ s hs h
 | some v => exact acx_ s hs h
theorem m1_ (s : Str) (c : UInt8) : ACall En 85 [.s s, .s [c]] [] [.b (s.contains c)] [] := by
 refine gu_ (fn := Tryz.f85) Tryz.func85 rfl rfl fun S w xs hx _ ⟨B, hB, _⟩ => ?_
 simp only [VRs, VR] at hx
 obtain ⟨x, r, e1, rfl, y, q, rfl, rfl, rfl⟩ := hx
 obtain rfl : xs = #[.string ⟨s.toArray⟩, .string ⟨#[c]⟩] := by apply Array.ext'; simpa using e1
 refine (Tryz.strings_Contains_one ⟨s.toArray⟩ c w).mono ?_
 rintro e w' ⟨rfl, rfl⟩
 refine ⟨[_], rfl, Below.refl _ _, .cons ?_ .nil⟩
 simp only [VR]
 rw [← in_]
end
section
set_option maxRecDepth 100000
set_option maxHeartbeats 4000000
theorem aby_ (s : Str) (hs : s.length ≤ 281474976710656) : ACall En 156 [.i .i64 2, .s s] [] [.b (cs_ s)] [] := by
 refine aj_ (fn := Tryz.f156) [] Tryz.func156 rfl rfl (by simp) fun C => ?_
 rw [a0_]
 simp only [Tryz.ntmps156, T7_, List.length_nil, Nat.reduceAdd, Nat.reduceSub, List.replicate_succ, List.replicate_zero, List.cons_append, List.nil_append, bq_]
 refine .seq (.rgn [] (by simp only [go_sem, seval, b6_, db_, cv_]; rfl) ?_ ?_)
 ·first | trivial | simp
 refine .seq (.seq (.rgn [] (by simp only [go_sem, seval, b6_, db_, cv_]; rfl) ?_ ?_))
 ·first | trivial | simp
 refine .block (.seq (.rgn [] (by simp only [go_sem, seval, b6_, db_, cv_]; rfl) ?_ ?_))
 ·first | trivial | simp
 refine .condB (by simp only [go_sem, seval, b6_, db_, cv_]; rfl) (by simp only [go_sem, seval, b6_, db_, cv_]) (fun h8 => ?_) (fun h8 => ?_)
 ·exact absurd h8 (by simp)
 ·refine .seq (.rgn [] (by simp only [go_sem, seval, b6_, db_, cv_]; rfl) ?_ ?_)
  ·first | trivial | simp
  refine .condB (by simp only [go_sem, seval, b6_, db_, cv_]; rfl) (by simp only [go_sem, seval, b6_, db_, cv_]) (fun h20 => ?_) (fun h20 => ?_)
  ·refine .seq (.rgn [a5_ (vy_ s hs)] (by simp only [go_sem, seval, b6_, db_, cv_]; rfl) ?_ ?_)
   ·first | trivial | simp
   refine .seq (.rgn [] (by simp only [go_sem, seval, b6_, db_, cv_]; rfl) ?_ ?_)
   ·first | trivial | simp
   refine .ret ⟨.inr rfl, ?_⟩
   exact Out.plain (by simp only [Tryz.results156]; rfl) (by simp only [a1_, a9_, go_sem, seval, b6_, db_, cv_] <;> (split <;> rfl)) (by simp only [a8_, go_sem, seval, b6_, db_, cv_] <;> (rfl)) (by simp only [go_sem, seval, b6_, db_, cv_])
  ·exact absurd h20 (by simp)
theorem xl_ (c : UInt8) : ACall En 156 [.i .i64 3, .s [c]] [] [.b (er_ [c])] [] := by
 refine aj_ (fn := Tryz.f156) [] Tryz.func156 rfl rfl (by simp) fun C => ?_
 rw [a0_]
 simp only [Tryz.ntmps156, T7_, List.length_nil, Nat.reduceAdd, Nat.reduceSub, List.replicate_succ, List.replicate_zero, List.cons_append, List.nil_append, bq_]
 refine .seq (.rgn [] (by simp only [go_sem, seval]; rfl) ?_ ?_)
 ·(first | trivial | (simp [marks]; done))
 refine .seq (.seq (.rgn [] (by simp only [go_sem, seval]; rfl) ?_ ?_))
 ·(first | trivial | (simp [marks]; done))
 refine .block (.seq (.rgn [] (by simp only [go_sem, seval]; rfl) ?_ ?_))
 ·(first | trivial | (simp [marks]; done))
 refine .condB (by simp only [go_sem, seval]; rfl) (by simp only [go_sem, seval]) (fun h8 => ?_) (fun h8 => ?_)
 ·exact absurd h8 (by simp)
 ·refine .seq (.rgn [] (by simp only [go_sem, seval]; rfl) ?_ ?_)
  ·(first | trivial | (simp [marks]; done))
  refine .condB (by simp only [go_sem, seval]; rfl) (by simp only [go_sem, seval]) (fun h20 => ?_) (fun h20 => ?_)
  ·exact absurd h20 (by simp)
  ·refine .seq (.rgn [] (by simp only [go_sem, seval]; rfl) ?_ ?_)
   ·(first | trivial | (simp [marks]; done))
   refine .condB (by simp only [go_sem, seval]; rfl) (by simp only [go_sem, seval]) (fun h28 => ?_) (fun h28 => ?_)
   ·refine .seq (.rgn [a5_ (m1_ marks c)] (by simp only [go_sem, seval]; rfl) ?_ ?_)
    ·(first | trivial | (simp [marks]; done))
    refine .ret ⟨.inr rfl, ?_⟩
    exact Out.plain (by simp only [Tryz.results156]; rfl) (by simp only [a1_, a9_, go_sem, seval] <;> (split <;> rfl)) (by simp only [a8_, go_sem, seval] <;> (simp [er_])) (by simp only [go_sem, seval])
   ·exact absurd h28 (by simp)
theorem wu_ (s : Str) (h : s.length ≠ 1) : ACall En 156 [.i .i64 3, .s s] [] [.b (er_ s)] [] := by
 have h2 : ((s.length : Int) == 1) = false := by simpa using (show ¬ (s.length : Int) = 1 by omega)
 refine aj_ (fn := Tryz.f156) [] Tryz.func156 rfl rfl (by simp) fun C => ?_
 rw [a0_]
 simp only [Tryz.ntmps156, T7_, List.length_nil, Nat.reduceAdd, Nat.reduceSub, List.replicate_succ, List.replicate_zero, List.cons_append, List.nil_append, bq_]
 refine .seq (.rgn [] (by simp only [go_sem, seval]; rfl) ?_ ?_)
 ·(first | trivial | (simp [h2]; done))
 refine .seq (.seq (.rgn [] (by simp only [go_sem, seval]; rfl) ?_ ?_))
 ·(first | trivial | (simp [h2]; done))
 refine .block (.seq (.rgn [] (by simp only [go_sem, seval]; rfl) ?_ ?_))
 ·(first | trivial | (simp [h2]; done))
 refine .condB (by simp only [go_sem, seval]; rfl) (by simp only [go_sem, seval]) (fun h8 => ?_) (fun h8 => ?_)
 ·exact absurd h8 (by simp)
 ·refine .seq (.rgn [] (by simp only [go_sem, seval]; rfl) ?_ ?_)
  ·(first | trivial | (simp [h2]; done))
  refine .condB (by simp only [go_sem, seval]; rfl) (by simp only [go_sem, seval]) (fun h20 => ?_) (fun h20 => ?_)
  ·exact absurd h20 (by simp)
  ·refine .seq (.rgn [] (by simp only [go_sem, seval]; rfl) ?_ ?_)
   ·(first | trivial | (simp [h2]; done))
   refine .condB (by simp only [go_sem, seval]; rfl) (by simp only [go_sem, seval]) (fun h28 => ?_) (fun h28 => ?_)
   ·refine .seq (.rgn [a5_ (m1_ marks 0)] (by simp only [go_sem, seval]; rfl) ?_ ?_)
    ·(first | trivial | (simp [h2]; done))
    refine .ret ⟨.inr rfl, ?_⟩
    exact Out.plain (by simp only [Tryz.results156]; rfl) (by simp only [a1_, a9_, go_sem, seval] <;> (split <;> rfl)) (by simp only [a8_, go_sem, seval] <;> (simp [er_, h, h2])) (by simp only [go_sem, seval])
   ·exact absurd h28 (by simp)
def of_ (k : Int) (s : Str) : Bool := if k = 1 then eb_ s else if k = 2 then cs_ s else er_ s
theorem aio_ (k : Int) (hk : k = 1 ∨ k = 2 ∨ k = 3) (s : Str) (hs : s.length ≤ 281474976710656) : ACall En 156 [.i .i64 k, .s s] [] [.b (of_ k s)] [] := by
 rcases hk with rfl | rfl | rfl
 ·exact vu_ s (by omega)
 ·exact aby_ s hs
 ·by_cases h : s.length = 1
  ·obtain ⟨c, rfl⟩ := List.length_eq_one_iff.1 h
   exact xl_ c
  ·exact wu_ s h
theorem ot_ (s : Str) : c0_ s = if of_ 1 s then 1 else if of_ 2 s then 2 else if of_ 3 s then 3 else 0 := rfl
theorem z4_ (s : Str) (hs : s.length ≤ 281474976710656) : ACall En 128 [.s s] [] [.i .i64 (c0_ s)] [] := by
 refine aj_ (fn := Tryz.f128) [] Tryz.func128 rfl rfl (by simp) fun C => ?_
 rw [a0_]
 simp only [Tryz.ntmps128, T7_, List.length_nil, Nat.reduceAdd, Nat.reduceSub, List.replicate_succ, List.replicate_zero, List.cons_append, List.nil_append, bq_]
 refine .seq (.rgn [] (by simp only [go_sem, seval]; rfl) ?_ ?_)
 ·first | trivial | simp
 refine .seq (.seq (.rgn [] (by simp only [go_sem, seval]; rfl) ?_ ?_))
 ·first | trivial | simp
 refine .block (.loopK (fun k : Int => ⟨[.s s, .no, .no, .i .i64 k, .no, .no, .no, .no, .no, .no, .no, .no], bg_ [], us []⟩) (fun k : Int => 1 ≤ k ∧ k ≤ 4 ∧ (1 < k → of_ 1 s = false) ∧ (2 < k → of_ 2 s = false) ∧ (3 < k → of_ 3 s = false)) (fun k : Int => (4 - k).toNat) (1) ?_ ?_ (fun k hI => ?_))
 ·simp
 ·exact Can.weak (Weak.lit (by simp only [go_sem, seval, av_, leV, at_, au_, V.inn, us, T9_, Ta_] <;> (simp)) (by simp only [go_sem, seval, av_, leV, at_, au_, V.inn, us, T9_, Ta_]) (by simp only [go_sem, seval, av_, leV, at_, au_, V.inn, us, T9_, Ta_]))
 refine .seq (.seq (.rgn [] (by simp only [go_sem, seval]; rfl) ?_ ?_))
 ·first | trivial | simp
 refine .condB (by simp only [go_sem, seval]; rfl) (by simp only [go_sem, seval]) (fun h5 => ?_) (fun h5 => ?_)
 ·refine .skip (.seq (.block (.seq (.rgn [cf_ (k = 1 ∨ k = 2 ∨ k = 3) (fun h => aio_ k h s hs)] (by simp only [go_sem, seval]; rfl) ?_ ?_))))
  ·simp at h5; omega
  refine .condB (by simp only [go_sem, seval]; rfl) (by simp only [go_sem, seval]) (fun h10 => ?_) (fun h10 => ?_)
  ·refine .seq (.rgn [] (by simp only [go_sem, seval]; rfl) ?_ ?_)
   ·first | trivial | simp
   refine .ret ⟨.inr rfl, ?_⟩
   exact Out.plain (by simp only [Tryz.results128]; rfl) (by simp only [a1_, a9_, go_sem, seval] <;> (split <;> rfl)) (by simp only [a8_, go_sem, seval] <;> (simp at h5; (have hk : k = 1 ∨ k = 2 ∨ k = 3 := by omega); rw [ot_]; rcases hk with rfl | rfl | rfl <;> simp_all)) (by simp only [go_sem, seval])
  ·refine .skip (.rgn [] (by simp only [go_sem, seval]; rfl) ?_ ?_)
   ·first | trivial | simp
   refine Exists.intro (k + 1) ⟨?_, ?_, ?_⟩
   ·simp at h5; (have hk : k = 1 ∨ k = 2 ∨ k = 3 := by omega); rcases hk with rfl | rfl | rfl <;> simp_all
   ·simp at h5; omega
   exact Can.weak (Weak.lit (by simp only [go_sem, seval, av_, leV, at_, au_, V.inn, us, T9_, Ta_] <;> (rw [bh_ (by omega) (by omega)])) (by simp only [go_sem, seval, av_, leV, at_, au_, V.inn, us, T9_, Ta_]) (by simp only [go_sem, seval, av_, leV, at_, au_, V.inn, us, T9_, Ta_]))
 ·refine .exit (.seq (.rgn [] (by simp only [go_sem, seval]; rfl) ?_ ?_))
  ·first | trivial | simp
  refine .ret ⟨.inr rfl, ?_⟩
  exact Out.plain (by simp only [Tryz.results128]; rfl) (by simp only [a1_, a9_, go_sem, seval] <;> (split <;> rfl)) (by simp only [a8_, go_sem, seval] <;> (simp at h5; (have hk : k = 4 := by omega); subst hk; simp_all [ot_])) (by simp only [go_sem, seval])
def tkR (l : List Tk) : List (List V) := l.map fun t => [.i .i64 t.kind, .s t.s, .i .i64 t.col]
theorem ax_ (l : List Tk) : (tkR l).length = l.length := by simp [tkR]
theorem ao_ : ∀ l : List Tk, b5_ (tkR l) = true
 | [] => rfl
 | _ :: r => by show (cc_ [_, _, _] && b5_ (tkR r)) = true; rw [ao_ r]; rfl
theorem px_ (l : List Tk) (t : Tk) : tkR (l ++ [t]) = tkR l ++ [[.i .i64 t.kind, .s t.s, .i .i64 t.col]] := by simp [tkR]
theorem ac1_ (l : List Tk) : (∀ r, r ∈ tkR l → r.length = 3) = True := eq_true fun r hr => by obtain ⟨t, _, rfl⟩ := List.mem_map.1 hr; rfl
theorem r5_ {l : List Tk} {k : Nat} (h : k < l.length) : (tkR l).getD k [] = [.i .i64 (l.getD k ⟨0, [], 0⟩).kind, .s (l.getD k ⟨0, [], 0⟩).s, .i .i64 (l.getD k ⟨0, [], 0⟩).col] := by
 simp [tkR, T8_, T6_ h]
theorem aaj_ (l : List Tk) (n : Nat) (hn : n = l.length) (hl : l.length < 1099511627776) : ACall En 129 [.ow 0 3 0 n] [⟨116, 3, tkR l⟩] [.ow 0 3 0 n] [⟨116, 3, tkR l⟩] := by
 refine aj_ (fn := Tryz.f129) [0] Tryz.func129 rfl rfl (by simp) fun C => ?_
 rw [a0_]
 simp only [Tryz.ntmps129, T7_, List.length_nil, Nat.reduceAdd, Nat.reduceSub, List.replicate_succ, List.replicate_zero, List.cons_append, List.nil_append, bq_]
 refine .seq (.rgn [] (by simp only [go_sem, seval, ao_]; rfl) ?_ ?_)
 ·subst hn; simp [ax_]
 refine .seq (.rgn [] (by simp only [go_sem, seval, ao_]; rfl) ?_ ?_)
 ·subst hn; simp [ax_]
 refine .ret ⟨.inr rfl, ?_⟩
 exact Out.mem' (by simp only [Tryz.results129]; rfl) (by simp only [a1_, a9_, go_sem, seval, ao_]) (by simp only [a8_, rns, rn, go_sem, seval, ao_] <;> (simp)) (by simp) rfl (by decide) (by simp only [go_sem, seval, ao_]) (by simp only [ap_, go_sem, seval, ao_]) (by simp only [ah_, go_sem, seval, ao_] <;> (simp [ca_, ao_]))
theorem n4_ {l : Str} {k : Nat} (h : k < l.length) (col : Int) : eu_ (l.drop k).length (l.drop k) col =
  if l.getD k 0 = 32 then eu_ (l.drop (k + 1)).length (l.drop (k + 1)) (col + 1)
  else if c0_ ((l.drop k).take (dt_ (l.drop k))) = 0 then none
  else (eu_ (l.drop (k + dt_ (l.drop k))).length (l.drop (k + dt_ (l.drop k))) (col + dt_ (l.drop k))).map (⟨c0_ ((l.drop k).take (dt_ (l.drop k))), (l.drop k).take (dt_ (l.drop k)), col⟩ :: ·) := by
 have e : l.drop k = l.getD k 0 :: l.drop (k + 1) := by
  rw [List.drop_eq_getElem_cons h, T8_, T6_ h]; rfl
 have h2 := jm_ (l.getD k 0) (l.drop (k + 1)) col
 rw [← e, List.drop_drop] at h2
 exact h2
theorem hh_ {l : Str} {k : Nat} (h : k < l.length) : l.getD k 0 = 32 ↔ ((l.getD k 0).toNat : Int) = 32 := by
 constructor
 ·intro e; rw [e]; rfl
 ·intro e; apply UInt8.toNat_inj.1; show _ = 32; omega
theorem wl_b {s : Str} {k : Nat} (h : k < s.length) : 1 ≤ dt_ (s.drop k) ∧ k + dt_ (s.drop k) ≤ s.length := by
 have h1 := ln_ (s.drop k)
 have h2 := ain_ (l := s.drop k) (fun e => by have := congrArg List.length e; rw [List.length_drop] at this; simp only [List.length_nil] at this; omega)
 rw [List.length_drop] at h2
 omega
theorem on_ (s : Str) (k w : Nat) : (s.take (k + w)).drop k = (s.drop k).take w := by rw [List.drop_take, Nat.add_sub_cancel_left]
theorem akj_ (r : Str) : (if ((r.takeWhile ch_).length : Int) > (if ((r.takeWhile cn_).length : Int) > 1 then ((r.takeWhile cn_).length : Int) else 1) then ((r.takeWhile ch_).length : Int) else (if ((r.takeWhile cn_).length : Int) > 1 then ((r.takeWhile cn_).length : Int) else 1)) = (dt_ r : Int) := by
 unfold dt_
 split <;> split at * <;> omega
theorem km_ {s : Str} (h : 120 < s.length) : bt_ s = none := by rw [bt_, if_pos h]
theorem gs_ {s : Str} (h : s.length ≤ 120) : bt_ s = eu_ s.length s 0 := by rw [bt_, if_neg (by omega)]
theorem ro_ {s : Str} {k : Nat} (h : s.length ≤ k) (c : Int) : eu_ (s.drop k).length (s.drop k) c = some [] := by rw [List.drop_of_length_le h]; rfl
theorem rt_ (s : Str) (hs : s.length ≤ 281474976710656) : ACall En 92 [.s s] [] [.sl false (tkR ((bt_ s).getD [])), .b (bt_ s).isSome] [] := by
 refine aj_ (fn := Tryz.f92) [] Tryz.func92 rfl rfl (by simp) fun C => ?_
 rw [a0_]
 simp only [Tryz.ntmps92, T7_, List.length_nil, Nat.reduceAdd, Nat.reduceSub, List.replicate_succ, List.replicate_zero, List.cons_append, List.nil_append, bq_]
 refine .seq (.rgn [] (by simp only [go_sem, seval, ao_, ax_]; rfl) ?_ ?_)
 ·first | trivial | simp
 refine .seq (.seq (.rgn [] (by simp only [go_sem, seval, ao_, ax_]; rfl) ?_ ?_))
 ·first | trivial | simp
 refine .condB (by simp only [go_sem, seval, ao_, ax_]; rfl) (by simp only [go_sem, seval, ao_, ax_]) (fun h10 => ?_) (fun h10 => ?_)
 ·refine .seq (.rgn [] (by simp only [go_sem, seval, ao_, ax_]; rfl) ?_ ?_)
  ·first | trivial | simp
  refine .ret ⟨.inr rfl, ?_⟩
  exact Out.plainL (by simp only [Tryz.results92]; rfl) (by simp only [a1_, a9_, go_sem, seval, ao_, ax_] <;> (split <;> rfl)) (by simp only [a8_, go_sem, seval, ao_, ax_] <;> (simp at h10; rw [km_ (by omega)]; simp [tkR, ler])) (by simp only [go_sem, seval, ao_, ax_])
 ·refine .skip (.seq (.rgn [] (by simp only [go_sem, seval, ao_, ax_]; rfl) ?_ ?_))
  ·first | trivial | simp
  refine .seq (.seq (.rgn [] (by simp only [go_sem, seval, ao_, ax_]; rfl) ?_ ?_))
  ·first | trivial | simp
  refine .block (.loopK (fun k : Nat × List Tk => ⟨[.s s, .no, .no, .no, .ow 20 3 0 k.2.length, .i .i64 k.1, .no, .no, .no, .no, .no, .no, .no, .no, .no, .no, .no, .no, .no, .no, .no, .no, .no, .no, .no, .no, .no, .no, .no, .no, .no, .no, .no, .no, .no, .no, .no, .no, .no, .no, .no, .no, .no, .no, .no, .no, .no, .no, .no, .no, .no, .no, .no, .no, .no, .no, .no], bg_ [(20, ⟨116, 3, tkR k.2⟩)], us [20]⟩) (fun k : Nat × List Tk => k.1 ≤ s.length ∧ s.length ≤ 120 ∧ k.2.length ≤ k.1 ∧ eu_ s.length s 0 = (eu_ (s.drop k.1).length (s.drop k.1) k.1).map (k.2 ++ ·)) (fun k : Nat × List Tk => s.length - k.1) ((0, [])) ?_ ?_ (fun k hI => ?_))
  ·simp at h10; simp; omega
  ·refine Can.trans (Can.ownSlot 4 20 116 3 (by simp only [go_sem, seval, ao_, ax_] <;> rfl) (by simp only [go_sem, seval, ao_, ax_]) (by simp only [go_sem, seval, ao_, ax_] <;> rfl)) ?_
   exact Can.weak (Weak.lit (by simp only [go_sem, seval, ao_, ax_, av_, leV, at_, au_, V.inn, us, T9_, Ta_] <;> (rfl)) (by simp only [go_sem, seval, ao_, ax_, av_, leV, at_, au_, V.inn, us, T9_, Ta_]) (by simp only [go_sem, seval, ao_, ax_, av_, leV, at_, au_, V.inn, us, T9_, Ta_] <;> (rfl)))
  refine .seq (.seq (.rgn [] (by simp only [go_sem, seval, ao_, ax_]; rfl) ?_ ?_))
  ·first | trivial | simp
  refine .condB (by simp only [go_sem, seval, ao_, ax_]; rfl) (by simp only [go_sem, seval, ao_, ax_]) (fun h14 => ?_) (fun h14 => ?_)
  ·refine .skip (.block (.seq (.seq (.rgn [] (by simp only [go_sem, seval, ao_, ax_]; rfl) ?_ ?_))))
   ·simp at h14; simp; exact h14
   refine .condB (by simp only [go_sem, seval, ao_, ax_]; rfl) (by simp only [go_sem, seval, ao_, ax_]) (fun h18 => ?_) (fun h18 => ?_)
   ·refine .seq (.rgn [] (by simp only [go_sem, seval, ao_, ax_]; rfl) ?_ ?_)
    ·first | trivial | simp
    refine .exit ?_
    refine Exists.intro ((k.1 + 1, k.2)) ⟨?_, ?_, ?_⟩
    ·simp only [T3_] at h14; simp only [beq_iff_eq] at h18; obtain ⟨i1, i2, i3, i4⟩ := hI; have e := n4_ (show k.1 < s.length by omega) k.1; rw [if_pos ((hh_ (by omega)).2 h18)] at e; exact ⟨by dsimp only; omega, i2, by dsimp only; omega, by rw [i4, e]; rfl⟩
    ·simp only [T3_] at h14; dsimp only; omega
    exact Can.weak (Weak.lit (by simp only [go_sem, seval, ao_, ax_, av_, leV, at_, au_, V.inn, us, T9_, Ta_] <;> (rw [bh_ (by omega) (by omega)]; rfl)) (by simp only [go_sem, seval, ao_, ax_, av_, leV, at_, au_, V.inn, us, T9_, Ta_]) (by simp only [go_sem, seval, ao_, ax_, av_, leV, at_, au_, V.inn, us, T9_, Ta_]))
   ·refine .skip (.seqJ (fun u : Unit => ⟨[.s s, .no, .no, .no, .ow 20 3 0 k.2.length, .i .i64 k.1, .i .i64 (dt_ (s.drop k.1)), .no, .no, .no, .no, .no, .no, .no, .no, .no, .no, .no, .no, .no, .no, .no, .no, .no, .no, .no, .no, .no, .no, .no, .no, .no, .no, .no, .no, .no, .no, .no, .no, .no, .no, .no, .no, .no, .no, .no, .no, .no, .no, .no, .no, .no, .no, .no, .no, .no, .no], bg_ [(20, ⟨116, 3, tkR k.2⟩)], us [20]⟩) (fun u : Unit => True) ?_ (fun u hJ => ?_))
    ·refine .rgnDS [29] [a5_ (ac3_ cn_ 126 o2_ (s.drop k.1) (by simp; omega)), a5_ (ac3_ ch_ 127 abk_ (s.drop k.1) (by simp; omega)), maxO En] enM (by simp only [go_sem, seval, ao_, ax_]; rfl) (by rfl) ?_ ?_
     ·simp at h14; simp; omega
     refine Exists.intro (()) ⟨?_, ?_⟩
     ·trivial
     exact Can.weak (Weak.lit (by simp only [go_sem, seval, ao_, ax_, av_, leV, at_, au_, V.inn, us, T9_, Ta_] <;> (rw [akj_])) (by simp only [go_sem, seval, ao_, ax_, av_, leV, at_, au_, V.inn, us, T9_, Ta_]) (by simp only [go_sem, seval, ao_, ax_, av_, leV, at_, au_, V.inn, us, T9_, Ta_]))
    refine .seq (.rgnD [a5_ (z4_ ((s.drop k.1).take (dt_ (s.drop k.1))) (by simp; omega))] enM (by simp only [go_sem, seval, ao_, ax_, show IntKind.i64.wrap ((k.1 : Int) + (dt_ (s.drop k.1) : Int)) = ((k.1 + dt_ (s.drop k.1) : Nat) : Int) by (have := wl_b (show k.1 < s.length by simpa using h14); rw [bh_ (by omega) (by omega)]; rfl), on_]; rfl) (by rfl) ?_ ?_)
    ·have h14' : k.1 < s.length := (by simpa using h14); have := wl_b h14'; simp [b1_]; omega
    refine .seq (.seq (.rgn [] (by simp only [go_sem, seval, ao_, ax_]; rfl) ?_ ?_))
    ·first | trivial | simp
    refine .condB (by simp only [go_sem, seval, ao_, ax_]; rfl) (by simp only [go_sem, seval, ao_, ax_]) (fun h47 => ?_) (fun h47 => ?_)
    ·refine .seq (.rgn [] (by simp only [go_sem, seval, ao_, ax_]; rfl) ?_ ?_)
     ·first | trivial | simp
     refine .ret ⟨.inr rfl, ?_⟩
     exact Out.plainL (by simp only [Tryz.results92]; rfl) (by simp only [a1_, a9_, go_sem, seval, ao_, ax_] <;> (split <;> rfl)) (by simp only [a8_, go_sem, seval, ao_, ax_] <;> (simp only [T3_] at h14; simp only [beq_eq_false_iff_ne] at h18; simp only [beq_iff_eq] at h47; have e := n4_ (show k.1 < s.length by omega) k.1; rw [if_neg (fun h => h18 ((hh_ (by omega)).1 h)), if_pos h47] at e; rw [gs_ (by omega), hI.2.2.2, e]; simp [tkR, ler])) (by simp only [go_sem, seval, ao_, ax_])
    ·refine .skip (.seq (.rgn [] (by simp only [go_sem, seval, ao_, ax_]; rfl) ?_ ?_))
     ·simp [ac1_]; omega
     refine .rgn [] (by simp only [go_sem, seval, ao_, ax_]; rfl) ?_ ?_
     ·first | trivial | simp
     refine Exists.intro ((k.1 + dt_ (s.drop k.1), k.2 ++ [⟨c0_ ((s.drop k.1).take (dt_ (s.drop k.1))), (s.drop k.1).take (dt_ (s.drop k.1)), k.1⟩])) ⟨?_, ?_, ?_⟩
     ·simp only [T3_] at h14; simp only [beq_eq_false_iff_ne] at h18 h47; obtain ⟨i1, i2, i3, i4⟩ := hI; have e := n4_ (show k.1 < s.length by omega) k.1; rw [if_neg (fun h => h18 ((hh_ (by omega)).1 h)), if_neg h47] at e; have hb := wl_b (show k.1 < s.length by omega); exact ⟨by dsimp only; omega, i2, by simp only [T2_, List.length_singleton]; omega, by rw [i4, e, Option.map_map]; simp [Function.comp_def]⟩
     ·simp only [T3_] at h14; have hb := wl_b (show k.1 < s.length by omega); dsimp only; omega
     refine Can.trans (Can.swap 61 20 (by decide) (by decide) (by decide) (by decide) (by simp only [go_sem, seval, ao_, ax_, V.cl]) (by simp only [go_sem, seval, ao_, ax_, V.cl]) (by simp only [go_sem, seval, ao_, ax_, bl_, sw, swM, rnB] <;> rfl) (by simp only [go_sem, seval, ao_, ax_, bl_, sw, swM, rnB] <;> rfl) (by simp only [go_sem, seval, ao_, ax_, bl_, sw, swM, rnB] <;> rfl)) ?_
     exact Can.weak (Weak.lit (by simp only [go_sem, seval, ao_, ax_, av_, leV, at_, au_, V.inn, us, T9_, Ta_] <;> ((have hb := wl_b (show k.1 < s.length by simpa using h14)); rw [bh_ (by omega) (by omega)]; simp)) (by simp only [go_sem, seval, ao_, ax_, av_, leV, at_, au_, V.inn, us, T9_, Ta_]) (by simp only [go_sem, seval, ao_, ax_, av_, leV, at_, au_, V.inn, us, T9_, Ta_] <;> (rw [px_])))
  ·refine .exit (.seq (.rgn [bu_ [20] [] (aaj_ k.2 k.2.length rfl (by omega))] (by simp only [go_sem, seval, ao_, ax_]; rfl) ?_ ?_))
   ·simp [ah_, ap_, ao_]
   refine .frz 20 (by simp only [go_sem, seval, ao_, ax_]; rfl) (by simp only [go_sem, seval, ao_, ax_]) (by simp only [go_sem, seval, ao_, ax_]; rfl) (by simp only [go_sem, seval, ao_, ax_]; rfl) ?_
   refine .ret ⟨.inr rfl, ?_⟩
   exact Out.plainL (by simp only [Tryz.results92]; rfl) (by simp only [a1_, a9_, go_sem, seval, ao_, ax_] <;> (split <;> rfl)) (by simp only [a8_, go_sem, seval, ao_, ax_] <;> (simp only [T4_] at h14; rw [gs_ (by omega), hI.2.2.2, ro_ (by omega)]; simp [T1_, ax_, leV, be_])) (by simp only [go_sem, seval, ao_, ax_])
end
end Go.Proofs.YtpikbndepapbhaaGreatDoor
