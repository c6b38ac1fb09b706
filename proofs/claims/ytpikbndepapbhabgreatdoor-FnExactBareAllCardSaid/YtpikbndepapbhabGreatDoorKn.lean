/- What the library's functions answer: strconv.Atoi, strings.Contains; numbers. Conditions: none. -/
import Derived.Test.YtpikbndepapbhabGreatDoorKf
import Derived.Test.YtpikbndepapbhabGreatDoorKg
import Derived.Test.YtpikbndepapbhabGreatDoorKh
import Derived.Test.YtpikbndepapbhabGreatDoorKd
set_option linter.unusedVariables false
set_option linter.unusedSimpArgs false
namespace Go.Proofs.YtpikbndepapbhabGreatDoor
section
open Go.RowKit
set_option maxRecDepth 100000
set_option maxHeartbeats 1000000
theorem errU : En.P.underlying 187 = some (.interface (En.P.methodsAt 187)) := by kernel_rfl
def i6_ (o : Option Int) : V := match o with | some n => .i .i64 n | none => .no
def g5_ (s : Str) : Option Int := match Lib.atoiAll s with | .ok v => some v | _ => none
theorem aan_ (s : Str) (hs : s.length ≤ 281474976710656) : ACall En 198 [.s s] [] [i6_ (g5_ s), ifV (g5_ s).isSome] [] := by
 refine f9_ (fn := Tryz.f198) Tryz.func198 rfl rfl fun S w xs hx _ ⟨B, hB, _⟩ => ?_
 simp only [VRs, VR] at hx
 obtain ⟨x, r, e1, rfl, rfl⟩ := hx
 obtain rfl : xs = #[.string ⟨s.toArray⟩] := by apply Array.ext'; simpa using e1
 have hsz : (⟨s.toArray⟩ : ByteArray).size ≤ 281474976710656 := by simpa [ByteArray.size] using hs
 have hd : (⟨s.toArray⟩ : ByteArray).data.toList = s := by simp
 cases h : Lib.atoiAll s with
 | ok v =>
  have ho : g5_ s = some v := by simp [g5_, h]
  refine (Tryz.strconv_Atoi_ok ⟨s.toArray⟩ (by omega) v (by rw [hd]; exact h) w).mono ?_
  rintro e w' ⟨rfl, hw⟩
  refine ⟨[.int .i64 v, .nilIface], rfl, ?_, ?_⟩
  ·rcases hw with rfl | ⟨t, rfl⟩
   ·exact Below.refl _ _
   ·exact Lib.bytesWorld_below _ _ _
  ·rw [ho]; exact .cons (by simp only [i6_, VR]) (.cons (by simp [ifV, VR]) .nil)
 | range =>
  have ho : g5_ s = none := by simp [g5_, h]
  obtain ⟨tp, p, hv⟩ := hB.rng
  refine (Any.strconv_Atoi_range_var Tryz.laysC172 ⟨s.toArray⟩ hsz (by rw [hd]; exact h) tp p w hv).mono ?_
  rintro e w' ⟨N, rfl, _, _, hb⟩
  exact ⟨[_, _], rfl, hb, by rw [ho]; exact .cons (by simp only [i6_, VR]) (.cons (by simp [ifV, VR]) .nil)⟩
 | _ =>
  have ho : g5_ s = none := by simp [g5_, h]
  obtain ⟨tp, p, hv⟩ := hB.syn
  refine (Any.strconv_Atoi_syntax_var Tryz.laysC172 ⟨s.toArray⟩ hsz (by rw [hd]; exact h) tp p w hv).mono ?_
  rintro e w' ⟨N, rfl, _, _, hb⟩
  exact ⟨[_, _], rfl, hb, by rw [ho]; exact .cons (by simp only [i6_, VR]) (.cons (by simp [ifV, VR]) .nil)⟩
def h6_ (s : Str) : V := if cq_ s then .i .i64 (by_ s) else .no
theorem b2_ (s : Str) : (h6_ s).pure = true := by unfold h6_; split <;> rfl
theorem db_ (s : Str) : peel (h6_ s) = h6_ s := by unfold h6_; split <;> rfl
theorem cu_ (s : Str) : dr_ (h6_ s) = true := by unfold h6_; split <;> rfl
theorem aab_ (v : V) : leV v .no = True := by cases v <;> simp only [leV]
theorem nj_ : ∀ (l : Str) (c : UInt8), -1 ≤ Lib.indexByte l c
 | [], _ => by simp [Lib.indexByte]
 | b :: l, c => by
  have := nj_ l c
  simp only [Lib.indexByte]
  split
  ·decide
  ·split <;> omega
theorem sb_ : ∀ (l : Str) (c : UInt8), 0 ≤ Lib.indexByte l c ↔ c ∈ l
 | [], _ => by simp [Lib.indexByte]
 | b :: l, c => by
  have h1 := nj_ l c
  have h2 := sb_ l c
  rw [List.mem_cons, ← h2, Lib.indexByte]
  by_cases hb : b = c
  ·subst hb; rw [if_pos (beq_self_eq_true b)]; exact ⟨fun _ => .inl rfl, fun _ => Int.le_refl _⟩
  ·rw [if_neg (by simpa using hb)]
   by_cases hc : Lib.indexByte l c = -1
   ·rw [if_pos (by rw [hc]; rfl), hc]; exact ⟨fun h => absurd h (by decide), fun h => h.elim (fun e => absurd e.symm hb) id⟩
   ·rw [if_neg (by simpa using hc)]; exact ⟨fun h => .inr (by omega), fun h => h.elim (fun e => absurd e.symm hb) (fun h => by omega)⟩
theorem hv_ (l : Str) (c : UInt8) : decide (0 ≤ Lib.indexByte l c) = l.contains c := by
 rw [List.contains_eq_mem]; exact decide_eq_decide.2 (sb_ l c)
theorem aal_ (s : Str) (hs : s.length ≤ 281474976710656) (h : g5_ s = none) : ACall En 170 [.s s] [] [h6_ s, .b (cq_ s)] [] := by
 have A := aan_ s hs
 rw [h] at A
 have hn : cq_ s = false := acn_ fun v hv => by simp [g5_, hv] at h
 refine al_ (fn := Tryz.f170) [] Tryz.func170 rfl rfl (by simp) fun C => ?_
 rw [aw_]
 simp only [Tryz.ntmps170, T7_, List.length_nil, Nat.reduceAdd, Nat.reduceSub, List.replicate_succ, List.replicate_zero, List.cons_append, List.nil_append, bo_]
 refine .seq (.rgn [] (by simp only [go_sem, seval, i6_, Option.isSome_none, b2_]; rfl) ?_ ?_)
 ·first | trivial | simp
 refine .seq (.rgn [a1_ A] (by simp only [go_sem, seval, i6_, Option.isSome_none, b2_]; rfl) ?_ ?_)
 ·first | trivial | simp
 refine .seq (.rgnS [13] [ifO En 187 false errU, a1_ (in_a 0 0 1000000), a1_ (wc_ 0 (by decide) (by decide))] (by simp only [go_sem, seval, i6_, Option.isSome_none, b2_]; rfl) ?_ ?_)
 ·first | trivial | simp
 refine .ret ⟨.inr rfl, ?_⟩
 exact Out.plainL (by simp only [Tryz.results170]; rfl) (by simp only [av_, a3_, go_sem, seval, i6_, Option.isSome_none, b2_] <;> (split <;> rfl)) (by simp only [a2_, go_sem, seval, i6_, Option.isSome_none, b2_] <;> (simp [hn, h6_, aab_])) (by simp only [go_sem, seval, i6_, Option.isSome_none, b2_])
theorem aaa_ (s : Str) (hs : s.length ≤ 281474976710656) {v : Int} (h : g5_ s = some v) : ACall En 170 [.s s] [] [h6_ s, .b (cq_ s)] [] := by
 have A := aan_ s hs
 rw [h] at A
 have hv : Lib.atoiAll s = .ok v := by
  unfold g5_ at h
  split at h
  ·rename_i v' hv'; cases h; exact hv'
  ·cases h
 refine al_ (fn := Tryz.f170) [] Tryz.func170 rfl rfl (by simp) fun C => ?_
 rw [aw_]
 simp only [Tryz.ntmps170, T7_, List.length_nil, Nat.reduceAdd, Nat.reduceSub, List.replicate_succ, List.replicate_zero, List.cons_append, List.nil_append, bo_]
 refine .seq (.rgn [] (by simp only [go_sem, seval, i6_, Option.isSome_some, b2_]; rfl) ?_ ?_)
 ·first | trivial | simp
 refine .seq (.rgn [a1_ A] (by simp only [go_sem, seval, i6_, Option.isSome_some, b2_]; rfl) ?_ ?_)
 ·first | trivial | simp
 refine .seq (.rgnS [13] [ifO En 187 true errU, a1_ (in_a v 0 1000000), ck_ (0 ≤ v ∧ v ≤ 1000000) (fun h => wc_ v (by omega) (by omega))] (by simp only [go_sem, seval, i6_, Option.isSome_some, b2_]; rfl) ?_ ?_)
 ·first | trivial | simp
 refine .ret ⟨.inr rfl, ?_⟩
 exact Out.plainL (by simp only [Tryz.results170]; rfl) (by simp only [av_, a3_, go_sem, seval, i6_, Option.isSome_some, b2_] <;> (split <;> rfl)) (by simp only [a2_, go_sem, seval, i6_, Option.isSome_some, b2_] <;> (have k := aff_ hv; cases hn : cq_ s; (simp only [hn] at k; simp only [h6_, hn]; refine ⟨?_, ?_⟩; (simp only [Bool.false_eq_true, if_false]; rw [aab_]; trivial); simpa using k); (have hv2 := aa5_ hv hn; simp only [h6_, hn, if_true]; rw [← hv2]; simp only [hn] at k; simp only [h9_]; simpa using k))) (by simp only [go_sem, seval, i6_, Option.isSome_some, b2_])
theorem sk_ (s : Str) (hs : s.length ≤ 281474976710656) : ACall En 170 [.s s] [] [h6_ s, .b (cq_ s)] [] := by
 cases h : g5_ s with
 | none => exact aal_ s hs h
 | some v => exact aaa_ s hs h
theorem lv_ (s : Str) (c : UInt8) : ACall En 140 [.s s, .s [c]] [] [.b (s.contains c)] [] := by
 refine f9_ (fn := Tryz.f140) Tryz.func140 rfl rfl fun S w xs hx _ ⟨B, hB, _⟩ => ?_
 simp only [VRs, VR] at hx
 obtain ⟨x, r, e1, rfl, y, q, rfl, rfl, rfl⟩ := hx
 obtain rfl : xs = #[.string ⟨s.toArray⟩, .string ⟨#[c]⟩] := by apply Array.ext'; simpa using e1
 refine (Tryz.strings_Contains_one ⟨s.toArray⟩ c w).mono ?_
 rintro e w' ⟨rfl, rfl⟩
 refine ⟨[_], rfl, Below.refl _ _, .cons ?_ .nil⟩
 simp only [VR]
 rw [← hv_]
end
section
set_option maxRecDepth 100000
set_option maxHeartbeats 4000000
theorem abp_ (s : Str) (hs : s.length ≤ 281474976710656) : ACall En 122 [.i .i64 2, .s s] [] [.b (cq_ s)] [] := by
 refine al_ (fn := Tryz.f122) [] Tryz.func122 rfl rfl (by simp) fun C => ?_
 rw [aw_]
 simp only [Tryz.ntmps122, T7_, List.length_nil, Nat.reduceAdd, Nat.reduceSub, List.replicate_succ, List.replicate_zero, List.cons_append, List.nil_append, bo_]
 refine .seq (.rgn [] (by simp only [go_sem, seval, b2_, db_, cu_]; rfl) ?_ ?_)
 ·first | trivial | simp
 refine .seq (.seq (.rgn [] (by simp only [go_sem, seval, b2_, db_, cu_]; rfl) ?_ ?_))
 ·first | trivial | simp
 refine .block (.seq (.rgn [] (by simp only [go_sem, seval, b2_, db_, cu_]; rfl) ?_ ?_))
 ·first | trivial | simp
 refine .condB (by simp only [go_sem, seval, b2_, db_, cu_]; rfl) (by simp only [go_sem, seval, b2_, db_, cu_]) (fun h8 => ?_) (fun h8 => ?_)
 ·exact absurd h8 (by simp)
 ·refine .seq (.rgn [] (by simp only [go_sem, seval, b2_, db_, cu_]; rfl) ?_ ?_)
  ·first | trivial | simp
  refine .condB (by simp only [go_sem, seval, b2_, db_, cu_]; rfl) (by simp only [go_sem, seval, b2_, db_, cu_]) (fun h20 => ?_) (fun h20 => ?_)
  ·refine .seq (.rgn [a1_ (sk_ s hs)] (by simp only [go_sem, seval, b2_, db_, cu_]; rfl) ?_ ?_)
   ·first | trivial | simp
   refine .seq (.rgn [] (by simp only [go_sem, seval, b2_, db_, cu_]; rfl) ?_ ?_)
   ·first | trivial | simp
   refine .ret ⟨.inr rfl, ?_⟩
   exact Out.plain (by simp only [Tryz.results122]; rfl) (by simp only [av_, a3_, go_sem, seval, b2_, db_, cu_] <;> (split <;> rfl)) (by simp only [a2_, go_sem, seval, b2_, db_, cu_] <;> (rfl)) (by simp only [go_sem, seval, b2_, db_, cu_])
  ·exact absurd h20 (by simp)
theorem vh_ (c : UInt8) : ACall En 122 [.i .i64 3, .s [c]] [] [.b (ey_ [c])] [] := by
 refine al_ (fn := Tryz.f122) [] Tryz.func122 rfl rfl (by simp) fun C => ?_
 rw [aw_]
 simp only [Tryz.ntmps122, T7_, List.length_nil, Nat.reduceAdd, Nat.reduceSub, List.replicate_succ, List.replicate_zero, List.cons_append, List.nil_append, bo_]
 refine .seq (.rgn [] (by simp only [go_sem, seval]; rfl) ?_ ?_)
 ·(first | trivial | (simp [marks]; done))
 refine .seq (.seq (.rgn [] (by simp only [go_sem, seval]; rfl) ?_ ?_))
 ·(first | trivial | (simp [marks]; done))
 refine .block (.seq (.rgn [] (by simp only [go_sem, seval]; rfl) ?_ ?_))
 ·(first | trivial | (simp [marks]; done))
 refine .condB (by simp only [go_sem, seval]; rfl) (by simp only [go_sem, seval]) (fun h8 => ?_) (fun h8 => ?_)
 ·exact absurd h8 (by simp)
 ·refine .seq (.rgn [] (by simp only [go_sem, seval]; rfl) ?_ ?_)
  ·(first | trivial | (simp [marks]; done))
  refine .condB (by simp only [go_sem, seval]; rfl) (by simp only [go_sem, seval]) (fun h20 => ?_) (fun h20 => ?_)
  ·exact absurd h20 (by simp)
  ·refine .seq (.rgn [] (by simp only [go_sem, seval]; rfl) ?_ ?_)
   ·(first | trivial | (simp [marks]; done))
   refine .condB (by simp only [go_sem, seval]; rfl) (by simp only [go_sem, seval]) (fun h28 => ?_) (fun h28 => ?_)
   ·refine .seq (.rgn [a1_ (lv_ marks c)] (by simp only [go_sem, seval]; rfl) ?_ ?_)
    ·(first | trivial | (simp [marks]; done))
    refine .ret ⟨.inr rfl, ?_⟩
    exact Out.plain (by simp only [Tryz.results122]; rfl) (by simp only [av_, a3_, go_sem, seval] <;> (split <;> rfl)) (by simp only [a2_, go_sem, seval] <;> (simp [ey_])) (by simp only [go_sem, seval])
   ·exact absurd h28 (by simp)
theorem vq_ (s : Str) (h : s.length ≠ 1) : ACall En 122 [.i .i64 3, .s s] [] [.b (ey_ s)] [] := by
 have h2 : ((s.length : Int) == 1) = false := by simpa using (show ¬ (s.length : Int) = 1 by omega)
 refine al_ (fn := Tryz.f122) [] Tryz.func122 rfl rfl (by simp) fun C => ?_
 rw [aw_]
 simp only [Tryz.ntmps122, T7_, List.length_nil, Nat.reduceAdd, Nat.reduceSub, List.replicate_succ, List.replicate_zero, List.cons_append, List.nil_append, bo_]
 refine .seq (.rgn [] (by simp only [go_sem, seval]; rfl) ?_ ?_)
 ·(first | trivial | (simp [h2]; done))
 refine .seq (.seq (.rgn [] (by simp only [go_sem, seval]; rfl) ?_ ?_))
 ·(first | trivial | (simp [h2]; done))
 refine .block (.seq (.rgn [] (by simp only [go_sem, seval]; rfl) ?_ ?_))
 ·(first | trivial | (simp [h2]; done))
 refine .condB (by simp only [go_sem, seval]; rfl) (by simp only [go_sem, seval]) (fun h8 => ?_) (fun h8 => ?_)
 ·exact absurd h8 (by simp)
 ·refine .seq (.rgn [] (by simp only [go_sem, seval]; rfl) ?_ ?_)
  ·(first | trivial | (simp [h2]; done))
  refine .condB (by simp only [go_sem, seval]; rfl) (by simp only [go_sem, seval]) (fun h20 => ?_) (fun h20 => ?_)
  ·exact absurd h20 (by simp)
  ·refine .seq (.rgn [] (by simp only [go_sem, seval]; rfl) ?_ ?_)
   ·(first | trivial | (simp [h2]; done))
   refine .condB (by simp only [go_sem, seval]; rfl) (by simp only [go_sem, seval]) (fun h28 => ?_) (fun h28 => ?_)
   ·refine .seq (.rgn [a1_ (lv_ marks 0)] (by simp only [go_sem, seval]; rfl) ?_ ?_)
    ·(first | trivial | (simp [h2]; done))
    refine .ret ⟨.inr rfl, ?_⟩
    exact Out.plain (by simp only [Tryz.results122]; rfl) (by simp only [av_, a3_, go_sem, seval] <;> (split <;> rfl)) (by simp only [a2_, go_sem, seval] <;> (simp [ey_, h, h2])) (by simp only [go_sem, seval])
   ·exact absurd h28 (by simp)
def os_ (k : Int) (s : Str) : Bool := if k = 1 then ee_ s else if k = 2 then cq_ s else ey_ s
theorem afk_ (k : Int) (hk : k = 1 ∨ k = 2 ∨ k = 3) (s : Str) (hs : s.length ≤ 281474976710656) : ACall En 122 [.i .i64 k, .s s] [] [.b (os_ k s)] [] := by
 rcases hk with rfl | rfl | rfl
 ·exact tq_ s (by omega)
 ·exact abp_ s hs
 ·by_cases h : s.length = 1
  ·obtain ⟨c, rfl⟩ := List.length_eq_one_iff.1 h
   exact vh_ c
  ·exact vq_ s h
theorem nn_ (s : Str) : c6_ s = if os_ 1 s then 1 else if os_ 2 s then 2 else if os_ 3 s then 3 else 0 := rfl
theorem yo_ (s : Str) (hs : s.length ≤ 281474976710656) : ACall En 163 [.s s] [] [.i .i64 (c6_ s)] [] := by
 refine al_ (fn := Tryz.f163) [] Tryz.func163 rfl rfl (by simp) fun C => ?_
 rw [aw_]
 simp only [Tryz.ntmps163, T7_, List.length_nil, Nat.reduceAdd, Nat.reduceSub, List.replicate_succ, List.replicate_zero, List.cons_append, List.nil_append, bo_]
 refine .seq (.rgn [] (by simp only [go_sem, seval]; rfl) ?_ ?_)
 ·first | trivial | simp
 refine .seq (.seq (.rgn [] (by simp only [go_sem, seval]; rfl) ?_ ?_))
 ·first | trivial | simp
 refine .block (.loopK (fun k : Int => ⟨[.s s, .no, .no, .i .i64 k, .no, .no, .no, .no, .no, .no, .no, .no], bc_ [], us []⟩) (fun k : Int => 1 ≤ k ∧ k ≤ 4 ∧ (1 < k → os_ 1 s = false) ∧ (2 < k → os_ 2 s = false) ∧ (3 < k → os_ 3 s = false)) (fun k : Int => (4 - k).toNat) (1) ?_ ?_ (fun k hI => ?_))
 ·simp
 ·exact Can.weak (Weak.lit (by simp only [go_sem, seval, aq_, leV, ao_, ap_, V.inn, us, T9_, Ta_] <;> (simp)) (by simp only [go_sem, seval, aq_, leV, ao_, ap_, V.inn, us, T9_, Ta_]) (by simp only [go_sem, seval, aq_, leV, ao_, ap_, V.inn, us, T9_, Ta_]))
 refine .seq (.seq (.rgn [] (by simp only [go_sem, seval]; rfl) ?_ ?_))
 ·first | trivial | simp
 refine .condB (by simp only [go_sem, seval]; rfl) (by simp only [go_sem, seval]) (fun h5 => ?_) (fun h5 => ?_)
 ·refine .skip (.seq (.block (.seq (.rgn [ck_ (k = 1 ∨ k = 2 ∨ k = 3) (fun h => afk_ k h s hs)] (by simp only [go_sem, seval]; rfl) ?_ ?_))))
  ·simp at h5; omega
  refine .condB (by simp only [go_sem, seval]; rfl) (by simp only [go_sem, seval]) (fun h10 => ?_) (fun h10 => ?_)
  ·refine .seq (.rgn [] (by simp only [go_sem, seval]; rfl) ?_ ?_)
   ·first | trivial | simp
   refine .ret ⟨.inr rfl, ?_⟩
   exact Out.plain (by simp only [Tryz.results163]; rfl) (by simp only [av_, a3_, go_sem, seval] <;> (split <;> rfl)) (by simp only [a2_, go_sem, seval] <;> (simp at h5; (have hk : k = 1 ∨ k = 2 ∨ k = 3 := by omega); rw [nn_]; rcases hk with rfl | rfl | rfl <;> simp_all)) (by simp only [go_sem, seval])
  ·refine .skip (.rgn [] (by simp only [go_sem, seval]; rfl) ?_ ?_)
   ·first | trivial | simp
   refine Exists.intro (k + 1) ⟨?_, ?_, ?_⟩
   ·simp at h5; (have hk : k = 1 ∨ k = 2 ∨ k = 3 := by omega); rcases hk with rfl | rfl | rfl <;> simp_all
   ·simp at h5; omega
   exact Can.weak (Weak.lit (by simp only [go_sem, seval, aq_, leV, ao_, ap_, V.inn, us, T9_, Ta_] <;> (rw [bd_ (by omega) (by omega)])) (by simp only [go_sem, seval, aq_, leV, ao_, ap_, V.inn, us, T9_, Ta_]) (by simp only [go_sem, seval, aq_, leV, ao_, ap_, V.inn, us, T9_, Ta_]))
 ·refine .exit (.seq (.rgn [] (by simp only [go_sem, seval]; rfl) ?_ ?_))
  ·first | trivial | simp
  refine .ret ⟨.inr rfl, ?_⟩
  exact Out.plain (by simp only [Tryz.results163]; rfl) (by simp only [av_, a3_, go_sem, seval] <;> (split <;> rfl)) (by simp only [a2_, go_sem, seval] <;> (simp at h5; (have hk : k = 4 := by omega); subst hk; simp_all [nn_])) (by simp only [go_sem, seval])
def tkR (l : List Tk) : List (List V) := l.map fun t => [.i .i64 t.kind, .s t.s, .i .i64 t.col]
theorem ax_ (l : List Tk) : (tkR l).length = l.length := by simp [tkR]
theorem as_ : ∀ l : List Tk, cd_ (tkR l) = true
 | [] => rfl
 | _ :: r => by show (cw_ [_, _, _] && cd_ (tkR r)) = true; rw [as_ r]; rfl
theorem nb_ (l : List Tk) (t : Tk) : tkR (l ++ [t]) = tkR l ++ [[.i .i64 t.kind, .s t.s, .i .i64 t.col]] := by simp [tkR]
theorem adf_ (l : List Tk) : (∀ r, r ∈ tkR l → r.length = 3) = True := eq_true fun r hr => by obtain ⟨t, _, rfl⟩ := List.mem_map.1 hr; rfl
theorem x0_ {l : List Tk} {k : Nat} (h : k < l.length) : (tkR l).getD k [] = [.i .i64 (l.getD k ⟨0, [], 0⟩).kind, .s (l.getD k ⟨0, [], 0⟩).s, .i .i64 (l.getD k ⟨0, [], 0⟩).col] := by
 simp [tkR, T8_, T6_ h]
theorem zy_ (l : List Tk) (n : Nat) (hn : n = l.length) (hl : l.length < 1099511627776) : ACall En 164 [.ow 0 3 0 n] [⟨125, 3, tkR l⟩] [.ow 0 3 0 n] [⟨125, 3, tkR l⟩] := by
 refine al_ (fn := Tryz.f164) [0] Tryz.func164 rfl rfl (by simp) fun C => ?_
 rw [aw_]
 simp only [Tryz.ntmps164, T7_, List.length_nil, Nat.reduceAdd, Nat.reduceSub, List.replicate_succ, List.replicate_zero, List.cons_append, List.nil_append, bo_]
 refine .seq (.rgn [] (by simp only [go_sem, seval, as_]; rfl) ?_ ?_)
 ·subst hn; simp [ax_]
 refine .seq (.rgn [] (by simp only [go_sem, seval, as_]; rfl) ?_ ?_)
 ·subst hn; simp [ax_]
 refine .ret ⟨.inr rfl, ?_⟩
 exact Out.mem' (by simp only [Tryz.results164]; rfl) (by simp only [av_, a3_, go_sem, seval, as_]) (by simp only [a2_, rns, rn, go_sem, seval, as_] <;> (simp)) (by simp) rfl (by decide) (by simp only [go_sem, seval, as_]) (by simp only [an_, go_sem, seval, as_]) (by simp only [ah_, go_sem, seval, as_] <;> (simp [ce_, as_]))
theorem mu_ {l : Str} {k : Nat} (h : k < l.length) (col : Int) : ef_ (l.drop k).length (l.drop k) col =
  if l.getD k 0 = 32 then ef_ (l.drop (k + 1)).length (l.drop (k + 1)) (col + 1)
  else if c6_ ((l.drop k).take (du_ (l.drop k))) = 0 then none
  else (ef_ (l.drop (k + du_ (l.drop k))).length (l.drop (k + du_ (l.drop k))) (col + du_ (l.drop k))).map (⟨c6_ ((l.drop k).take (du_ (l.drop k))), (l.drop k).take (du_ (l.drop k)), col⟩ :: ·) := by
 have e : l.drop k = l.getD k 0 :: l.drop (k + 1) := by
  rw [List.drop_eq_getElem_cons h, T8_, T6_ h]; rfl
 have h2 := iv_ (l.getD k 0) (l.drop (k + 1)) col
 rw [← e, List.drop_drop] at h2
 exact h2
theorem go_ {l : Str} {k : Nat} (h : k < l.length) : l.getD k 0 = 32 ↔ ((l.getD k 0).toNat : Int) = 32 := by
 constructor
 ·intro e; rw [e]; rfl
 ·intro e; apply UInt8.toNat_inj.1; show _ = 32; omega
theorem zc_ {s : Str} {k : Nat} (h : k < s.length) : 1 ≤ du_ (s.drop k) ∧ k + du_ (s.drop k) ≤ s.length := by
 have h1 := ka_ (s.drop k)
 have h2 := afi_ (l := s.drop k) (fun e => by have := congrArg List.length e; rw [List.length_drop] at this; simp only [List.length_nil] at this; omega)
 rw [List.length_drop] at h2
 omega
theorem m7_ (s : Str) (k w : Nat) : (s.take (k + w)).drop k = (s.drop k).take w := by rw [List.drop_take, Nat.add_sub_cancel_left]
theorem ag2_ (r : Str) : (if ((r.takeWhile cg_).length : Int) > (if ((r.takeWhile cs_).length : Int) > 1 then ((r.takeWhile cs_).length : Int) else 1) then ((r.takeWhile cg_).length : Int) else (if ((r.takeWhile cs_).length : Int) > 1 then ((r.takeWhile cs_).length : Int) else 1)) = (du_ r : Int) := by
 unfold du_
 split <;> split at * <;> omega
theorem ki_ {s : Str} (h : 120 < s.length) : b4_ s = none := by rw [b4_, if_pos h]
theorem f0_ {s : Str} (h : s.length ≤ 120) : b4_ s = ef_ s.length s 0 := by rw [b4_, if_neg (by omega)]
theorem qs_ {s : Str} {k : Nat} (h : s.length ≤ k) (c : Int) : ef_ (s.drop k).length (s.drop k) c = some [] := by rw [List.drop_of_length_le h]; rfl
theorem zu_ (s : Str) (hs : s.length ≤ 281474976710656) : ACall En 118 [.s s] [] [.sl false (tkR ((b4_ s).getD [])), .b (b4_ s).isSome] [] := by
 refine al_ (fn := Tryz.f118) [] Tryz.func118 rfl rfl (by simp) fun C => ?_
 rw [aw_]
 simp only [Tryz.ntmps118, T7_, List.length_nil, Nat.reduceAdd, Nat.reduceSub, List.replicate_succ, List.replicate_zero, List.cons_append, List.nil_append, bo_]
 refine .seq (.rgn [] (by simp only [go_sem, seval, as_, ax_]; rfl) ?_ ?_)
 ·first | trivial | simp
 refine .seq (.seq (.rgn [] (by simp only [go_sem, seval, as_, ax_]; rfl) ?_ ?_))
 ·first | trivial | simp
 refine .condB (by simp only [go_sem, seval, as_, ax_]; rfl) (by simp only [go_sem, seval, as_, ax_]) (fun h10 => ?_) (fun h10 => ?_)
 ·refine .seq (.rgn [] (by simp only [go_sem, seval, as_, ax_]; rfl) ?_ ?_)
  ·first | trivial | simp
  refine .ret ⟨.inr rfl, ?_⟩
  exact Out.plainL (by simp only [Tryz.results118]; rfl) (by simp only [av_, a3_, go_sem, seval, as_, ax_] <;> (split <;> rfl)) (by simp only [a2_, go_sem, seval, as_, ax_] <;> (simp at h10; rw [ki_ (by omega)]; simp [tkR, ler])) (by simp only [go_sem, seval, as_, ax_])
 ·refine .skip (.seq (.rgn [] (by simp only [go_sem, seval, as_, ax_]; rfl) ?_ ?_))
  ·first | trivial | simp
  refine .seq (.seq (.rgn [] (by simp only [go_sem, seval, as_, ax_]; rfl) ?_ ?_))
  ·first | trivial | simp
  refine .block (.loopK (fun k : Nat × List Tk => ⟨[.s s, .no, .no, .no, .ow 20 3 0 k.2.length, .i .i64 k.1, .no, .no, .no, .no, .no, .no, .no, .no, .no, .no, .no, .no, .no, .no, .no, .no, .no, .no, .no, .no, .no, .no, .no, .no, .no, .no, .no, .no, .no, .no, .no, .no, .no, .no, .no, .no, .no, .no, .no, .no, .no, .no, .no, .no, .no, .no, .no, .no, .no, .no, .no], bc_ [(20, ⟨125, 3, tkR k.2⟩)], us [20]⟩) (fun k : Nat × List Tk => k.1 ≤ s.length ∧ s.length ≤ 120 ∧ k.2.length ≤ k.1 ∧ ef_ s.length s 0 = (ef_ (s.drop k.1).length (s.drop k.1) k.1).map (k.2 ++ ·)) (fun k : Nat × List Tk => s.length - k.1) ((0, [])) ?_ ?_ (fun k hI => ?_))
  ·simp at h10; simp; omega
  ·refine Can.trans (Can.ownSlot 4 20 125 3 (by simp only [go_sem, seval, as_, ax_] <;> rfl) (by simp only [go_sem, seval, as_, ax_]) (by simp only [go_sem, seval, as_, ax_] <;> rfl)) ?_
   exact Can.weak (Weak.lit (by simp only [go_sem, seval, as_, ax_, aq_, leV, ao_, ap_, V.inn, us, T9_, Ta_] <;> (rfl)) (by simp only [go_sem, seval, as_, ax_, aq_, leV, ao_, ap_, V.inn, us, T9_, Ta_]) (by simp only [go_sem, seval, as_, ax_, aq_, leV, ao_, ap_, V.inn, us, T9_, Ta_] <;> (rfl)))
  refine .seq (.seq (.rgn [] (by simp only [go_sem, seval, as_, ax_]; rfl) ?_ ?_))
  ·first | trivial | simp
  refine .condB (by simp only [go_sem, seval, as_, ax_]; rfl) (by simp only [go_sem, seval, as_, ax_]) (fun h14 => ?_) (fun h14 => ?_)
  ·refine .skip (.block (.seq (.seq (.rgn [] (by simp only [go_sem, seval, as_, ax_]; rfl) ?_ ?_))))
   ·simp at h14; simp; exact h14
   refine .condB (by simp only [go_sem, seval, as_, ax_]; rfl) (by simp only [go_sem, seval, as_, ax_]) (fun h18 => ?_) (fun h18 => ?_)
   ·refine .seq (.rgn [] (by simp only [go_sem, seval, as_, ax_]; rfl) ?_ ?_)
    ·first | trivial | simp
    refine .exit ?_
    refine Exists.intro ((k.1 + 1, k.2)) ⟨?_, ?_, ?_⟩
    ·simp only [T3_] at h14; simp only [beq_iff_eq] at h18; obtain ⟨i1, i2, i3, i4⟩ := hI; have e := mu_ (show k.1 < s.length by omega) k.1; rw [if_pos ((go_ (by omega)).2 h18)] at e; exact ⟨by dsimp only; omega, i2, by dsimp only; omega, by rw [i4, e]; rfl⟩
    ·simp only [T3_] at h14; dsimp only; omega
    exact Can.weak (Weak.lit (by simp only [go_sem, seval, as_, ax_, aq_, leV, ao_, ap_, V.inn, us, T9_, Ta_] <;> (rw [bd_ (by omega) (by omega)]; rfl)) (by simp only [go_sem, seval, as_, ax_, aq_, leV, ao_, ap_, V.inn, us, T9_, Ta_]) (by simp only [go_sem, seval, as_, ax_, aq_, leV, ao_, ap_, V.inn, us, T9_, Ta_]))
   ·refine .skip (.seqJ (fun u : Unit => ⟨[.s s, .no, .no, .no, .ow 20 3 0 k.2.length, .i .i64 k.1, .i .i64 (du_ (s.drop k.1)), .no, .no, .no, .no, .no, .no, .no, .no, .no, .no, .no, .no, .no, .no, .no, .no, .no, .no, .no, .no, .no, .no, .no, .no, .no, .no, .no, .no, .no, .no, .no, .no, .no, .no, .no, .no, .no, .no, .no, .no, .no, .no, .no, .no, .no, .no, .no, .no, .no, .no], bc_ [(20, ⟨125, 3, tkR k.2⟩)], us [20]⟩) (fun u : Unit => True) ?_ (fun u hJ => ?_))
    ·refine .rgnDS [29] [a1_ (abu_ cs_ 161 or_ (s.drop k.1) (by simp; omega)), a1_ (abu_ cg_ 162 yk_ (s.drop k.1) (by simp; omega)), maxO En] enM (by simp only [go_sem, seval, as_, ax_]; rfl) (by rfl) ?_ ?_
     ·simp at h14; simp; omega
     refine Exists.intro (()) ⟨?_, ?_⟩
     ·trivial
     exact Can.weak (Weak.lit (by simp only [go_sem, seval, as_, ax_, aq_, leV, ao_, ap_, V.inn, us, T9_, Ta_] <;> (rw [ag2_])) (by simp only [go_sem, seval, as_, ax_, aq_, leV, ao_, ap_, V.inn, us, T9_, Ta_]) (by simp only [go_sem, seval, as_, ax_, aq_, leV, ao_, ap_, V.inn, us, T9_, Ta_]))
    refine .seq (.rgnD [a1_ (yo_ ((s.drop k.1).take (du_ (s.drop k.1))) (by simp; omega))] enM (by simp only [go_sem, seval, as_, ax_, show IntKind.i64.wrap ((k.1 : Int) + (du_ (s.drop k.1) : Int)) = ((k.1 + du_ (s.drop k.1) : Nat) : Int) by (have := zc_ (show k.1 < s.length by simpa using h14); rw [bd_ (by omega) (by omega)]; rfl), m7_]; rfl) (by rfl) ?_ ?_)
    ·have h14' : k.1 < s.length := (by simpa using h14); have := zc_ h14'; simp [cm_]; omega
    refine .seq (.seq (.rgn [] (by simp only [go_sem, seval, as_, ax_]; rfl) ?_ ?_))
    ·first | trivial | simp
    refine .condB (by simp only [go_sem, seval, as_, ax_]; rfl) (by simp only [go_sem, seval, as_, ax_]) (fun h47 => ?_) (fun h47 => ?_)
    ·refine .seq (.rgn [] (by simp only [go_sem, seval, as_, ax_]; rfl) ?_ ?_)
     ·first | trivial | simp
     refine .ret ⟨.inr rfl, ?_⟩
     exact Out.plainL (by simp only [Tryz.results118]; rfl) (by simp only [av_, a3_, go_sem, seval, as_, ax_] <;> (split <;> rfl)) (by simp only [a2_, go_sem, seval, as_, ax_] <;> (simp only [T3_] at h14; simp only [beq_eq_false_iff_ne] at h18; simp only [beq_iff_eq] at h47; have e := mu_ (show k.1 < s.length by omega) k.1; rw [if_neg (fun h => h18 ((go_ (by omega)).1 h)), if_pos h47] at e; rw [f0_ (by omega), hI.2.2.2, e]; simp [tkR, ler])) (by simp only [go_sem, seval, as_, ax_])
    ·refine .skip (.seq (.rgn [] (by simp only [go_sem, seval, as_, ax_]; rfl) ?_ ?_))
     ·simp [adf_]; omega
     refine .rgn [] (by simp only [go_sem, seval, as_, ax_]; rfl) ?_ ?_
     ·first | trivial | simp
     refine Exists.intro ((k.1 + du_ (s.drop k.1), k.2 ++ [⟨c6_ ((s.drop k.1).take (du_ (s.drop k.1))), (s.drop k.1).take (du_ (s.drop k.1)), k.1⟩])) ⟨?_, ?_, ?_⟩
     ·simp only [T3_] at h14; simp only [beq_eq_false_iff_ne] at h18 h47; obtain ⟨i1, i2, i3, i4⟩ := hI; have e := mu_ (show k.1 < s.length by omega) k.1; rw [if_neg (fun h => h18 ((go_ (by omega)).1 h)), if_neg h47] at e; have hb := zc_ (show k.1 < s.length by omega); exact ⟨by dsimp only; omega, i2, by simp only [T2_, List.length_singleton]; omega, by rw [i4, e, Option.map_map]; simp [Function.comp_def]⟩
     ·simp only [T3_] at h14; have hb := zc_ (show k.1 < s.length by omega); dsimp only; omega
     refine Can.trans (Can.swap 61 20 (by decide) (by decide) (by decide) (by decide) (by simp only [go_sem, seval, as_, ax_, V.cl]) (by simp only [go_sem, seval, as_, ax_, V.cl]) (by simp only [go_sem, seval, as_, ax_, bf_, sw, swM, rnB] <;> rfl) (by simp only [go_sem, seval, as_, ax_, bf_, sw, swM, rnB] <;> rfl) (by simp only [go_sem, seval, as_, ax_, bf_, sw, swM, rnB] <;> rfl)) ?_
     exact Can.weak (Weak.lit (by simp only [go_sem, seval, as_, ax_, aq_, leV, ao_, ap_, V.inn, us, T9_, Ta_] <;> ((have hb := zc_ (show k.1 < s.length by simpa using h14)); rw [bd_ (by omega) (by omega)]; simp)) (by simp only [go_sem, seval, as_, ax_, aq_, leV, ao_, ap_, V.inn, us, T9_, Ta_]) (by simp only [go_sem, seval, as_, ax_, aq_, leV, ao_, ap_, V.inn, us, T9_, Ta_] <;> (rw [nb_])))
  ·refine .exit (.seq (.rgn [bm_ [20] [] (zy_ k.2 k.2.length rfl (by omega))] (by simp only [go_sem, seval, as_, ax_]; rfl) ?_ ?_))
   ·simp [ah_, an_, as_]
   refine .frz 20 (by simp only [go_sem, seval, as_, ax_]; rfl) (by simp only [go_sem, seval, as_, ax_]) (by simp only [go_sem, seval, as_, ax_]; rfl) (by simp only [go_sem, seval, as_, ax_]; rfl) ?_
   refine .ret ⟨.inr rfl, ?_⟩
   exact Out.plainL (by simp only [Tryz.results118]; rfl) (by simp only [av_, a3_, go_sem, seval, as_, ax_] <;> (split <;> rfl)) (by simp only [a2_, go_sem, seval, as_, ax_] <;> (simp only [T4_] at h14; rw [f0_ (by omega), hI.2.2.2, qs_ (by omega)]; simp [T1_, ax_, leV, ba_])) (by simp only [go_sem, seval, as_, ax_])
end
end Go.Proofs.YtpikbndepapbhabGreatDoor
