/- What the library's functions answer: strconv.Atoi, strings.Contains; numbers. Conditions: none. -/
import Derived.Test.YtpikbndepapbhabGreatDoorKf
import Derived.Test.YtpikbndepapbhabGreatDoorKg
import Derived.Test.YtpikbndepapbhabGreatDoorKh
import Derived.Test.YtpikbndepapbhabGreatDoorKd
set_option linter.unusedVariables false
set_option linter.unusedSimpArgs false
namespace Go.Proofs.YtpikbndepapbhabGreatDoor
section
open Go.RowKit
set_option maxRecDepth 100000
set_option maxHeartbeats 1000000
theorem errU : En.P.underlying 187 = some (.interface (En.P.methodsAt 187)) := by kernel_rfl
def jq_ (o : Option Int) : V := match o with | some n => .i .i64 n | none => .no
def ho_ (s : Str) : Option Int := match Lib.atoiAll s with | .ok v => some v | _ => none
theorem aev_ (s : Str) (hs : s.length ≤ 281474976710656) : ACall En 198 [.s s] [] [jq_ (ho_ s), ifV (ho_ s).isSome] [] := by
 refine hv_ (fn := Tryz.f198) Tryz.func198 rfl rfl fun S w xs hx _ ⟨B, hB, _⟩ => ?_
 simp only [VRs, VR] at hx
 obtain ⟨x, r, e1, rfl, rfl⟩ := hx
 obtain rfl : xs = #[.string ⟨s.toArray⟩] := by apply Array.ext'; simpa using e1
 have hsz : (⟨s.toArray⟩ : ByteArray).size ≤ 281474976710656 := by simpa [ByteArray.size] using hs
 have hd : (⟨s.toArray⟩ : ByteArray).data.toList = s := by simp
 cases h : Lib.atoiAll s with
 | ok v =>
  have ho : ho_ s = some v := by simp [ho_, h]
  refine (Tryz.strconv_Atoi_ok ⟨s.toArray⟩ (by omega) v (by rw [hd]; exact h) w).mono ?_
  rintro e w' ⟨rfl, hw⟩
  refine ⟨[.int .i64 v, .nilIface], rfl, ?_, ?_⟩
  ·rcases hw with rfl | ⟨t, rfl⟩
   ·exact Below.refl _ _
   ·exact Lib.bytesWorld_below _ _ _
  ·rw [ho]; exact .cons (by simp only [jq_, VR]) (.cons (by simp [ifV, VR]) .nil)
 | range =>
  have ho : ho_ s = none := by simp [ho_, h]
  obtain ⟨tp, p, hv⟩ := hB.rng
  refine (Any.strconv_Atoi_range_var Tryz.laysC172 ⟨s.toArray⟩ hsz (by rw [hd]; exact h) tp p w hv).mono ?_
  rintro e w' ⟨N, rfl, _, _, hb⟩
  exact ⟨[_, _], rfl, hb, by rw [ho]; exact .cons (by simp only [jq_, VR]) (.cons (by simp [ifV, VR]) .nil)⟩
 | _ =>
  have ho : ho_ s = none := by simp [ho_, h]
  obtain ⟨tp, p, hv⟩ := hB.syn
  refine (Any.strconv_Atoi_syntax_var Tryz.laysC172 ⟨s.toArray⟩ hsz (by rw [hd]; exact h) tp p w hv).mono ?_
  rintro e w' ⟨N, rfl, _, _, hb⟩
  exact ⟨[_, _], rfl, hb, by rw [ho]; exact .cons (by simp only [jq_, VR]) (.cons (by simp [ifV, VR]) .nil)⟩
def it_ (s : Str) : V := if cp_ s then .i .i64 (bx_ s) else .no
theorem b1_ (s : Str) : (it_ s).pure = true := by unfold it_; split <;> rfl
theorem c8_ (s : Str) : peel (it_ s) = it_ s := by unfold it_; split <;> rfl
theorem cr_ (s : Str) : dm_ (it_ s) = true := by unfold it_; split <;> rfl
theorem ad3_ (v : V) : leV v .no = True := by cases v <;> simp only [leV]
theorem wa_ : ∀ (l : Str) (c : UInt8), -1 ≤ Lib.indexByte l c
 | [], _ => by simp [Lib.indexByte]
 | b :: l, c => by
  have := wa_ l c
  simp only [Lib.indexByte]
  split
  ·decide
  ·split <;> omega
theorem rz_ : ∀ (l : Str) (c : UInt8), 0 ≤ Lib.indexByte l c ↔ c ∈ l
 | [], _ => by simp [Lib.indexByte]
 | b :: l, c => by
  have h1 := wa_ l c
  have h2 := rz_ l c
  rw [List.mem_cons, ← h2, Lib.indexByte]
  by_cases hb : b = c
  ·subst hb; rw [if_pos (beq_self_eq_true b)]; exact ⟨fun _ => .inl rfl, fun _ => Int.le_refl _⟩
  ·rw [if_neg (by simpa using hb)]
   by_cases hc : Lib.indexByte l c = -1
   ·rw [if_pos (by rw [hc]; rfl), hc]; exact ⟨fun h => absurd h (by decide), fun h => h.elim (fun e => absurd e.symm hb) id⟩
   ·rw [if_neg (by simpa using hc)]; exact ⟨fun h => .inr (by omega), fun h => h.elim (fun e => absurd e.symm hb) (fun h => by omega)⟩
theorem ic_ (l : Str) (c : UInt8) : decide (0 ≤ Lib.indexByte l c) = l.contains c := by
 rw [List.contains_eq_mem]; exact decide_eq_decide.2 (rz_ l c)
theorem acz_ (s : Str) (hs : s.length ≤ 281474976710656) (h : ho_ s = none) : ACall En 170 [.s s] [] [it_ s, .b (cp_ s)] [] := by
 have A := aev_ s hs
 rw [h] at A
 have hn : cp_ s = false := ac9_ fun v hv => by simp [ho_, hv] at h
 refine ak_ (fn := Tryz.f170) [] Tryz.func170 rfl rfl (by simp) fun C => ?_
 rw [aw_]
 simp only [Tryz.ntmps170, T7_, List.length_nil, Nat.reduceAdd, Nat.reduceSub, List.replicate_succ, List.replicate_zero, List.cons_append, List.nil_append, bk_]
 refine .seq (.rgn [] (by simp only [go_sem, seval, jq_, Option.isSome_none, b1_]; rfl) ?_ ?_)
 ·first | trivial | simp
 refine .seq (.rgn [a3_ A] (by simp only [go_sem, seval, jq_, Option.isSome_none, b1_]; rfl) ?_ ?_)
 ·first | trivial | simp
 refine .seq (.rgnS [13] [ifO En 187 false errU, a3_ (in_a 0 0 1000000), a3_ (w6_ 0 (by decide) (by decide))] (by simp only [go_sem, seval, jq_, Option.isSome_none, b1_]; rfl) ?_ ?_)
 ·first | trivial | simp
 refine .ret ⟨.inr rfl, ?_⟩
 exact Out.plainL (by simp only [Tryz.results170]; rfl) (by simp only [av_, a5_, go_sem, seval, jq_, Option.isSome_none, b1_] <;> (split <;> rfl)) (by simp only [a2_, go_sem, seval, jq_, Option.isSome_none, b1_] <;> (simp [hn, it_, ad3_])) (by simp only [go_sem, seval, jq_, Option.isSome_none, b1_])
theorem ae3_ (s : Str) (hs : s.length ≤ 281474976710656) {v : Int} (h : ho_ s = some v) : ACall En 170 [.s s] [] [it_ s, .b (cp_ s)] [] := by
 have A := aev_ s hs
 rw [h] at A
 have hv : Lib.atoiAll s = .ok v := by
  unfold ho_ at h
  split at h
  ·rename_i v' hv'; cases h; exact hv'
  ·cases h
 refine ak_ (fn := Tryz.f170) [] Tryz.func170 rfl rfl (by simp) fun C => ?_
 rw [aw_]
 simp only [Tryz.ntmps170, T7_, List.length_nil, Nat.reduceAdd, Nat.reduceSub, List.replicate_succ, List.replicate_zero, List.cons_append, List.nil_append, bk_]
 refine .seq (.rgn [] (by simp only [go_sem, seval, jq_, Option.isSome_some, b1_]; rfl) ?_ ?_)
 ·first | trivial | simp
 refine .seq (.rgn [a3_ A] (by simp only [go_sem, seval, jq_, Option.isSome_some, b1_]; rfl) ?_ ?_)
 ·first | trivial | simp
 refine .seq (.rgnS [13] [ifO En 187 true errU, a3_ (in_a v 0 1000000), by_ (0 ≤ v ∧ v ≤ 1000000) (fun h => w6_ v (by omega) (by omega))] (by simp only [go_sem, seval, jq_, Option.isSome_some, b1_]; rfl) ?_ ?_)
 ·first | trivial | simp
 refine .ret ⟨.inr rfl, ?_⟩
 exact Out.plainL (by simp only [Tryz.results170]; rfl) (by simp only [av_, a5_, go_sem, seval, jq_, Option.isSome_some, b1_] <;> (split <;> rfl)) (by simp only [a2_, go_sem, seval, jq_, Option.isSome_some, b1_] <;> (have k := ahg_ hv; cases hn : cp_ s; (simp only [hn] at k; simp only [it_, hn]; refine ⟨?_, ?_⟩; (simp only [Bool.false_eq_true, if_false]; rw [ad3_]; trivial); simpa using k); (have hv2 := ac2_ hv hn; simp only [it_, hn, if_true]; rw [← hv2]; simp only [hn] at k; simp only [gw_]; simpa using k))) (by simp only [go_sem, seval, jq_, Option.isSome_some, b1_])
theorem tv_ (s : Str) (hs : s.length ≤ 281474976710656) : ACall En 170 [.s s] [] [it_ s, .b (cp_ s)] [] := by
 cases h : ho_ s with
 | none => exact acz_ s hs h
 | some v => exact ae3_ s hs h
theorem m9_ (s : Str) (c : UInt8) : ACall En 140 [.s s, .s [c]] [] [.b (s.contains c)] [] := by
 refine hv_ (fn := Tryz.f140) Tryz.func140 rfl rfl fun S w xs hx _ ⟨B, hB, _⟩ => ?_
 simp only [VRs, VR] at hx
 obtain ⟨x, r, e1, rfl, y, q, rfl, rfl, rfl⟩ := hx
 obtain rfl : xs = #[.string ⟨s.toArray⟩, .string ⟨#[c]⟩] := by apply Array.ext'; simpa using e1
 refine (Tryz.strings_Contains_one ⟨s.toArray⟩ c w).mono ?_
 rintro e w' ⟨rfl, rfl⟩
 refine ⟨[_], rfl, Below.refl _ _, .cons ?_ .nil⟩
 simp only [VR]
 rw [← ic_]
end
section
set_option maxRecDepth 100000
set_option maxHeartbeats 4000000
theorem ae2_ (s : Str) (hs : s.length ≤ 281474976710656) : ACall En 122 [.i .i64 2, .s s] [] [.b (cp_ s)] [] := by
 refine ak_ (fn := Tryz.f122) [] Tryz.func122 rfl rfl (by simp) fun C => ?_
 rw [aw_]
 simp only [Tryz.ntmps122, T7_, List.length_nil, Nat.reduceAdd, Nat.reduceSub, List.replicate_succ, List.replicate_zero, List.cons_append, List.nil_append, bk_]
 refine .seq (.rgn [] (by simp only [go_sem, seval, b1_, c8_, cr_]; rfl) ?_ ?_)
 ·first | trivial | simp
 refine .seq (.seq (.rgn [] (by simp only [go_sem, seval, b1_, c8_, cr_]; rfl) ?_ ?_))
 ·first | trivial | simp
 refine .block (.seq (.rgn [] (by simp only [go_sem, seval, b1_, c8_, cr_]; rfl) ?_ ?_))
 ·first | trivial | simp
 refine .condB (by simp only [go_sem, seval, b1_, c8_, cr_]; rfl) (by simp only [go_sem, seval, b1_, c8_, cr_]) (fun h8 => ?_) (fun h8 => ?_)
 ·exact absurd h8 (by simp)
 ·refine .seq (.rgn [] (by simp only [go_sem, seval, b1_, c8_, cr_]; rfl) ?_ ?_)
  ·first | trivial | simp
  refine .condB (by simp only [go_sem, seval, b1_, c8_, cr_]; rfl) (by simp only [go_sem, seval, b1_, c8_, cr_]) (fun h20 => ?_) (fun h20 => ?_)
  ·refine .seq (.rgn [a3_ (tv_ s hs)] (by simp only [go_sem, seval, b1_, c8_, cr_]; rfl) ?_ ?_)
   ·first | trivial | simp
   refine .seq (.rgn [] (by simp only [go_sem, seval, b1_, c8_, cr_]; rfl) ?_ ?_)
   ·first | trivial | simp
   refine .ret ⟨.inr rfl, ?_⟩
   exact Out.plain (by simp only [Tryz.results122]; rfl) (by simp only [av_, a5_, go_sem, seval, b1_, c8_, cr_] <;> (split <;> rfl)) (by simp only [a2_, go_sem, seval, b1_, c8_, cr_] <;> (rfl)) (by simp only [go_sem, seval, b1_, c8_, cr_])
  ·exact absurd h20 (by simp)
theorem v0_ (c : UInt8) : ACall En 122 [.i .i64 3, .s [c]] [] [.b (el_ [c])] [] := by
 refine ak_ (fn := Tryz.f122) [] Tryz.func122 rfl rfl (by simp) fun C => ?_
 rw [aw_]
 simp only [Tryz.ntmps122, T7_, List.length_nil, Nat.reduceAdd, Nat.reduceSub, List.replicate_succ, List.replicate_zero, List.cons_append, List.nil_append, bk_]
 refine .seq (.rgn [] (by simp only [go_sem, seval]; rfl) ?_ ?_)
 ·(first | trivial | (simp [marks]; done))
 refine .seq (.seq (.rgn [] (by simp only [go_sem, seval]; rfl) ?_ ?_))
 ·(first | trivial | (simp [marks]; done))
 refine .block (.seq (.rgn [] (by simp only [go_sem, seval]; rfl) ?_ ?_))
 ·(first | trivial | (simp [marks]; done))
 refine .condB (by simp only [go_sem, seval]; rfl) (by simp only [go_sem, seval]) (fun h8 => ?_) (fun h8 => ?_)
 ·exact absurd h8 (by simp)
 ·refine .seq (.rgn [] (by simp only [go_sem, seval]; rfl) ?_ ?_)
  ·(first | trivial | (simp [marks]; done))
  refine .condB (by simp only [go_sem, seval]; rfl) (by simp only [go_sem, seval]) (fun h20 => ?_) (fun h20 => ?_)
  ·exact absurd h20 (by simp)
  ·refine .seq (.rgn [] (by simp only [go_sem, seval]; rfl) ?_ ?_)
   ·(first | trivial | (simp [marks]; done))
   refine .condB (by simp only [go_sem, seval]; rfl) (by simp only [go_sem, seval]) (fun h28 => ?_) (fun h28 => ?_)
   ·refine .seq (.rgn [a3_ (m9_ marks c)] (by simp only [go_sem, seval]; rfl) ?_ ?_)
    ·(first | trivial | (simp [marks]; done))
    refine .ret ⟨.inr rfl, ?_⟩
    exact Out.plain (by simp only [Tryz.results122]; rfl) (by simp only [av_, a5_, go_sem, seval] <;> (split <;> rfl)) (by simp only [a2_, go_sem, seval] <;> (simp [el_])) (by simp only [go_sem, seval])
   ·exact absurd h28 (by simp)
theorem v1_ (s : Str) (h : s.length ≠ 1) : ACall En 122 [.i .i64 3, .s s] [] [.b (el_ s)] [] := by
 have h2 : ((s.length : Int) == 1) = false := by simpa using (show ¬ (s.length : Int) = 1 by omega)
 refine ak_ (fn := Tryz.f122) [] Tryz.func122 rfl rfl (by simp) fun C => ?_
 rw [aw_]
 simp only [Tryz.ntmps122, T7_, List.length_nil, Nat.reduceAdd, Nat.reduceSub, List.replicate_succ, List.replicate_zero, List.cons_append, List.nil_append, bk_]
 refine .seq (.rgn [] (by simp only [go_sem, seval]; rfl) ?_ ?_)
 ·(first | trivial | (simp [h2]; done))
 refine .seq (.seq (.rgn [] (by simp only [go_sem, seval]; rfl) ?_ ?_))
 ·(first | trivial | (simp [h2]; done))
 refine .block (.seq (.rgn [] (by simp only [go_sem, seval]; rfl) ?_ ?_))
 ·(first | trivial | (simp [h2]; done))
 refine .condB (by simp only [go_sem, seval]; rfl) (by simp only [go_sem, seval]) (fun h8 => ?_) (fun h8 => ?_)
 ·exact absurd h8 (by simp)
 ·refine .seq (.rgn [] (by simp only [go_sem, seval]; rfl) ?_ ?_)
  ·(first | trivial | (simp [h2]; done))
  refine .condB (by simp only [go_sem, seval]; rfl) (by simp only [go_sem, seval]) (fun h20 => ?_) (fun h20 => ?_)
  ·exact absurd h20 (by simp)
  ·refine .seq (.rgn [] (by simp only [go_sem, seval]; rfl) ?_ ?_)
   ·(first | trivial | (simp [h2]; done))
   refine .condB (by simp only [go_sem, seval]; rfl) (by simp only [go_sem, seval]) (fun h28 => ?_) (fun h28 => ?_)
   ·refine .seq (.rgn [a3_ (m9_ marks 0)] (by simp only [go_sem, seval]; rfl) ?_ ?_)
    ·(first | trivial | (simp [h2]; done))
    refine .ret ⟨.inr rfl, ?_⟩
    exact Out.plain (by simp only [Tryz.results122]; rfl) (by simp only [av_, a5_, go_sem, seval] <;> (split <;> rfl)) (by simp only [a2_, go_sem, seval] <;> (simp [el_, h, h2])) (by simp only [go_sem, seval])
   ·exact absurd h28 (by simp)
def og_ (k : Int) (s : Str) : Bool := if k = 1 then ed_ s else if k = 2 then cp_ s else el_ s
theorem aha_ (k : Int) (hk : k = 1 ∨ k = 2 ∨ k = 3) (s : Str) (hs : s.length ≤ 281474976710656) : ACall En 122 [.i .i64 k, .s s] [] [.b (og_ k s)] [] := by
 rcases hk with rfl | rfl | rfl
 ·exact t1_ s (by omega)
 ·exact ae2_ s hs
 ·by_cases h : s.length = 1
  ·obtain ⟨c, rfl⟩ := List.length_eq_one_iff.1 h
   exact v0_ c
  ·exact v1_ s h
theorem ov_ (s : Str) : cz_ s = if og_ 1 s then 1 else if og_ 2 s then 2 else if og_ 3 s then 3 else 0 := rfl
theorem z4_ (s : Str) (hs : s.length ≤ 281474976710656) : ACall En 163 [.s s] [] [.i .i64 (cz_ s)] [] := by
 refine ak_ (fn := Tryz.f163) [] Tryz.func163 rfl rfl (by simp) fun C => ?_
 rw [aw_]
 simp only [Tryz.ntmps163, T7_, List.length_nil, Nat.reduceAdd, Nat.reduceSub, List.replicate_succ, List.replicate_zero, List.cons_append, List.nil_append, bk_]
 refine .seq (.rgn [] (by simp only [go_sem, seval]; rfl) ?_ ?_)
 ·first | trivial | simp
 refine .seq (.seq (.rgn [] (by simp only [go_sem, seval]; rfl) ?_ ?_))
 ·first | trivial | simp
 refine .block (.loopK (fun k : Int => ⟨[.s s, .no, .no, .i .i64 k, .no, .no, .no, .no, .no, .no, .no, .no], be_ [], us []⟩) (fun k : Int => 1 ≤ k ∧ k ≤ 4 ∧ (1 < k → og_ 1 s = false) ∧ (2 < k → og_ 2 s = false) ∧ (3 < k → og_ 3 s = false)) (fun k : Int => (4 - k).toNat) (1) ?_ ?_ (fun k hI => ?_))
 ·simp
 ·exact Can.weak (Weak.lit (by simp only [go_sem, seval, as_, leV, aq_, ar_, V.inn, us, T9_, Ta_] <;> (simp)) (by simp only [go_sem, seval, as_, leV, aq_, ar_, V.inn, us, T9_, Ta_]) (by simp only [go_sem, seval, as_, leV, aq_, ar_, V.inn, us, T9_, Ta_]))
 refine .seq (.seq (.rgn [] (by simp only [go_sem, seval]; rfl) ?_ ?_))
 ·first | trivial | simp
 refine .condB (by simp only [go_sem, seval]; rfl) (by simp only [go_sem, seval]) (fun h5 => ?_) (fun h5 => ?_)
 ·refine .skip (.seq (.block (.seq (.rgn [by_ (k = 1 ∨ k = 2 ∨ k = 3) (fun h => aha_ k h s hs)] (by simp only [go_sem, seval]; rfl) ?_ ?_))))
  ·simp at h5; omega
  refine .condB (by simp only [go_sem, seval]; rfl) (by simp only [go_sem, seval]) (fun h10 => ?_) (fun h10 => ?_)
  ·refine .seq (.rgn [] (by simp only [go_sem, seval]; rfl) ?_ ?_)
   ·first | trivial | simp
   refine .ret ⟨.inr rfl, ?_⟩
   exact Out.plain (by simp only [Tryz.results163]; rfl) (by simp only [av_, a5_, go_sem, seval] <;> (split <;> rfl)) (by simp only [a2_, go_sem, seval] <;> (simp at h5; (have hk : k = 1 ∨ k = 2 ∨ k = 3 := by omega); rw [ov_]; rcases hk with rfl | rfl | rfl <;> simp_all)) (by simp only [go_sem, seval])
  ·refine .skip (.rgn [] (by simp only [go_sem, seval]; rfl) ?_ ?_)
   ·first | trivial | simp
   refine Exists.intro (k + 1) ⟨?_, ?_, ?_⟩
   ·simp at h5; (have hk : k = 1 ∨ k = 2 ∨ k = 3 := by omega); rcases hk with rfl | rfl | rfl <;> simp_all
   ·simp at h5; omega
   exact Can.weak (Weak.lit (by simp only [go_sem, seval, as_, leV, aq_, ar_, V.inn, us, T9_, Ta_] <;> (rw [bg_ (by omega) (by omega)])) (by simp only [go_sem, seval, as_, leV, aq_, ar_, V.inn, us, T9_, Ta_]) (by simp only [go_sem, seval, as_, leV, aq_, ar_, V.inn, us, T9_, Ta_]))
 ·refine .exit (.seq (.rgn [] (by simp only [go_sem, seval]; rfl) ?_ ?_))
  ·first | trivial | simp
  refine .ret ⟨.inr rfl, ?_⟩
  exact Out.plain (by simp only [Tryz.results163]; rfl) (by simp only [av_, a5_, go_sem, seval] <;> (split <;> rfl)) (by simp only [a2_, go_sem, seval] <;> (simp at h5; (have hk : k = 4 := by omega); subst hk; simp_all [ov_])) (by simp only [go_sem, seval])
def tkR (l : List Tk) : List (List V) := l.map fun t => [.i .i64 t.kind, .s t.s, .i .i64 t.col]
theorem ay_ (l : List Tk) : (tkR l).length = l.length := by simp [tkR]
theorem au_ : ∀ l : List Tk, b3_ (tkR l) = true
 | [] => rfl
 | _ :: r => by show (cd_ [_, _, _] && b3_ (tkR r)) = true; rw [au_ r]; rfl
theorem oh_ (l : List Tk) (t : Tk) : tkR (l ++ [t]) = tkR l ++ [[.i .i64 t.kind, .s t.s, .i .i64 t.col]] := by simp [tkR]
theorem abx_ (l : List Tk) : (∀ r, r ∈ tkR l → r.length = 3) = True := eq_true fun r hr => by obtain ⟨t, _, rfl⟩ := List.mem_map.1 hr; rfl
theorem x9_ {l : List Tk} {k : Nat} (h : k < l.length) : (tkR l).getD k [] = [.i .i64 (l.getD k ⟨0, [], 0⟩).kind, .s (l.getD k ⟨0, [], 0⟩).s, .i .i64 (l.getD k ⟨0, [], 0⟩).col] := by
 simp [tkR, T8_, T6_ h]
theorem zk_ (l : List Tk) (n : Nat) (hn : n = l.length) (hl : l.length < 1099511627776) : ACall En 164 [.ow 0 3 0 n] [⟨125, 3, tkR l⟩] [.ow 0 3 0 n] [⟨125, 3, tkR l⟩] := by
 refine ak_ (fn := Tryz.f164) [0] Tryz.func164 rfl rfl (by simp) fun C => ?_
 rw [aw_]
 simp only [Tryz.ntmps164, T7_, List.length_nil, Nat.reduceAdd, Nat.reduceSub, List.replicate_succ, List.replicate_zero, List.cons_append, List.nil_append, bk_]
 refine .seq (.rgn [] (by simp only [go_sem, seval, au_]; rfl) ?_ ?_)
 ·subst hn; simp [ay_]
 refine .seq (.rgn [] (by simp only [go_sem, seval, au_]; rfl) ?_ ?_)
 ·subst hn; simp [ay_]
 refine .ret ⟨.inr rfl, ?_⟩
 exact Out.mem' (by simp only [Tryz.results164]; rfl) (by simp only [av_, a5_, go_sem, seval, au_]) (by simp only [a2_, rns, rn, go_sem, seval, au_] <;> (simp)) (by simp) rfl (by decide) (by simp only [go_sem, seval, au_]) (by simp only [ao_, go_sem, seval, au_]) (by simp only [aj_, go_sem, seval, au_] <;> (simp [b8_, au_]))
theorem n0_ {l : Str} {k : Nat} (h : k < l.length) (col : Int) : em_ (l.drop k).length (l.drop k) col =
  if l.getD k 0 = 32 then em_ (l.drop (k + 1)).length (l.drop (k + 1)) (col + 1)
  else if cz_ ((l.drop k).take (dp_ (l.drop k))) = 0 then none
  else (em_ (l.drop (k + dp_ (l.drop k))).length (l.drop (k + dp_ (l.drop k))) (col + dp_ (l.drop k))).map (⟨cz_ ((l.drop k).take (dp_ (l.drop k))), (l.drop k).take (dp_ (l.drop k)), col⟩ :: ·) := by
 have e : l.drop k = l.getD k 0 :: l.drop (k + 1) := by
  rw [List.drop_eq_getElem_cons h, T8_, T6_ h]; rfl
 have h2 := jh_ (l.getD k 0) (l.drop (k + 1)) col
 rw [← e, List.drop_drop] at h2
 exact h2
theorem g9_ {l : Str} {k : Nat} (h : k < l.length) : l.getD k 0 = 32 ↔ ((l.getD k 0).toNat : Int) = 32 := by
 constructor
 ·intro e; rw [e]; rfl
 ·intro e; apply UInt8.toNat_inj.1; show _ = 32; omega
theorem zq_ {s : Str} {k : Nat} (h : k < s.length) : 1 ≤ dp_ (s.drop k) ∧ k + dp_ (s.drop k) ≤ s.length := by
 have h1 := kw_ (s.drop k)
 have h2 := ag9_ (l := s.drop k) (fun e => by have := congrArg List.length e; rw [List.length_drop] at this; simp only [List.length_nil] at this; omega)
 rw [List.length_drop] at h2
 omega
theorem o0_ (s : Str) (k w : Nat) : (s.take (k + w)).drop k = (s.drop k).take w := by rw [List.drop_take, Nat.add_sub_cancel_left]
theorem ajg_ (r : Str) : (if ((r.takeWhile ce_).length : Int) > (if ((r.takeWhile cm_).length : Int) > 1 then ((r.takeWhile cm_).length : Int) else 1) then ((r.takeWhile ce_).length : Int) else (if ((r.takeWhile cm_).length : Int) > 1 then ((r.takeWhile cm_).length : Int) else 1)) = (dp_ r : Int) := by
 unfold dp_
 split <;> split at * <;> omega
theorem k2_ {s : Str} (h : 120 < s.length) : b4_ s = none := by rw [b4_, if_pos h]
theorem gk_ {s : Str} (h : s.length ≤ 120) : b4_ s = em_ s.length s 0 := by rw [b4_, if_neg (by omega)]
theorem qz_ {s : Str} {k : Nat} (h : s.length ≤ k) (c : Int) : em_ (s.drop k).length (s.drop k) c = some [] := by rw [List.drop_of_length_le h]; rfl
theorem aal_ (s : Str) (hs : s.length ≤ 281474976710656) : ACall En 118 [.s s] [] [.sl false (tkR ((b4_ s).getD [])), .b (b4_ s).isSome] [] := by
 refine ak_ (fn := Tryz.f118) [] Tryz.func118 rfl rfl (by simp) fun C => ?_
 rw [aw_]
 simp only [Tryz.ntmps118, T7_, List.length_nil, Nat.reduceAdd, Nat.reduceSub, List.replicate_succ, List.replicate_zero, List.cons_append, List.nil_append, bk_]
 refine .seq (.rgn [] (by simp only [go_sem, seval, au_, ay_]; rfl) ?_ ?_)
 ·first | trivial | simp
 refine .seq (.seq (.rgn [] (by simp only [go_sem, seval, au_, ay_]; rfl) ?_ ?_))
 ·first | trivial | simp
 refine .condB (by simp only [go_sem, seval, au_, ay_]; rfl) (by simp only [go_sem, seval, au_, ay_]) (fun h10 => ?_) (fun h10 => ?_)
 ·refine .seq (.rgn [] (by simp only [go_sem, seval, au_, ay_]; rfl) ?_ ?_)
  ·first | trivial | simp
  refine .ret ⟨.inr rfl, ?_⟩
  exact Out.plainL (by simp only [Tryz.results118]; rfl) (by simp only [av_, a5_, go_sem, seval, au_, ay_] <;> (split <;> rfl)) (by simp only [a2_, go_sem, seval, au_, ay_] <;> (simp at h10; rw [k2_ (by omega)]; simp [tkR, ler])) (by simp only [go_sem, seval, au_, ay_])
 ·refine .skip (.seq (.rgn [] (by simp only [go_sem, seval, au_, ay_]; rfl) ?_ ?_))
  ·first | trivial | simp
  refine .seq (.seq (.rgn [] (by simp only [go_sem, seval, au_, ay_]; rfl) ?_ ?_))
  ·first | trivial | simp
  refine .block (.loopK (fun k : Nat × List Tk => ⟨[.s s, .no, .no, .no, .ow 20 3 0 k.2.length, .i .i64 k.1, .no, .no, .no, .no, .no, .no, .no, .no, .no, .no, .no, .no, .no, .no, .no, .no, .no, .no, .no, .no, .no, .no, .no, .no, .no, .no, .no, .no, .no, .no, .no, .no, .no, .no, .no, .no, .no, .no, .no, .no, .no, .no, .no, .no, .no, .no, .no, .no, .no, .no, .no], be_ [(20, ⟨125, 3, tkR k.2⟩)], us [20]⟩) (fun k : Nat × List Tk => k.1 ≤ s.length ∧ s.length ≤ 120 ∧ k.2.length ≤ k.1 ∧ em_ s.length s 0 = (em_ (s.drop k.1).length (s.drop k.1) k.1).map (k.2 ++ ·)) (fun k : Nat × List Tk => s.length - k.1) ((0, [])) ?_ ?_ (fun k hI => ?_))
  ·simp at h10; simp; omega
  ·refine Can.trans (Can.ownSlot 4 20 125 3 (by simp only [go_sem, seval, au_, ay_] <;> rfl) (by simp only [go_sem, seval, au_, ay_]) (by simp only [go_sem, seval, au_, ay_] <;> rfl)) ?_
   exact Can.weak (Weak.lit (by simp only [go_sem, seval, au_, ay_, as_, leV, aq_, ar_, V.inn, us, T9_, Ta_] <;> (rfl)) (by simp only [go_sem, seval, au_, ay_, as_, leV, aq_, ar_, V.inn, us, T9_, Ta_]) (by simp only [go_sem, seval, au_, ay_, as_, leV, aq_, ar_, V.inn, us, T9_, Ta_] <;> (rfl)))
  refine .seq (.seq (.rgn [] (by simp only [go_sem, seval, au_, ay_]; rfl) ?_ ?_))
  ·first | trivial | simp
  refine .condB (by simp only [go_sem, seval, au_, ay_]; rfl) (by simp only [go_sem, seval, au_, ay_]) (fun h14 => ?_) (fun h14 => ?_)
  ·refine .skip (.block (.seq (.seq (.rgn [] (by simp only [go_sem, seval, au_, ay_]; rfl) ?_ ?_))))
   ·simp at h14; simp; exact h14
   refine .condB (by simp only [go_sem, seval, au_, ay_]; rfl) (by simp only [go_sem, seval, au_, ay_]) (fun h18 => ?_) (fun h18 => ?_)
   ·refine .seq (.rgn [] (by simp only [go_sem, seval, au_, ay_]; rfl) ?_ ?_)
    ·first | trivial | simp
    refine .exit ?_
    refine Exists.intro ((k.1 + 1, k.2)) ⟨?_, ?_, ?_⟩
    ·simp only [T3_] at h14; simp only [beq_iff_eq] at h18; obtain ⟨i1, i2, i3, i4⟩ := hI; have e := n0_ (show k.1 < s.length by omega) k.1; rw [if_pos ((g9_ (by omega)).2 h18)] at e; exact ⟨by dsimp only; omega, i2, by dsimp only; omega, by rw [i4, e]; rfl⟩
    ·simp only [T3_] at h14; dsimp only; omega
    exact Can.weak (Weak.lit (by simp only [go_sem, seval, au_, ay_, as_, leV, aq_, ar_, V.inn, us, T9_, Ta_] <;> (rw [bg_ (by omega) (by omega)]; rfl)) (by simp only [go_sem, seval, au_, ay_, as_, leV, aq_, ar_, V.inn, us, T9_, Ta_]) (by simp only [go_sem, seval, au_, ay_, as_, leV, aq_, ar_, V.inn, us, T9_, Ta_]))
   ·refine .skip (.seqJ (fun u : Unit => ⟨[.s s, .no, .no, .no, .ow 20 3 0 k.2.length, .i .i64 k.1, .i .i64 (dp_ (s.drop k.1)), .no, .no, .no, .no, .no, .no, .no, .no, .no, .no, .no, .no, .no, .no, .no, .no, .no, .no, .no, .no, .no, .no, .no, .no, .no, .no, .no, .no, .no, .no, .no, .no, .no, .no, .no, .no, .no, .no, .no, .no, .no, .no, .no, .no, .no, .no, .no, .no, .no, .no], be_ [(20, ⟨125, 3, tkR k.2⟩)], us [20]⟩) (fun u : Unit => True) ?_ (fun u hJ => ?_))
    ·refine .rgnDS [29] [a3_ (aeq_ cm_ 161 pr_ (s.drop k.1) (by simp; omega)), a3_ (aeq_ ce_ 162 zt_ (s.drop k.1) (by simp; omega)), maxO En] enM (by simp only [go_sem, seval, au_, ay_]; rfl) (by rfl) ?_ ?_
     ·simp at h14; simp; omega
     refine Exists.intro (()) ⟨?_, ?_⟩
     ·trivial
     exact Can.weak (Weak.lit (by simp only [go_sem, seval, au_, ay_, as_, leV, aq_, ar_, V.inn, us, T9_, Ta_] <;> (rw [ajg_])) (by simp only [go_sem, seval, au_, ay_, as_, leV, aq_, ar_, V.inn, us, T9_, Ta_]) (by simp only [go_sem, seval, au_, ay_, as_, leV, aq_, ar_, V.inn, us, T9_, Ta_]))
    refine .seq (.rgnD [a3_ (z4_ ((s.drop k.1).take (dp_ (s.drop k.1))) (by simp; omega))] enM (by simp only [go_sem, seval, au_, ay_, show IntKind.i64.wrap ((k.1 : Int) + (dp_ (s.drop k.1) : Int)) = ((k.1 + dp_ (s.drop k.1) : Nat) : Int) by (have := zq_ (show k.1 < s.length by simpa using h14); rw [bg_ (by omega) (by omega)]; rfl), o0_]; rfl) (by rfl) ?_ ?_)
    ·have h14' : k.1 < s.length := (by simpa using h14); have := zq_ h14'; simp [b0_]; omega
    refine .seq (.seq (.rgn [] (by simp only [go_sem, seval, au_, ay_]; rfl) ?_ ?_))
    ·first | trivial | simp
    refine .condB (by simp only [go_sem, seval, au_, ay_]; rfl) (by simp only [go_sem, seval, au_, ay_]) (fun h47 => ?_) (fun h47 => ?_)
    ·refine .seq (.rgn [] (by simp only [go_sem, seval, au_, ay_]; rfl) ?_ ?_)
     ·first | trivial | simp
     refine .ret ⟨.inr rfl, ?_⟩
     exact Out.plainL (by simp only [Tryz.results118]; rfl) (by simp only [av_, a5_, go_sem, seval, au_, ay_] <;> (split <;> rfl)) (by simp only [a2_, go_sem, seval, au_, ay_] <;> (simp only [T3_] at h14; simp only [beq_eq_false_iff_ne] at h18; simp only [beq_iff_eq] at h47; have e := n0_ (show k.1 < s.length by omega) k.1; rw [if_neg (fun h => h18 ((g9_ (by omega)).1 h)), if_pos h47] at e; rw [gk_ (by omega), hI.2.2.2, e]; simp [tkR, ler])) (by simp only [go_sem, seval, au_, ay_])
    ·refine .skip (.seq (.rgn [] (by simp only [go_sem, seval, au_, ay_]; rfl) ?_ ?_))
     ·simp [abx_]; omega
     refine .rgn [] (by simp only [go_sem, seval, au_, ay_]; rfl) ?_ ?_
     ·first | trivial | simp
     refine Exists.intro ((k.1 + dp_ (s.drop k.1), k.2 ++ [⟨cz_ ((s.drop k.1).take (dp_ (s.drop k.1))), (s.drop k.1).take (dp_ (s.drop k.1)), k.1⟩])) ⟨?_, ?_, ?_⟩
     ·simp only [T3_] at h14; simp only [beq_eq_false_iff_ne] at h18 h47; obtain ⟨i1, i2, i3, i4⟩ := hI; have e := n0_ (show k.1 < s.length by omega) k.1; rw [if_neg (fun h => h18 ((g9_ (by omega)).1 h)), if_neg h47] at e; have hb := zq_ (show k.1 < s.length by omega); exact ⟨by dsimp only; omega, i2, by simp only [T2_, List.length_singleton]; omega, by rw [i4, e, Option.map_map]; simp [Function.comp_def]⟩
     ·simp only [T3_] at h14; have hb := zq_ (show k.1 < s.length by omega); dsimp only; omega
     refine Can.trans (Can.swap 61 20 (by decide) (by decide) (by decide) (by decide) (by simp only [go_sem, seval, au_, ay_, V.cl]) (by simp only [go_sem, seval, au_, ay_, V.cl]) (by simp only [go_sem, seval, au_, ay_, bq_, sw, swM, rnB] <;> rfl) (by simp only [go_sem, seval, au_, ay_, bq_, sw, swM, rnB] <;> rfl) (by simp only [go_sem, seval, au_, ay_, bq_, sw, swM, rnB] <;> rfl)) ?_
     exact Can.weak (Weak.lit (by simp only [go_sem, seval, au_, ay_, as_, leV, aq_, ar_, V.inn, us, T9_, Ta_] <;> ((have hb := zq_ (show k.1 < s.length by simpa using h14)); rw [bg_ (by omega) (by omega)]; simp)) (by simp only [go_sem, seval, au_, ay_, as_, leV, aq_, ar_, V.inn, us, T9_, Ta_]) (by simp only [go_sem, seval, au_, ay_, as_, leV, aq_, ar_, V.inn, us, T9_, Ta_] <;> (rw [oh_])))
  ·refine .exit (.seq (.rgn [br_ [20] [] (zk_ k.2 k.2.length rfl (by omega))] (by simp only [go_sem, seval, au_, ay_]; rfl) ?_ ?_))
   ·simp [aj_, ao_, au_]
   refine .frz 20 (by simp only [go_sem, seval, au_, ay_]; rfl) (by simp only [go_sem, seval, au_, ay_]) (by simp only [go_sem, seval, au_, ay_]; rfl) (by simp only [go_sem, seval, au_, ay_]; rfl) ?_
   refine .ret ⟨.inr rfl, ?_⟩
   exact Out.plainL (by simp only [Tryz.results118]; rfl) (by simp only [av_, a5_, go_sem, seval, au_, ay_] <;> (split <;> rfl)) (by simp only [a2_, go_sem, seval, au_, ay_] <;> (simp only [T4_] at h14; rw [gk_ (by omega), hI.2.2.2, qz_ (by omega)]; simp [T1_, ay_, leV, bd_])) (by simp only [go_sem, seval, au_, ay_])
end
end Go.Proofs.YtpikbndepapbhabGreatDoor
