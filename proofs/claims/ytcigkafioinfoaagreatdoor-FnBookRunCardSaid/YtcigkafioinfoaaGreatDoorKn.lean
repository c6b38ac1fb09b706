/- What the library's functions answer: strconv.Atoi, strings.Contains; numbers. Conditions: none. -/
import Derived.Test.YtcigkafioinfoaaGreatDoorKf
import Derived.Test.YtcigkafioinfoaaGreatDoorKg
import Derived.Test.YtcigkafioinfoaaGreatDoorKh
import Derived.Test.YtcigkafioinfoaaGreatDoorKd
set_option linter.unusedVariables false
set_option linter.unusedSimpArgs false
namespace Go.Proofs.YtcigkafioinfoaaGreatDoor
section
open Go.RowKit
set_option maxRecDepth 100000
set_option maxHeartbeats 1000000
theorem errU : En.P.underlying 238 = some (.interface (En.P.methodsAt 238)) := by kernel_rfl
def j5_ (o : Option Int) : V := match o with | some n => .i .i64 n | none => .no
def h0_ (s : Str) : Option Int := match Lib.atoiAll s with | .ok v => some v | _ => none
theorem adl_ (s : Str) (hs : s.length ≤ 281474976710656) : ACall En 258 [.s s] [] [j5_ (h0_ s), ifV (h0_ s).isSome] [] := by
 refine f4_ (fn := Tryz.f258) Tryz.func258 rfl rfl fun S w xs hx _ ⟨B, hB, _⟩ => ?_
 simp only [VRs, VR] at hx
 obtain ⟨x, r, e1, rfl, rfl⟩ := hx
 obtain rfl : xs = #[.string ⟨s.toArray⟩] := by apply Array.ext'; simpa using e1
 have hsz : (⟨s.toArray⟩ : ByteArray).size ≤ 281474976710656 := by simpa [ByteArray.size] using hs
 have hd : (⟨s.toArray⟩ : ByteArray).data.toList = s := by simp
 cases h : Lib.atoiAll s with
 | ok v =>
  have ho : h0_ s = some v := by simp [h0_, h]
  refine (Tryz.strconv_Atoi_ok ⟨s.toArray⟩ (by omega) v (by rw [hd]; exact h) w).mono ?_
  rintro e w' ⟨rfl, hw⟩
  refine ⟨[.int .i64 v, .nilIface], rfl, ?_, ?_⟩
  ·rcases hw with rfl | ⟨t, rfl⟩
   ·exact Below.refl _ _
   ·exact Lib.bytesWorld_below _ _ _
  ·rw [ho]; exact .cons (by simp only [j5_, VR]) (.cons (by simp [ifV, VR]) .nil)
 | range =>
  have ho : h0_ s = none := by simp [h0_, h]
  obtain ⟨tp, p, hv⟩ := hB.rng
  refine (Any.strconv_Atoi_range_var Tryz.laysC172 ⟨s.toArray⟩ hsz (by rw [hd]; exact h) tp p w hv).mono ?_
  rintro e w' ⟨N, rfl, _, _, hb⟩
  exact ⟨[_, _], rfl, hb, by rw [ho]; exact .cons (by simp only [j5_, VR]) (.cons (by simp [ifV, VR]) .nil)⟩
 | _ =>
  have ho : h0_ s = none := by simp [h0_, h]
  obtain ⟨tp, p, hv⟩ := hB.syn
  refine (Any.strconv_Atoi_syntax_var Tryz.laysC172 ⟨s.toArray⟩ hsz (by rw [hd]; exact h) tp p w hv).mono ?_
  rintro e w' ⟨N, rfl, _, _, hb⟩
  exact ⟨[_, _], rfl, hb, by rw [ho]; exact .cons (by simp only [j5_, VR]) (.cons (by simp [ifV, VR]) .nil)⟩
def jl_ (s : Str) : V := if cx_ s then .i .i64 (b3_ s) else .no
theorem b8_ (s : Str) : (jl_ s).pure = true := by unfold jl_; split <;> rfl
theorem dg_ (s : Str) : peel (jl_ s) = jl_ s := by unfold jl_; split <;> rfl
theorem c0_ (s : Str) : dv_ (jl_ s) = true := by unfold jl_; split <;> rfl
theorem adw_ (v : V) : leV v .no = True := by cases v <;> simp only [leV]
theorem p4_ : ∀ (l : Str) (c : UInt8), -1 ≤ Lib.indexByte l c
 | [], _ => by simp [Lib.indexByte]
 | b :: l, c => by
  have := p4_ l c
  simp only [Lib.indexByte]
  split
  ·decide
  ·split <;> omega
theorem s7_ : ∀ (l : Str) (c : UInt8), 0 ≤ Lib.indexByte l c ↔ c ∈ l
 | [], _ => by simp [Lib.indexByte]
 | b :: l, c => by
  have h1 := p4_ l c
  have h2 := s7_ l c
  rw [List.mem_cons, ← h2, Lib.indexByte]
  by_cases hb : b = c
  ·subst hb; rw [if_pos (beq_self_eq_true b)]; exact ⟨fun _ => .inl rfl, fun _ => Int.le_refl _⟩
  ·rw [if_neg (by simpa using hb)]
   by_cases hc : Lib.indexByte l c = -1
   ·rw [if_pos (by rw [hc]; rfl), hc]; exact ⟨fun h => absurd h (by decide), fun h => h.elim (fun e => absurd e.symm hb) id⟩
   ·rw [if_neg (by simpa using hc)]; exact ⟨fun h => .inr (by omega), fun h => h.elim (fun e => absurd e.symm hb) (fun h => by omega)⟩
theorem iq_ (l : Str) (c : UInt8) : decide (0 ≤ Lib.indexByte l c) = l.contains c := by
 rw [List.contains_eq_mem]; exact decide_eq_decide.2 (s7_ l c)
theorem ahl_ (s : Str) (hs : s.length ≤ 281474976710656) (h : h0_ s = none) : ACall En 225 [.s s] [] [jl_ s, .b (cx_ s)] [] := by
 have A := adl_ s hs
 rw [h] at A
 have hn : cx_ s = false := afx_ fun v hv => by simp [h0_, hv] at h
 refine aj_ (fn := Tryz.f225) [] Tryz.func225 rfl rfl (by simp) fun C => ?_
 rw [ay_]
 simp only [Tryz.ntmps225, T7_, List.length_nil, Nat.reduceAdd, Nat.reduceSub, List.replicate_succ, List.replicate_zero, List.cons_append, List.nil_append, bu_]
 refine .seq (.rgn [] (by simp only [go_sem, seval, j5_, Option.isSome_none, b8_]; rfl) ?_ ?_)
 ·first | trivial | simp
 refine .seq (.rgn [a8_ A] (by simp only [go_sem, seval, j5_, Option.isSome_none, b8_]; rfl) ?_ ?_)
 ·first | trivial | simp
 refine .seq (.rgnS [13] [ifO En 238 false errU, a8_ (x2_ 0 0 1000000), a8_ (yz_ 0 (by decide) (by decide))] (by simp only [go_sem, seval, j5_, Option.isSome_none, b8_]; rfl) ?_ ?_)
 ·first | trivial | simp
 refine .ret ⟨.inr rfl, ?_⟩
 exact Out.plainL (by simp only [Tryz.results225]; rfl) (by simp only [az_, bc_, go_sem, seval, j5_, Option.isSome_none, b8_] <;> (split <;> rfl)) (by simp only [bb_, go_sem, seval, j5_, Option.isSome_none, b8_] <;> (simp [hn, jl_, adw_])) (by simp only [go_sem, seval, j5_, Option.isSome_none, b8_])
theorem adc_ (s : Str) (hs : s.length ≤ 281474976710656) {v : Int} (h : h0_ s = some v) : ACall En 225 [.s s] [] [jl_ s, .b (cx_ s)] [] := by
 have A := adl_ s hs
 rw [h] at A
 have hv : Lib.atoiAll s = .ok v := by
  unfold h0_ at h
  split at h
  ·rename_i v' hv'; cases h; exact hv'
  ·cases h
 refine aj_ (fn := Tryz.f225) [] Tryz.func225 rfl rfl (by simp) fun C => ?_
 rw [ay_]
 simp only [Tryz.ntmps225, T7_, List.length_nil, Nat.reduceAdd, Nat.reduceSub, List.replicate_succ, List.replicate_zero, List.cons_append, List.nil_append, bu_]
 refine .seq (.rgn [] (by simp only [go_sem, seval, j5_, Option.isSome_some, b8_]; rfl) ?_ ?_)
 ·first | trivial | simp
 refine .seq (.rgn [a8_ A] (by simp only [go_sem, seval, j5_, Option.isSome_some, b8_]; rfl) ?_ ?_)
 ·first | trivial | simp
 refine .seq (.rgnS [13] [ifO En 238 true errU, a8_ (x2_ v 0 1000000), ce_ (0 ≤ v ∧ v ≤ 1000000) (fun h => yz_ v (by omega) (by omega))] (by simp only [go_sem, seval, j5_, Option.isSome_some, b8_]; rfl) ?_ ?_)
 ·first | trivial | simp
 refine .ret ⟨.inr rfl, ?_⟩
 exact Out.plainL (by simp only [Tryz.results225]; rfl) (by simp only [az_, bc_, go_sem, seval, j5_, Option.isSome_some, b8_] <;> (split <;> rfl)) (by simp only [bb_, go_sem, seval, j5_, Option.isSome_some, b8_] <;> (have k := aio_ hv; cases hn : cx_ s; (simp only [hn] at k; simp only [jl_, hn]; refine ⟨?_, ?_⟩; (simp only [Bool.false_eq_true, if_false]; rw [adw_]; trivial); simpa using k); (have hv2 := af4_ hv hn; simp only [jl_, hn, if_true]; rw [← hv2]; simp only [hn] at k; simp only [hb_]; simpa using k))) (by simp only [go_sem, seval, j5_, Option.isSome_some, b8_])
theorem vl_ (s : Str) (hs : s.length ≤ 281474976710656) : ACall En 225 [.s s] [] [jl_ s, .b (cx_ s)] [] := by
 cases h : h0_ s with
 | none => exact ahl_ s hs h
 | some v => exact adc_ s hs h
theorem nn_ (s : Str) (c : UInt8) : ACall En 209 [.s s, .s [c]] [] [.b (s.contains c)] [] := by
 refine f4_ (fn := Tryz.f209) Tryz.func209 rfl rfl fun S w xs hx _ ⟨B, hB, _⟩ => ?_
 simp only [VRs, VR] at hx
 obtain ⟨x, r, e1, rfl, y, q, rfl, rfl, rfl⟩ := hx
 obtain rfl : xs = #[.string ⟨s.toArray⟩, .string ⟨#[c]⟩] := by apply Array.ext'; simpa using e1
 refine (Tryz.strings_Contains_one ⟨s.toArray⟩ c w).mono ?_
 rintro e w' ⟨rfl, rfl⟩
 refine ⟨[_], rfl, Below.refl _ _, .cons ?_ .nil⟩
 simp only [VR]
 rw [← iq_]
end
section
set_option maxRecDepth 100000
set_option maxHeartbeats 4000000
theorem afy_ (s : Str) (hs : s.length ≤ 281474976710656) : ACall En 178 [.i .i64 2, .s s] [] [.b (cx_ s)] [] := by
 refine aj_ (fn := Tryz.f178) [] Tryz.func178 rfl rfl (by simp) fun C => ?_
 rw [ay_]
 simp only [Tryz.ntmps178, T7_, List.length_nil, Nat.reduceAdd, Nat.reduceSub, List.replicate_succ, List.replicate_zero, List.cons_append, List.nil_append, bu_]
 refine .seq (.rgn [] (by simp only [go_sem, seval, b8_, dg_, c0_]; rfl) ?_ ?_)
 ·first | trivial | simp
 refine .seq (.seq (.rgn [] (by simp only [go_sem, seval, b8_, dg_, c0_]; rfl) ?_ ?_))
 ·first | trivial | simp
 refine .block (.seq (.rgn [] (by simp only [go_sem, seval, b8_, dg_, c0_]; rfl) ?_ ?_))
 ·first | trivial | simp
 refine .condB (by simp only [go_sem, seval, b8_, dg_, c0_]; rfl) (by simp only [go_sem, seval, b8_, dg_, c0_]) (fun h8 => ?_) (fun h8 => ?_)
 ·exact absurd h8 (by simp)
 ·refine .seq (.rgn [] (by simp only [go_sem, seval, b8_, dg_, c0_]; rfl) ?_ ?_)
  ·first | trivial | simp
  refine .condB (by simp only [go_sem, seval, b8_, dg_, c0_]; rfl) (by simp only [go_sem, seval, b8_, dg_, c0_]) (fun h20 => ?_) (fun h20 => ?_)
  ·refine .seq (.rgn [a8_ (vl_ s hs)] (by simp only [go_sem, seval, b8_, dg_, c0_]; rfl) ?_ ?_)
   ·first | trivial | simp
   refine .seq (.rgn [] (by simp only [go_sem, seval, b8_, dg_, c0_]; rfl) ?_ ?_)
   ·first | trivial | simp
   refine .ret ⟨.inr rfl, ?_⟩
   exact Out.plain (by simp only [Tryz.results178]; rfl) (by simp only [az_, bc_, go_sem, seval, b8_, dg_, c0_] <;> (split <;> rfl)) (by simp only [bb_, go_sem, seval, b8_, dg_, c0_] <;> (rfl)) (by simp only [go_sem, seval, b8_, dg_, c0_])
  ·exact absurd h20 (by simp)
theorem y6_ (c : UInt8) : ACall En 178 [.i .i64 3, .s [c]] [] [.b (ey_ [c])] [] := by
 refine aj_ (fn := Tryz.f178) [] Tryz.func178 rfl rfl (by simp) fun C => ?_
 rw [ay_]
 simp only [Tryz.ntmps178, T7_, List.length_nil, Nat.reduceAdd, Nat.reduceSub, List.replicate_succ, List.replicate_zero, List.cons_append, List.nil_append, bu_]
 refine .seq (.rgn [] (by simp only [go_sem, seval]; rfl) ?_ ?_)
 ·(first | trivial | (simp [marks]; done))
 refine .seq (.seq (.rgn [] (by simp only [go_sem, seval]; rfl) ?_ ?_))
 ·(first | trivial | (simp [marks]; done))
 refine .block (.seq (.rgn [] (by simp only [go_sem, seval]; rfl) ?_ ?_))
 ·(first | trivial | (simp [marks]; done))
 refine .condB (by simp only [go_sem, seval]; rfl) (by simp only [go_sem, seval]) (fun h8 => ?_) (fun h8 => ?_)
 ·exact absurd h8 (by simp)
 ·refine .seq (.rgn [] (by simp only [go_sem, seval]; rfl) ?_ ?_)
  ·(first | trivial | (simp [marks]; done))
  refine .condB (by simp only [go_sem, seval]; rfl) (by simp only [go_sem, seval]) (fun h20 => ?_) (fun h20 => ?_)
  ·exact absurd h20 (by simp)
  ·refine .seq (.rgn [] (by simp only [go_sem, seval]; rfl) ?_ ?_)
   ·(first | trivial | (simp [marks]; done))
   refine .condB (by simp only [go_sem, seval]; rfl) (by simp only [go_sem, seval]) (fun h28 => ?_) (fun h28 => ?_)
   ·refine .seq (.rgn [a8_ (nn_ marks c)] (by simp only [go_sem, seval]; rfl) ?_ ?_)
    ·(first | trivial | (simp [marks]; done))
    refine .ret ⟨.inr rfl, ?_⟩
    exact Out.plain (by simp only [Tryz.results178]; rfl) (by simp only [az_, bc_, go_sem, seval] <;> (split <;> rfl)) (by simp only [bb_, go_sem, seval] <;> (simp [ey_])) (by simp only [go_sem, seval])
   ·exact absurd h28 (by simp)
theorem x8_ (s : Str) (h : s.length ≠ 1) : ACall En 178 [.i .i64 3, .s s] [] [.b (ey_ s)] [] := by
 have h2 : ((s.length : Int) == 1) = false := by simpa using (show ¬ (s.length : Int) = 1 by omega)
 refine aj_ (fn := Tryz.f178) [] Tryz.func178 rfl rfl (by simp) fun C => ?_
 rw [ay_]
 simp only [Tryz.ntmps178, T7_, List.length_nil, Nat.reduceAdd, Nat.reduceSub, List.replicate_succ, List.replicate_zero, List.cons_append, List.nil_append, bu_]
 refine .seq (.rgn [] (by simp only [go_sem, seval]; rfl) ?_ ?_)
 ·(first | trivial | (simp [h2]; done))
 refine .seq (.seq (.rgn [] (by simp only [go_sem, seval]; rfl) ?_ ?_))
 ·(first | trivial | (simp [h2]; done))
 refine .block (.seq (.rgn [] (by simp only [go_sem, seval]; rfl) ?_ ?_))
 ·(first | trivial | (simp [h2]; done))
 refine .condB (by simp only [go_sem, seval]; rfl) (by simp only [go_sem, seval]) (fun h8 => ?_) (fun h8 => ?_)
 ·exact absurd h8 (by simp)
 ·refine .seq (.rgn [] (by simp only [go_sem, seval]; rfl) ?_ ?_)
  ·(first | trivial | (simp [h2]; done))
  refine .condB (by simp only [go_sem, seval]; rfl) (by simp only [go_sem, seval]) (fun h20 => ?_) (fun h20 => ?_)
  ·exact absurd h20 (by simp)
  ·refine .seq (.rgn [] (by simp only [go_sem, seval]; rfl) ?_ ?_)
   ·(first | trivial | (simp [h2]; done))
   refine .condB (by simp only [go_sem, seval]; rfl) (by simp only [go_sem, seval]) (fun h28 => ?_) (fun h28 => ?_)
   ·refine .seq (.rgn [a8_ (nn_ marks 0)] (by simp only [go_sem, seval]; rfl) ?_ ?_)
    ·(first | trivial | (simp [h2]; done))
    refine .ret ⟨.inr rfl, ?_⟩
    exact Out.plain (by simp only [Tryz.results178]; rfl) (by simp only [az_, bc_, go_sem, seval] <;> (split <;> rfl)) (by simp only [bb_, go_sem, seval] <;> (simp [ey_, h, h2])) (by simp only [go_sem, seval])
   ·exact absurd h28 (by simp)
def ov_ (k : Int) (s : Str) : Bool := if k = 1 then eq_ s else if k = 2 then cx_ s else ey_ s
theorem aiu_ (k : Int) (hk : k = 1 ∨ k = 2 ∨ k = 3) (s : Str) (hs : s.length ≤ 281474976710656) : ACall En 178 [.i .i64 k, .s s] [] [.b (ov_ k s)] [] := by
 rcases hk with rfl | rfl | rfl
 ·exact u9_ s (by omega)
 ·exact afy_ s hs
 ·by_cases h : s.length = 1
  ·obtain ⟨c, rfl⟩ := List.length_eq_one_iff.1 h
   exact y6_ c
  ·exact x8_ s h
theorem pn_ (s : Str) : c2_ s = if ov_ 1 s then 1 else if ov_ 2 s then 2 else if ov_ 3 s then 3 else 0 := rfl
theorem abc_ (s : Str) (hs : s.length ≤ 281474976710656) : ACall En 121 [.s s] [] [.i .i64 (c2_ s)] [] := by
 refine aj_ (fn := Tryz.f121) [] Tryz.func121 rfl rfl (by simp) fun C => ?_
 rw [ay_]
 simp only [Tryz.ntmps121, T7_, List.length_nil, Nat.reduceAdd, Nat.reduceSub, List.replicate_succ, List.replicate_zero, List.cons_append, List.nil_append, bu_]
 refine .seq (.rgn [] (by simp only [go_sem, seval]; rfl) ?_ ?_)
 ·first | trivial | simp
 refine .seq (.seq (.rgn [] (by simp only [go_sem, seval]; rfl) ?_ ?_))
 ·first | trivial | simp
 refine .block (.loopK (fun k : Int => ⟨[.s s, .no, .no, .i .i64 k, .no, .no, .no, .no, .no, .no, .no, .no], bh_ [], us []⟩) (fun k : Int => 1 ≤ k ∧ k ≤ 4 ∧ (1 < k → ov_ 1 s = false) ∧ (2 < k → ov_ 2 s = false) ∧ (3 < k → ov_ 3 s = false)) (fun k : Int => (4 - k).toNat) (1) ?_ ?_ (fun k hI => ?_))
 ·simp
 ·exact Can.weak (Weak.lit (by simp only [go_sem, seval, ar_, leV, ap_, aq_, V.inn, us, T9_, Ta_] <;> (simp)) (by simp only [go_sem, seval, ar_, leV, ap_, aq_, V.inn, us, T9_, Ta_]) (by simp only [go_sem, seval, ar_, leV, ap_, aq_, V.inn, us, T9_, Ta_]))
 refine .seq (.seq (.rgn [] (by simp only [go_sem, seval]; rfl) ?_ ?_))
 ·first | trivial | simp
 refine .condB (by simp only [go_sem, seval]; rfl) (by simp only [go_sem, seval]) (fun h5 => ?_) (fun h5 => ?_)
 ·refine .skip (.seq (.block (.seq (.rgn [ce_ (k = 1 ∨ k = 2 ∨ k = 3) (fun h => aiu_ k h s hs)] (by simp only [go_sem, seval]; rfl) ?_ ?_))))
  ·simp at h5; omega
  refine .condB (by simp only [go_sem, seval]; rfl) (by simp only [go_sem, seval]) (fun h10 => ?_) (fun h10 => ?_)
  ·refine .seq (.rgn [] (by simp only [go_sem, seval]; rfl) ?_ ?_)
   ·first | trivial | simp
   refine .ret ⟨.inr rfl, ?_⟩
   exact Out.plain (by simp only [Tryz.results121]; rfl) (by simp only [az_, bc_, go_sem, seval] <;> (split <;> rfl)) (by simp only [bb_, go_sem, seval] <;> (simp at h5; (have hk : k = 1 ∨ k = 2 ∨ k = 3 := by omega); rw [pn_]; rcases hk with rfl | rfl | rfl <;> simp_all)) (by simp only [go_sem, seval])
  ·refine .skip (.rgn [] (by simp only [go_sem, seval]; rfl) ?_ ?_)
   ·first | trivial | simp
   refine Exists.intro (k + 1) ⟨?_, ?_, ?_⟩
   ·simp at h5; (have hk : k = 1 ∨ k = 2 ∨ k = 3 := by omega); rcases hk with rfl | rfl | rfl <;> simp_all
   ·simp at h5; omega
   exact Can.weak (Weak.lit (by simp only [go_sem, seval, ar_, leV, ap_, aq_, V.inn, us, T9_, Ta_] <;> (rw [bi_ (by omega) (by omega)])) (by simp only [go_sem, seval, ar_, leV, ap_, aq_, V.inn, us, T9_, Ta_]) (by simp only [go_sem, seval, ar_, leV, ap_, aq_, V.inn, us, T9_, Ta_]))
 ·refine .exit (.seq (.rgn [] (by simp only [go_sem, seval]; rfl) ?_ ?_))
  ·first | trivial | simp
  refine .ret ⟨.inr rfl, ?_⟩
  exact Out.plain (by simp only [Tryz.results121]; rfl) (by simp only [az_, bc_, go_sem, seval] <;> (split <;> rfl)) (by simp only [bb_, go_sem, seval] <;> (simp at h5; (have hk : k = 4 := by omega); subst hk; simp_all [pn_])) (by simp only [go_sem, seval])
def tkR (l : List Tk) : List (List V) := l.map fun t => [.i .i64 t.kind, .s t.s, .i .i64 t.col]
theorem a4_ (l : List Tk) : (tkR l).length = l.length := by simp [tkR]
theorem aw_ : ∀ l : List Tk, b9_ (tkR l) = true
 | [] => rfl
 | _ :: r => by show (cd_ [_, _, _] && b9_ (tkR r)) = true; rw [aw_ r]; rfl
theorem pa_ (l : List Tk) (t : Tk) : tkR (l ++ [t]) = tkR l ++ [[.i .i64 t.kind, .s t.s, .i .i64 t.col]] := by simp [tkR]
theorem aga_ (l : List Tk) : (∀ r, r ∈ tkR l → r.length = 3) = True := eq_true fun r hr => by obtain ⟨t, _, rfl⟩ := List.mem_map.1 hr; rfl
theorem aa1_ {l : List Tk} {k : Nat} (h : k < l.length) : (tkR l).getD k [] = [.i .i64 (l.getD k ⟨0, [], 0⟩).kind, .s (l.getD k ⟨0, [], 0⟩).s, .i .i64 (l.getD k ⟨0, [], 0⟩).col] := by
 simp [tkR, T8_, T6_ h]
theorem abx_ (l : List Tk) (n : Nat) (hn : n = l.length) (hl : l.length < 1099511627776) : ACall En 122 [.ow 0 3 0 n] [⟨100, 3, tkR l⟩] [.ow 0 3 0 n] [⟨100, 3, tkR l⟩] := by
 refine aj_ (fn := Tryz.f122) [0] Tryz.func122 rfl rfl (by simp) fun C => ?_
 rw [ay_]
 simp only [Tryz.ntmps122, T7_, List.length_nil, Nat.reduceAdd, Nat.reduceSub, List.replicate_succ, List.replicate_zero, List.cons_append, List.nil_append, bu_]
 refine .seq (.rgn [] (by simp only [go_sem, seval, aw_]; rfl) ?_ ?_)
 ·subst hn; simp [a4_]
 refine .seq (.rgn [] (by simp only [go_sem, seval, aw_]; rfl) ?_ ?_)
 ·subst hn; simp [a4_]
 refine .ret ⟨.inr rfl, ?_⟩
 exact Out.mem' (by simp only [Tryz.results122]; rfl) (by simp only [az_, bc_, go_sem, seval, aw_]) (by simp only [bb_, rns, rn, go_sem, seval, aw_] <;> (simp)) (by simp) rfl (by decide) (by simp only [go_sem, seval, aw_]) (by simp only [ao_, go_sem, seval, aw_]) (by simp only [ai_, go_sem, seval, aw_] <;> (simp [b7_, aw_]))
theorem od_ {l : Str} {k : Nat} (h : k < l.length) (col : Int) : ez_ (l.drop k).length (l.drop k) col =
  if l.getD k 0 = 32 then ez_ (l.drop (k + 1)).length (l.drop (k + 1)) (col + 1)
  else if c2_ ((l.drop k).take (dz_ (l.drop k))) = 0 then none
  else (ez_ (l.drop (k + dz_ (l.drop k))).length (l.drop (k + dz_ (l.drop k))) (col + dz_ (l.drop k))).map (⟨c2_ ((l.drop k).take (dz_ (l.drop k))), (l.drop k).take (dz_ (l.drop k)), col⟩ :: ·) := by
 have e : l.drop k = l.getD k 0 :: l.drop (k + 1) := by
  rw [List.drop_eq_getElem_cons h, T8_, T6_ h]; rfl
 have h2 := jo_ (l.getD k 0) (l.drop (k + 1)) col
 rw [← e, List.drop_drop] at h2
 exact h2
theorem hp_ {l : Str} {k : Nat} (h : k < l.length) : l.getD k 0 = 32 ↔ ((l.getD k 0).toNat : Int) = 32 := by
 constructor
 ·intro e; rw [e]; rfl
 ·intro e; apply UInt8.toNat_inj.1; show _ = 32; omega
theorem wl_b {s : Str} {k : Nat} (h : k < s.length) : 1 ≤ dz_ (s.drop k) ∧ k + dz_ (s.drop k) ≤ s.length := by
 have h1 := lk_ (s.drop k)
 have h2 := aih_ (l := s.drop k) (fun e => by have := congrArg List.length e; rw [List.length_drop] at this; simp only [List.length_nil] at this; omega)
 rw [List.length_drop] at h2
 omega
theorem pd_ (s : Str) (k w : Nat) : (s.take (k + w)).drop k = (s.drop k).take w := by rw [List.drop_take, Nat.add_sub_cancel_left]
theorem amm_ (r : Str) : (if ((r.takeWhile cm_).length : Int) > (if ((r.takeWhile cs_).length : Int) > 1 then ((r.takeWhile cs_).length : Int) else 1) then ((r.takeWhile cm_).length : Int) else (if ((r.takeWhile cs_).length : Int) > 1 then ((r.takeWhile cs_).length : Int) else 1)) = (dz_ r : Int) := by
 unfold dz_
 split <;> split at * <;> omega
theorem k6_ {s : Str} (h : 120 < s.length) : b4_ s = none := by rw [b4_, if_pos h]
theorem gq_ {s : Str} (h : s.length ≤ 120) : b4_ s = ez_ s.length s 0 := by rw [b4_, if_neg (by omega)]
theorem si_ {s : Str} {k : Nat} (h : s.length ≤ k) (c : Int) : ez_ (s.drop k).length (s.drop k) c = some [] := by rw [List.drop_of_length_le h]; rfl
theorem abe_ (s : Str) (hs : s.length ≤ 281474976710656) : ACall En 60 [.s s] [] [.sl false (tkR ((b4_ s).getD [])), .b (b4_ s).isSome] [] := by
 refine aj_ (fn := Tryz.f60) [] Tryz.func60 rfl rfl (by simp) fun C => ?_
 rw [ay_]
 simp only [Tryz.ntmps60, T7_, List.length_nil, Nat.reduceAdd, Nat.reduceSub, List.replicate_succ, List.replicate_zero, List.cons_append, List.nil_append, bu_]
 refine .seq (.rgn [] (by simp only [go_sem, seval, aw_, a4_]; rfl) ?_ ?_)
 ·first | trivial | simp
 refine .seq (.seq (.rgn [] (by simp only [go_sem, seval, aw_, a4_]; rfl) ?_ ?_))
 ·first | trivial | simp
 refine .condB (by simp only [go_sem, seval, aw_, a4_]; rfl) (by simp only [go_sem, seval, aw_, a4_]) (fun h10 => ?_) (fun h10 => ?_)
 ·refine .seq (.rgn [] (by simp only [go_sem, seval, aw_, a4_]; rfl) ?_ ?_)
  ·first | trivial | simp
  refine .ret ⟨.inr rfl, ?_⟩
  exact Out.plainL (by simp only [Tryz.results60]; rfl) (by simp only [az_, bc_, go_sem, seval, aw_, a4_] <;> (split <;> rfl)) (by simp only [bb_, go_sem, seval, aw_, a4_] <;> (simp at h10; rw [k6_ (by omega)]; simp [tkR, ler])) (by simp only [go_sem, seval, aw_, a4_])
 ·refine .skip (.seq (.rgn [] (by simp only [go_sem, seval, aw_, a4_]; rfl) ?_ ?_))
  ·first | trivial | simp
  refine .seq (.seq (.rgn [] (by simp only [go_sem, seval, aw_, a4_]; rfl) ?_ ?_))
  ·first | trivial | simp
  refine .block (.loopK (fun k : Nat × List Tk => ⟨[.s s, .no, .no, .no, .ow 20 3 0 k.2.length, .i .i64 k.1, .no, .no, .no, .no, .no, .no, .no, .no, .no, .no, .no, .no, .no, .no, .no, .no, .no, .no, .no, .no, .no, .no, .no, .no, .no, .no, .no, .no, .no, .no, .no, .no, .no, .no, .no, .no, .no, .no, .no, .no, .no, .no, .no, .no, .no, .no, .no, .no, .no, .no, .no], bh_ [(20, ⟨100, 3, tkR k.2⟩)], us [20]⟩) (fun k : Nat × List Tk => k.1 ≤ s.length ∧ s.length ≤ 120 ∧ k.2.length ≤ k.1 ∧ ez_ s.length s 0 = (ez_ (s.drop k.1).length (s.drop k.1) k.1).map (k.2 ++ ·)) (fun k : Nat × List Tk => s.length - k.1) ((0, [])) ?_ ?_ (fun k hI => ?_))
  ·simp at h10; simp; omega
  ·refine Can.trans (Can.ownSlot 4 20 100 3 (by simp only [go_sem, seval, aw_, a4_] <;> rfl) (by simp only [go_sem, seval, aw_, a4_]) (by simp only [go_sem, seval, aw_, a4_] <;> rfl)) ?_
   exact Can.weak (Weak.lit (by simp only [go_sem, seval, aw_, a4_, ar_, leV, ap_, aq_, V.inn, us, T9_, Ta_] <;> (rfl)) (by simp only [go_sem, seval, aw_, a4_, ar_, leV, ap_, aq_, V.inn, us, T9_, Ta_]) (by simp only [go_sem, seval, aw_, a4_, ar_, leV, ap_, aq_, V.inn, us, T9_, Ta_] <;> (rfl)))
  refine .seq (.seq (.rgn [] (by simp only [go_sem, seval, aw_, a4_]; rfl) ?_ ?_))
  ·first | trivial | simp
  refine .condB (by simp only [go_sem, seval, aw_, a4_]; rfl) (by simp only [go_sem, seval, aw_, a4_]) (fun h14 => ?_) (fun h14 => ?_)
  ·refine .skip (.block (.seq (.seq (.rgn [] (by simp only [go_sem, seval, aw_, a4_]; rfl) ?_ ?_))))
   ·simp at h14; simp; exact h14
   refine .condB (by simp only [go_sem, seval, aw_, a4_]; rfl) (by simp only [go_sem, seval, aw_, a4_]) (fun h18 => ?_) (fun h18 => ?_)
   ·refine .seq (.rgn [] (by simp only [go_sem, seval, aw_, a4_]; rfl) ?_ ?_)
    ·first | trivial | simp
    refine .exit ?_
    refine Exists.intro ((k.1 + 1, k.2)) ⟨?_, ?_, ?_⟩
    ·simp only [T3_] at h14; simp only [beq_iff_eq] at h18; obtain ⟨i1, i2, i3, i4⟩ := hI; have e := od_ (show k.1 < s.length by omega) k.1; rw [if_pos ((hp_ (by omega)).2 h18)] at e; exact ⟨by dsimp only; omega, i2, by dsimp only; omega, by rw [i4, e]; rfl⟩
    ·simp only [T3_] at h14; dsimp only; omega
    exact Can.weak (Weak.lit (by simp only [go_sem, seval, aw_, a4_, ar_, leV, ap_, aq_, V.inn, us, T9_, Ta_] <;> (rw [bi_ (by omega) (by omega)]; rfl)) (by simp only [go_sem, seval, aw_, a4_, ar_, leV, ap_, aq_, V.inn, us, T9_, Ta_]) (by simp only [go_sem, seval, aw_, a4_, ar_, leV, ap_, aq_, V.inn, us, T9_, Ta_]))
   ·refine .skip (.seqJ (fun u : Unit => ⟨[.s s, .no, .no, .no, .ow 20 3 0 k.2.length, .i .i64 k.1, .i .i64 (dz_ (s.drop k.1)), .no, .no, .no, .no, .no, .no, .no, .no, .no, .no, .no, .no, .no, .no, .no, .no, .no, .no, .no, .no, .no, .no, .no, .no, .no, .no, .no, .no, .no, .no, .no, .no, .no, .no, .no, .no, .no, .no, .no, .no, .no, .no, .no, .no, .no, .no, .no, .no, .no, .no], bh_ [(20, ⟨100, 3, tkR k.2⟩)], us [20]⟩) (fun u : Unit => True) ?_ (fun u hJ => ?_))
    ·refine .rgnDS [29] [a8_ (agy_ cs_ 119 qe_ (s.drop k.1) (by simp; omega)), a8_ (agy_ cm_ 120 ab9_ (s.drop k.1) (by simp; omega)), maxO En] enM (by simp only [go_sem, seval, aw_, a4_]; rfl) (by rfl) ?_ ?_
     ·simp at h14; simp; omega
     refine Exists.intro (()) ⟨?_, ?_⟩
     ·trivial
     exact Can.weak (Weak.lit (by simp only [go_sem, seval, aw_, a4_, ar_, leV, ap_, aq_, V.inn, us, T9_, Ta_] <;> (rw [amm_])) (by simp only [go_sem, seval, aw_, a4_, ar_, leV, ap_, aq_, V.inn, us, T9_, Ta_]) (by simp only [go_sem, seval, aw_, a4_, ar_, leV, ap_, aq_, V.inn, us, T9_, Ta_]))
    refine .seq (.rgnD [a8_ (abc_ ((s.drop k.1).take (dz_ (s.drop k.1))) (by simp; omega))] enM (by simp only [go_sem, seval, aw_, a4_, show IntKind.i64.wrap ((k.1 : Int) + (dz_ (s.drop k.1) : Int)) = ((k.1 + dz_ (s.drop k.1) : Nat) : Int) by (have := wl_b (show k.1 < s.length by simpa using h14); rw [bi_ (by omega) (by omega)]; rfl), pd_]; rfl) (by rfl) ?_ ?_)
    ·have h14' : k.1 < s.length := (by simpa using h14); have := wl_b h14'; simp [b6_]; omega
    refine .seq (.seq (.rgn [] (by simp only [go_sem, seval, aw_, a4_]; rfl) ?_ ?_))
    ·first | trivial | simp
    refine .condB (by simp only [go_sem, seval, aw_, a4_]; rfl) (by simp only [go_sem, seval, aw_, a4_]) (fun h47 => ?_) (fun h47 => ?_)
    ·refine .seq (.rgn [] (by simp only [go_sem, seval, aw_, a4_]; rfl) ?_ ?_)
     ·first | trivial | simp
     refine .ret ⟨.inr rfl, ?_⟩
     exact Out.plainL (by simp only [Tryz.results60]; rfl) (by simp only [az_, bc_, go_sem, seval, aw_, a4_] <;> (split <;> rfl)) (by simp only [bb_, go_sem, seval, aw_, a4_] <;> (simp only [T3_] at h14; simp only [beq_eq_false_iff_ne] at h18; simp only [beq_iff_eq] at h47; have e := od_ (show k.1 < s.length by omega) k.1; rw [if_neg (fun h => h18 ((hp_ (by omega)).1 h)), if_pos h47] at e; rw [gq_ (by omega), hI.2.2.2, e]; simp [tkR, ler])) (by simp only [go_sem, seval, aw_, a4_])
    ·refine .skip (.seq (.rgn [] (by simp only [go_sem, seval, aw_, a4_]; rfl) ?_ ?_))
     ·simp [aga_]; omega
     refine .rgn [] (by simp only [go_sem, seval, aw_, a4_]; rfl) ?_ ?_
     ·first | trivial | simp
     refine Exists.intro ((k.1 + dz_ (s.drop k.1), k.2 ++ [⟨c2_ ((s.drop k.1).take (dz_ (s.drop k.1))), (s.drop k.1).take (dz_ (s.drop k.1)), k.1⟩])) ⟨?_, ?_, ?_⟩
     ·simp only [T3_] at h14; simp only [beq_eq_false_iff_ne] at h18 h47; obtain ⟨i1, i2, i3, i4⟩ := hI; have e := od_ (show k.1 < s.length by omega) k.1; rw [if_neg (fun h => h18 ((hp_ (by omega)).1 h)), if_neg h47] at e; have hb := wl_b (show k.1 < s.length by omega); exact ⟨by dsimp only; omega, i2, by simp only [T2_, List.length_singleton]; omega, by rw [i4, e, Option.map_map]; simp [Function.comp_def]⟩
     ·simp only [T3_] at h14; have hb := wl_b (show k.1 < s.length by omega); dsimp only; omega
     refine Can.trans (Can.swap 61 20 (by decide) (by decide) (by decide) (by decide) (by simp only [go_sem, seval, aw_, a4_, V.cl]) (by simp only [go_sem, seval, aw_, a4_, V.cl]) (by simp only [go_sem, seval, aw_, a4_, bj_, sw, swM, rnB] <;> rfl) (by simp only [go_sem, seval, aw_, a4_, bj_, sw, swM, rnB] <;> rfl) (by simp only [go_sem, seval, aw_, a4_, bj_, sw, swM, rnB] <;> rfl)) ?_
     exact Can.weak (Weak.lit (by simp only [go_sem, seval, aw_, a4_, ar_, leV, ap_, aq_, V.inn, us, T9_, Ta_] <;> ((have hb := wl_b (show k.1 < s.length by simpa using h14)); rw [bi_ (by omega) (by omega)]; simp)) (by simp only [go_sem, seval, aw_, a4_, ar_, leV, ap_, aq_, V.inn, us, T9_, Ta_]) (by simp only [go_sem, seval, aw_, a4_, ar_, leV, ap_, aq_, V.inn, us, T9_, Ta_] <;> (rw [pa_])))
  ·refine .exit (.seq (.rgn [bx_ [20] [] (abx_ k.2 k.2.length rfl (by omega))] (by simp only [go_sem, seval, aw_, a4_]; rfl) ?_ ?_))
   ·simp [ai_, ao_, aw_]
   refine .frz 20 (by simp only [go_sem, seval, aw_, a4_]; rfl) (by simp only [go_sem, seval, aw_, a4_]) (by simp only [go_sem, seval, aw_, a4_]; rfl) (by simp only [go_sem, seval, aw_, a4_]; rfl) ?_
   refine .ret ⟨.inr rfl, ?_⟩
   exact Out.plainL (by simp only [Tryz.results60]; rfl) (by simp only [az_, bc_, go_sem, seval, aw_, a4_] <;> (split <;> rfl)) (by simp only [bb_, go_sem, seval, aw_, a4_] <;> (simp only [T4_] at h14; rw [gq_ (by omega), hI.2.2.2, si_ (by omega)]; simp [T1_, a4_, leV, be_])) (by simp only [go_sem, seval, aw_, a4_])
end
end Go.Proofs.YtcigkafioinfoaaGreatDoor
