/- What the library's functions answer: strconv.Atoi, strings.Contains; numbers. Conditions: none. -/
import Derived.Test.YtpikbndepapbhaaGreatDoorKf
import Derived.Test.YtpikbndepapbhaaGreatDoorKg
import Derived.Test.YtpikbndepapbhaaGreatDoorKh
import Derived.Test.YtpikbndepapbhaaGreatDoorKd
set_option linter.unusedVariables false
set_option linter.unusedSimpArgs false
namespace Go.Proofs.YtpikbndepapbhaaGreatDoor
section
open Go.RowKit
set_option maxRecDepth 100000
set_option maxHeartbeats 1000000
theorem errU : En.P.underlying 126 = some (.interface (En.P.methodsAt 126)) := by kernel_rfl
def kh_ (o : Option Int) : V := match o with | some n => .i .i64 n | none => .no
def ib_ (s : Str) : Option Int := match Lib.atoiAll s with | .ok v => some v | _ => none
theorem afj_ (s : Str) (hs : s.length ≤ 281474976710656) : ACall En 203 [.s s] [] [kh_ (ib_ s), ifV (ib_ s).isSome] [] := by
 refine g3_ (fn := Tryz.f203) Tryz.func203 rfl rfl fun S w xs hx _ ⟨B, hB, _⟩ => ?_
 simp only [VRs, VR] at hx
 obtain ⟨x, r, e1, rfl, rfl⟩ := hx
 obtain rfl : xs = #[.string ⟨s.toArray⟩] := by apply Array.ext'; simpa using e1
 have hsz : (⟨s.toArray⟩ : ByteArray).size ≤ 281474976710656 := by simpa [ByteArray.size] using hs
 have hd : (⟨s.toArray⟩ : ByteArray).data.toList = s := by simp
 cases h : Lib.atoiAll s with
 | ok v =>
  have ho : ib_ s = some v := by simp [ib_, h]
  refine (Tryz.strconv_Atoi_ok ⟨s.toArray⟩ (by omega) v (by rw [hd]; exact h) w).mono ?_
  rintro e w' ⟨rfl, hw⟩
  refine ⟨[.int .i64 v, .nilIface], rfl, ?_, ?_⟩
  ·rcases hw with rfl | ⟨t, rfl⟩
   ·exact Below.refl _ _
   ·exact Lib.bytesWorld_below _ _ _
  ·rw [ho]; exact .cons (by simp only [kh_, VR]) (.cons (by simp [ifV, VR]) .nil)
 | range =>
  have ho : ib_ s = none := by simp [ib_, h]
  obtain ⟨tp, p, hv⟩ := hB.rng
  refine (Any.strconv_Atoi_range_var Tryz.laysC172 ⟨s.toArray⟩ hsz (by rw [hd]; exact h) tp p w hv).mono ?_
  rintro e w' ⟨N, rfl, _, _, hb⟩
  exact ⟨[_, _], rfl, hb, by rw [ho]; exact .cons (by simp only [kh_, VR]) (.cons (by simp [ifV, VR]) .nil)⟩
 | _ =>
  have ho : ib_ s = none := by simp [ib_, h]
  obtain ⟨tp, p, hv⟩ := hB.syn
  refine (Any.strconv_Atoi_syntax_var Tryz.laysC172 ⟨s.toArray⟩ hsz (by rw [hd]; exact h) tp p w hv).mono ?_
  rintro e w' ⟨N, rfl, _, _, hb⟩
  exact ⟨[_, _], rfl, hb, by rw [ho]; exact .cons (by simp only [kh_, VR]) (.cons (by simp [ifV, VR]) .nil)⟩
def jt_ (s : Str) : V := if c4_ s then .i .i64 (b7_ s) else .no
theorem cg_ (s : Str) : (jt_ s).pure = true := by unfold jt_; split <;> rfl
theorem dm_ (s : Str) : peel (jt_ s) = jt_ s := by unfold jt_; split <;> rfl
theorem c6_ (s : Str) : d7_ (jt_ s) = true := by unfold jt_; split <;> rfl
theorem adn_ (v : V) : leV v .no = True := by cases v <;> simp only [leV]
theorem p4_ : ∀ (l : Str) (c : UInt8), -1 ≤ Lib.indexByte l c
 | [], _ => by simp [Lib.indexByte]
 | b :: l, c => by
  have := p4_ l c
  simp only [Lib.indexByte]
  split
  ·decide
  ·split <;> omega
theorem sg_ : ∀ (l : Str) (c : UInt8), 0 ≤ Lib.indexByte l c ↔ c ∈ l
 | [], _ => by simp [Lib.indexByte]
 | b :: l, c => by
  have h1 := p4_ l c
  have h2 := sg_ l c
  rw [List.mem_cons, ← h2, Lib.indexByte]
  by_cases hb : b = c
  ·subst hb; rw [if_pos (beq_self_eq_true b)]; exact ⟨fun _ => .inl rfl, fun _ => Int.le_refl _⟩
  ·rw [if_neg (by simpa using hb)]
   by_cases hc : Lib.indexByte l c = -1
   ·rw [if_pos (by rw [hc]; rfl), hc]; exact ⟨fun h => absurd h (by decide), fun h => h.elim (fun e => absurd e.symm hb) id⟩
   ·rw [if_neg (by simpa using hc)]; exact ⟨fun h => .inr (by omega), fun h => h.elim (fun e => absurd e.symm hb) (fun h => by omega)⟩
theorem iw_ (l : Str) (c : UInt8) : decide (0 ≤ Lib.indexByte l c) = l.contains c := by
 rw [List.contains_eq_mem]; exact decide_eq_decide.2 (sg_ l c)
theorem ae1_ (s : Str) (hs : s.length ≤ 281474976710656) (h : ib_ s = none) : ACall En 186 [.s s] [] [jt_ s, .b (c4_ s)] [] := by
 have A := afj_ s hs
 rw [h] at A
 have hn : c4_ s = false := adx_ fun v hv => by simp [ib_, hv] at h
 refine al_ (fn := Tryz.f186) [] Tryz.func186 rfl rfl (by simp) fun C => ?_
 rw [av_]
 simp only [Tryz.ntmps186, T7_, List.length_nil, Nat.reduceAdd, Nat.reduceSub, List.replicate_succ, List.replicate_zero, List.cons_append, List.nil_append, bt_]
 refine .seq (.rgn [] (by simp only [go_sem, seval, kh_, Option.isSome_none, cg_]; rfl) ?_ ?_)
 ·first | trivial | simp
 refine .seq (.rgn [a3_ A] (by simp only [go_sem, seval, kh_, Option.isSome_none, cg_]; rfl) ?_ ?_)
 ·first | trivial | simp
 refine .seq (.rgnS [13] [ifO En 126 false errU, a3_ (w2_ 0 0 1000000), a3_ (xb_ 0 (by decide) (by decide))] (by simp only [go_sem, seval, kh_, Option.isSome_none, cg_]; rfl) ?_ ?_)
 ·first | trivial | simp
 refine .ret ⟨.inr rfl, ?_⟩
 exact Out.plainL (by simp only [Tryz.results186]; rfl) (by simp only [ax_, a6_, go_sem, seval, kh_, Option.isSome_none, cg_] <;> (split <;> rfl)) (by simp only [a4_, go_sem, seval, kh_, Option.isSome_none, cg_] <;> (simp [hn, jt_, adn_])) (by simp only [go_sem, seval, kh_, Option.isSome_none, cg_])
theorem ad7_ (s : Str) (hs : s.length ≤ 281474976710656) {v : Int} (h : ib_ s = some v) : ACall En 186 [.s s] [] [jt_ s, .b (c4_ s)] [] := by
 have A := afj_ s hs
 rw [h] at A
 have hv : Lib.atoiAll s = .ok v := by
  unfold ib_ at h
  split at h
  ·rename_i v' hv'; cases h; exact hv'
  ·cases h
 refine al_ (fn := Tryz.f186) [] Tryz.func186 rfl rfl (by simp) fun C => ?_
 rw [av_]
 simp only [Tryz.ntmps186, T7_, List.length_nil, Nat.reduceAdd, Nat.reduceSub, List.replicate_succ, List.replicate_zero, List.cons_append, List.nil_append, bt_]
 refine .seq (.rgn [] (by simp only [go_sem, seval, kh_, Option.isSome_some, cg_]; rfl) ?_ ?_)
 ·first | trivial | simp
 refine .seq (.rgn [a3_ A] (by simp only [go_sem, seval, kh_, Option.isSome_some, cg_]; rfl) ?_ ?_)
 ·first | trivial | simp
 refine .seq (.rgnS [13] [ifO En 126 true errU, a3_ (w2_ v 0 1000000), cm_ (0 ≤ v ∧ v ≤ 1000000) (fun h => xb_ v (by omega) (by omega))] (by simp only [go_sem, seval, kh_, Option.isSome_some, cg_]; rfl) ?_ ?_)
 ·first | trivial | simp
 refine .ret ⟨.inr rfl, ?_⟩
 exact Out.plainL (by simp only [Tryz.results186]; rfl) (by simp only [ax_, a6_, go_sem, seval, kh_, Option.isSome_some, cg_] <;> (split <;> rfl)) (by simp only [a4_, go_sem, seval, kh_, Option.isSome_some, cg_] <;> (have k := ahw_ hv; cases hn : c4_ s; (simp only [hn] at k; simp only [jt_, hn]; refine ⟨?_, ?_⟩; (simp only [Bool.false_eq_true, if_false]; rw [adn_]; trivial); simpa using k); (have hv2 := adw_ hv hn; simp only [jt_, hn, if_true]; rw [← hv2]; simp only [hn] at k; simp only [hj_]; simpa using k))) (by simp only [go_sem, seval, kh_, Option.isSome_some, cg_])
theorem v2_ (s : Str) (hs : s.length ≤ 281474976710656) : ACall En 186 [.s s] [] [jt_ s, .b (c4_ s)] [] := by
 cases h : ib_ s with
 | none => exact ae1_ s hs h
 | some v => exact ad7_ s hs h
theorem ng_ (s : Str) (c : UInt8) : ACall En 85 [.s s, .s [c]] [] [.b (s.contains c)] [] := by
 refine g3_ (fn := Tryz.f85) Tryz.func85 rfl rfl fun S w xs hx _ ⟨B, hB, _⟩ => ?_
 simp only [VRs, VR] at hx
 obtain ⟨x, r, e1, rfl, y, q, rfl, rfl, rfl⟩ := hx
 obtain rfl : xs = #[.string ⟨s.toArray⟩, .string ⟨#[c]⟩] := by apply Array.ext'; simpa using e1
 refine (Tryz.strings_Contains_one ⟨s.toArray⟩ c w).mono ?_
 rintro e w' ⟨rfl, rfl⟩
 refine ⟨[_], rfl, Below.refl _ _, .cons ?_ .nil⟩
 simp only [VR]
 rw [← iw_]
end
section
set_option maxRecDepth 100000
set_option maxHeartbeats 4000000
theorem acw_ (s : Str) (hs : s.length ≤ 281474976710656) : ACall En 156 [.i .i64 2, .s s] [] [.b (c4_ s)] [] := by
 refine al_ (fn := Tryz.f156) [] Tryz.func156 rfl rfl (by simp) fun C => ?_
 rw [av_]
 simp only [Tryz.ntmps156, T7_, List.length_nil, Nat.reduceAdd, Nat.reduceSub, List.replicate_succ, List.replicate_zero, List.cons_append, List.nil_append, bt_]
 refine .seq (.rgn [] (by simp only [go_sem, seval, cg_, dm_, c6_]; rfl) ?_ ?_)
 ·first | trivial | simp
 refine .seq (.seq (.rgn [] (by simp only [go_sem, seval, cg_, dm_, c6_]; rfl) ?_ ?_))
 ·first | trivial | simp
 refine .block (.seq (.rgn [] (by simp only [go_sem, seval, cg_, dm_, c6_]; rfl) ?_ ?_))
 ·first | trivial | simp
 refine .condB (by simp only [go_sem, seval, cg_, dm_, c6_]; rfl) (by simp only [go_sem, seval, cg_, dm_, c6_]) (fun h8 => ?_) (fun h8 => ?_)
 ·exact absurd h8 (by simp)
 ·refine .seq (.rgn [] (by simp only [go_sem, seval, cg_, dm_, c6_]; rfl) ?_ ?_)
  ·first | trivial | simp
  refine .condB (by simp only [go_sem, seval, cg_, dm_, c6_]; rfl) (by simp only [go_sem, seval, cg_, dm_, c6_]) (fun h20 => ?_) (fun h20 => ?_)
  ·refine .seq (.rgn [a3_ (v2_ s hs)] (by simp only [go_sem, seval, cg_, dm_, c6_]; rfl) ?_ ?_)
   ·first | trivial | simp
   refine .seq (.rgn [] (by simp only [go_sem, seval, cg_, dm_, c6_]; rfl) ?_ ?_)
   ·first | trivial | simp
   refine .ret ⟨.inr rfl, ?_⟩
   exact Out.plain (by simp only [Tryz.results156]; rfl) (by simp only [ax_, a6_, go_sem, seval, cg_, dm_, c6_] <;> (split <;> rfl)) (by simp only [a4_, go_sem, seval, cg_, dm_, c6_] <;> (rfl)) (by simp only [go_sem, seval, cg_, dm_, c6_])
  ·exact absurd h20 (by simp)
theorem xy_ (c : UInt8) : ACall En 156 [.i .i64 3, .s [c]] [] [.b (e7_ [c])] [] := by
 refine al_ (fn := Tryz.f156) [] Tryz.func156 rfl rfl (by simp) fun C => ?_
 rw [av_]
 simp only [Tryz.ntmps156, T7_, List.length_nil, Nat.reduceAdd, Nat.reduceSub, List.replicate_succ, List.replicate_zero, List.cons_append, List.nil_append, bt_]
 refine .seq (.rgn [] (by simp only [go_sem, seval]; rfl) ?_ ?_)
 ·(first | trivial | (simp [marks]; done))
 refine .seq (.seq (.rgn [] (by simp only [go_sem, seval]; rfl) ?_ ?_))
 ·(first | trivial | (simp [marks]; done))
 refine .block (.seq (.rgn [] (by simp only [go_sem, seval]; rfl) ?_ ?_))
 ·(first | trivial | (simp [marks]; done))
 refine .condB (by simp only [go_sem, seval]; rfl) (by simp only [go_sem, seval]) (fun h8 => ?_) (fun h8 => ?_)
 ·exact absurd h8 (by simp)
 ·refine .seq (.rgn [] (by simp only [go_sem, seval]; rfl) ?_ ?_)
  ·(first | trivial | (simp [marks]; done))
  refine .condB (by simp only [go_sem, seval]; rfl) (by simp only [go_sem, seval]) (fun h20 => ?_) (fun h20 => ?_)
  ·exact absurd h20 (by simp)
  ·refine .seq (.rgn [] (by simp only [go_sem, seval]; rfl) ?_ ?_)
   ·(first | trivial | (simp [marks]; done))
   refine .condB (by simp only [go_sem, seval]; rfl) (by simp only [go_sem, seval]) (fun h28 => ?_) (fun h28 => ?_)
   ·refine .seq (.rgn [a3_ (ng_ marks c)] (by simp only [go_sem, seval]; rfl) ?_ ?_)
    ·(first | trivial | (simp [marks]; done))
    refine .ret ⟨.inr rfl, ?_⟩
    exact Out.plain (by simp only [Tryz.results156]; rfl) (by simp only [ax_, a6_, go_sem, seval] <;> (split <;> rfl)) (by simp only [a4_, go_sem, seval] <;> (simp [e7_])) (by simp only [go_sem, seval])
   ·exact absurd h28 (by simp)
theorem wv_ (s : Str) (h : s.length ≠ 1) : ACall En 156 [.i .i64 3, .s s] [] [.b (e7_ s)] [] := by
 have h2 : ((s.length : Int) == 1) = false := by simpa using (show ¬ (s.length : Int) = 1 by omega)
 refine al_ (fn := Tryz.f156) [] Tryz.func156 rfl rfl (by simp) fun C => ?_
 rw [av_]
 simp only [Tryz.ntmps156, T7_, List.length_nil, Nat.reduceAdd, Nat.reduceSub, List.replicate_succ, List.replicate_zero, List.cons_append, List.nil_append, bt_]
 refine .seq (.rgn [] (by simp only [go_sem, seval]; rfl) ?_ ?_)
 ·(first | trivial | (simp [h2]; done))
 refine .seq (.seq (.rgn [] (by simp only [go_sem, seval]; rfl) ?_ ?_))
 ·(first | trivial | (simp [h2]; done))
 refine .block (.seq (.rgn [] (by simp only [go_sem, seval]; rfl) ?_ ?_))
 ·(first | trivial | (simp [h2]; done))
 refine .condB (by simp only [go_sem, seval]; rfl) (by simp only [go_sem, seval]) (fun h8 => ?_) (fun h8 => ?_)
 ·exact absurd h8 (by simp)
 ·refine .seq (.rgn [] (by simp only [go_sem, seval]; rfl) ?_ ?_)
  ·(first | trivial | (simp [h2]; done))
  refine .condB (by simp only [go_sem, seval]; rfl) (by simp only [go_sem, seval]) (fun h20 => ?_) (fun h20 => ?_)
  ·exact absurd h20 (by simp)
  ·refine .seq (.rgn [] (by simp only [go_sem, seval]; rfl) ?_ ?_)
   ·(first | trivial | (simp [h2]; done))
   refine .condB (by simp only [go_sem, seval]; rfl) (by simp only [go_sem, seval]) (fun h28 => ?_) (fun h28 => ?_)
   ·refine .seq (.rgn [a3_ (ng_ marks 0)] (by simp only [go_sem, seval]; rfl) ?_ ?_)
    ·(first | trivial | (simp [h2]; done))
    refine .ret ⟨.inr rfl, ?_⟩
    exact Out.plain (by simp only [Tryz.results156]; rfl) (by simp only [ax_, a6_, go_sem, seval] <;> (split <;> rfl)) (by simp only [a4_, go_sem, seval] <;> (simp [e7_, h, h2])) (by simp only [go_sem, seval])
   ·exact absurd h28 (by simp)
def or_ (k : Int) (s : Str) : Bool := if k = 1 then ew_ s else if k = 2 then c4_ s else e7_ s
theorem aij_ (k : Int) (hk : k = 1 ∨ k = 2 ∨ k = 3) (s : Str) (hs : s.length ≤ 281474976710656) : ACall En 156 [.i .i64 k, .s s] [] [.b (or_ k s)] [] := by
 rcases hk with rfl | rfl | rfl
 ·exact us_ s (by omega)
 ·exact acw_ s hs
 ·by_cases h : s.length = 1
  ·obtain ⟨c, rfl⟩ := List.length_eq_one_iff.1 h
   exact xy_ c
  ·exact wv_ s h
theorem pw_ (s : Str) : db_ s = if or_ 1 s then 1 else if or_ 2 s then 2 else if or_ 3 s then 3 else 0 := rfl
theorem aap_ (s : Str) (hs : s.length ≤ 281474976710656) : ACall En 128 [.s s] [] [.i .i64 (db_ s)] [] := by
 refine al_ (fn := Tryz.f128) [] Tryz.func128 rfl rfl (by simp) fun C => ?_
 rw [av_]
 simp only [Tryz.ntmps128, T7_, List.length_nil, Nat.reduceAdd, Nat.reduceSub, List.replicate_succ, List.replicate_zero, List.cons_append, List.nil_append, bt_]
 refine .seq (.rgn [] (by simp only [go_sem, seval]; rfl) ?_ ?_)
 ·first | trivial | simp
 refine .seq (.seq (.rgn [] (by simp only [go_sem, seval]; rfl) ?_ ?_))
 ·first | trivial | simp
 refine .block (.loopK (fun k : Int => ⟨[.s s, .no, .no, .i .i64 k, .no, .no, .no, .no, .no, .no, .no, .no], be_ [], us []⟩) (fun k : Int => 1 ≤ k ∧ k ≤ 4 ∧ (1 < k → or_ 1 s = false) ∧ (2 < k → or_ 2 s = false) ∧ (3 < k → or_ 3 s = false)) (fun k : Int => (4 - k).toNat) (1) ?_ ?_ (fun k hI => ?_))
 ·simp
 ·exact Can.weak (Weak.lit (by simp only [go_sem, seval, as_, leV, aq_, ar_, V.inn, us, T9_, Ta_] <;> (simp)) (by simp only [go_sem, seval, as_, leV, aq_, ar_, V.inn, us, T9_, Ta_]) (by simp only [go_sem, seval, as_, leV, aq_, ar_, V.inn, us, T9_, Ta_]))
 refine .seq (.seq (.rgn [] (by simp only [go_sem, seval]; rfl) ?_ ?_))
 ·first | trivial | simp
 refine .condB (by simp only [go_sem, seval]; rfl) (by simp only [go_sem, seval]) (fun h5 => ?_) (fun h5 => ?_)
 ·refine .skip (.seq (.block (.seq (.rgn [cm_ (k = 1 ∨ k = 2 ∨ k = 3) (fun h => aij_ k h s hs)] (by simp only [go_sem, seval]; rfl) ?_ ?_))))
  ·simp at h5; omega
  refine .condB (by simp only [go_sem, seval]; rfl) (by simp only [go_sem, seval]) (fun h10 => ?_) (fun h10 => ?_)
  ·refine .seq (.rgn [] (by simp only [go_sem, seval]; rfl) ?_ ?_)
   ·first | trivial | simp
   refine .ret ⟨.inr rfl, ?_⟩
   exact Out.plain (by simp only [Tryz.results128]; rfl) (by simp only [ax_, a6_, go_sem, seval] <;> (split <;> rfl)) (by simp only [a4_, go_sem, seval] <;> (simp at h5; (have hk : k = 1 ∨ k = 2 ∨ k = 3 := by omega); rw [pw_]; rcases hk with rfl | rfl | rfl <;> simp_all)) (by simp only [go_sem, seval])
  ·refine .skip (.rgn [] (by simp only [go_sem, seval]; rfl) ?_ ?_)
   ·first | trivial | simp
   refine Exists.intro (k + 1) ⟨?_, ?_, ?_⟩
   ·simp at h5; (have hk : k = 1 ∨ k = 2 ∨ k = 3 := by omega); rcases hk with rfl | rfl | rfl <;> simp_all
   ·simp at h5; omega
   exact Can.weak (Weak.lit (by simp only [go_sem, seval, as_, leV, aq_, ar_, V.inn, us, T9_, Ta_] <;> (rw [bd_ (by omega) (by omega)])) (by simp only [go_sem, seval, as_, leV, aq_, ar_, V.inn, us, T9_, Ta_]) (by simp only [go_sem, seval, as_, leV, aq_, ar_, V.inn, us, T9_, Ta_]))
 ·refine .exit (.seq (.rgn [] (by simp only [go_sem, seval]; rfl) ?_ ?_))
  ·first | trivial | simp
  refine .ret ⟨.inr rfl, ?_⟩
  exact Out.plain (by simp only [Tryz.results128]; rfl) (by simp only [ax_, a6_, go_sem, seval] <;> (split <;> rfl)) (by simp only [a4_, go_sem, seval] <;> (simp at h5; (have hk : k = 4 := by omega); subst hk; simp_all [pw_])) (by simp only [go_sem, seval])
def tkR (l : List Tk) : List (List V) := l.map fun t => [.i .i64 t.kind, .s t.s, .i .i64 t.col]
theorem ay_ (l : List Tk) : (tkR l).length = l.length := by simp [tkR]
theorem au_ : ∀ l : List Tk, ch_ (tkR l) = true
 | [] => rfl
 | _ :: r => by show (cs_ [_, _, _] && ch_ (tkR r)) = true; rw [au_ r]; rfl
theorem o0_ (l : List Tk) (t : Tk) : tkR (l ++ [t]) = tkR l ++ [[.i .i64 t.kind, .s t.s, .i .i64 t.col]] := by simp [tkR]
theorem ae9_ (l : List Tk) : (∀ r, r ∈ tkR l → r.length = 3) = True := eq_true fun r hr => by obtain ⟨t, _, rfl⟩ := List.mem_map.1 hr; rfl
theorem x6_ {l : List Tk} {k : Nat} (h : k < l.length) : (tkR l).getD k [] = [.i .i64 (l.getD k ⟨0, [], 0⟩).kind, .s (l.getD k ⟨0, [], 0⟩).s, .i .i64 (l.getD k ⟨0, [], 0⟩).col] := by
 simp [tkR, T8_, T6_ h]
theorem z4_ (l : List Tk) (n : Nat) (hn : n = l.length) (hl : l.length < 1099511627776) : ACall En 129 [.ow 0 3 0 n] [⟨116, 3, tkR l⟩] [.ow 0 3 0 n] [⟨116, 3, tkR l⟩] := by
 refine al_ (fn := Tryz.f129) [0] Tryz.func129 rfl rfl (by simp) fun C => ?_
 rw [av_]
 simp only [Tryz.ntmps129, T7_, List.length_nil, Nat.reduceAdd, Nat.reduceSub, List.replicate_succ, List.replicate_zero, List.cons_append, List.nil_append, bt_]
 refine .seq (.rgn [] (by simp only [go_sem, seval, au_]; rfl) ?_ ?_)
 ·subst hn; simp [ay_]
 refine .seq (.rgn [] (by simp only [go_sem, seval, au_]; rfl) ?_ ?_)
 ·subst hn; simp [ay_]
 refine .ret ⟨.inr rfl, ?_⟩
 exact Out.mem' (by simp only [Tryz.results129]; rfl) (by simp only [ax_, a6_, go_sem, seval, au_]) (by simp only [a4_, rns, rn, go_sem, seval, au_] <;> (simp)) (by simp) rfl (by decide) (by simp only [go_sem, seval, au_]) (by simp only [ak_, go_sem, seval, au_]) (by simp only [ag_, go_sem, seval, au_] <;> (simp [cl_, au_]))
theorem ny_ {l : Str} {k : Nat} (h : k < l.length) (col : Int) : e5_ (l.drop k).length (l.drop k) col =
  if l.getD k 0 = 32 then e5_ (l.drop (k + 1)).length (l.drop (k + 1)) (col + 1)
  else if db_ ((l.drop k).take (d8_ (l.drop k))) = 0 then none
  else (e5_ (l.drop (k + d8_ (l.drop k))).length (l.drop (k + d8_ (l.drop k))) (col + d8_ (l.drop k))).map (⟨db_ ((l.drop k).take (d8_ (l.drop k))), (l.drop k).take (d8_ (l.drop k)), col⟩ :: ·) := by
 have e : l.drop k = l.getD k 0 :: l.drop (k + 1) := by
  rw [List.drop_eq_getElem_cons h, T8_, T6_ h]; rfl
 have h2 := jy_ (l.getD k 0) (l.drop (k + 1)) col
 rw [← e, List.drop_drop] at h2
 exact h2
theorem hs_ {l : Str} {k : Nat} (h : k < l.length) : l.getD k 0 = 32 ↔ ((l.getD k 0).toNat : Int) = 32 := by
 constructor
 ·intro e; rw [e]; rfl
 ·intro e; apply UInt8.toNat_inj.1; show _ = 32; omega
theorem z3_ {s : Str} {k : Nat} (h : k < s.length) : 1 ≤ d8_ (s.drop k) ∧ k + d8_ (s.drop k) ≤ s.length := by
 have h1 := k8_ (s.drop k)
 have h2 := ai0_ (l := s.drop k) (fun e => by have := congrArg List.length e; rw [List.length_drop] at this; simp only [List.length_nil] at this; omega)
 rw [List.length_drop] at h2
 omega
theorem pz_ (s : Str) (k w : Nat) : (s.take (k + w)).drop k = (s.drop k).take w := by rw [List.drop_take, Nat.add_sub_cancel_left]
theorem ak5_ (r : Str) : (if ((r.takeWhile cu_).length : Int) > (if ((r.takeWhile c1_).length : Int) > 1 then ((r.takeWhile c1_).length : Int) else 1) then ((r.takeWhile cu_).length : Int) else (if ((r.takeWhile c1_).length : Int) > 1 then ((r.takeWhile c1_).length : Int) else 1)) = (d8_ r : Int) := by
 unfold d8_
 split <;> split at * <;> omega
theorem ll_ {s : Str} (h : 120 < s.length) : ci_ s = none := by rw [ci_, if_pos h]
theorem gv_ {s : Str} (h : s.length ≤ 120) : ci_ s = e5_ s.length s 0 := by rw [ci_, if_neg (by omega)]
theorem q9_ {s : Str} {k : Nat} (h : s.length ≤ k) (c : Int) : e5_ (s.drop k).length (s.drop k) c = some [] := by rw [List.drop_of_length_le h]; rfl
theorem aa9_ (s : Str) (hs : s.length ≤ 281474976710656) : ACall En 92 [.s s] [] [.sl false (tkR ((ci_ s).getD [])), .b (ci_ s).isSome] [] := by
 refine al_ (fn := Tryz.f92) [] Tryz.func92 rfl rfl (by simp) fun C => ?_
 rw [av_]
 simp only [Tryz.ntmps92, T7_, List.length_nil, Nat.reduceAdd, Nat.reduceSub, List.replicate_succ, List.replicate_zero, List.cons_append, List.nil_append, bt_]
 refine .seq (.rgn [] (by simp only [go_sem, seval, au_, ay_]; rfl) ?_ ?_)
 ·first | trivial | simp
 refine .seq (.seq (.rgn [] (by simp only [go_sem, seval, au_, ay_]; rfl) ?_ ?_))
 ·first | trivial | simp
 refine .condB (by simp only [go_sem, seval, au_, ay_]; rfl) (by simp only [go_sem, seval, au_, ay_]) (fun h10 => ?_) (fun h10 => ?_)
 ·refine .seq (.rgn [] (by simp only [go_sem, seval, au_, ay_]; rfl) ?_ ?_)
  ·first | trivial | simp
  refine .ret ⟨.inr rfl, ?_⟩
  exact Out.plainL (by simp only [Tryz.results92]; rfl) (by simp only [ax_, a6_, go_sem, seval, au_, ay_] <;> (split <;> rfl)) (by simp only [a4_, go_sem, seval, au_, ay_] <;> (simp at h10; rw [ll_ (by omega)]; simp [tkR, ler])) (by simp only [go_sem, seval, au_, ay_])
 ·refine .skip (.seq (.rgn [] (by simp only [go_sem, seval, au_, ay_]; rfl) ?_ ?_))
  ·first | trivial | simp
  refine .seq (.seq (.rgn [] (by simp only [go_sem, seval, au_, ay_]; rfl) ?_ ?_))
  ·first | trivial | simp
  refine .block (.loopK (fun k : Nat × List Tk => ⟨[.s s, .no, .no, .no, .ow 20 3 0 k.2.length, .i .i64 k.1, .no, .no, .no, .no, .no, .no, .no, .no, .no, .no, .no, .no, .no, .no, .no, .no, .no, .no, .no, .no, .no, .no, .no, .no, .no, .no, .no, .no, .no, .no, .no, .no, .no, .no, .no, .no, .no, .no, .no, .no, .no, .no, .no, .no, .no, .no, .no, .no, .no, .no, .no], be_ [(20, ⟨116, 3, tkR k.2⟩)], us [20]⟩) (fun k : Nat × List Tk => k.1 ≤ s.length ∧ s.length ≤ 120 ∧ k.2.length ≤ k.1 ∧ e5_ s.length s 0 = (e5_ (s.drop k.1).length (s.drop k.1) k.1).map (k.2 ++ ·)) (fun k : Nat × List Tk => s.length - k.1) ((0, [])) ?_ ?_ (fun k hI => ?_))
  ·simp at h10; simp; omega
  ·refine Can.trans (Can.ownSlot 4 20 116 3 (by simp only [go_sem, seval, au_, ay_] <;> rfl) (by simp only [go_sem, seval, au_, ay_]) (by simp only [go_sem, seval, au_, ay_] <;> rfl)) ?_
   exact Can.weak (Weak.lit (by simp only [go_sem, seval, au_, ay_, as_, leV, aq_, ar_, V.inn, us, T9_, Ta_] <;> (rfl)) (by simp only [go_sem, seval, au_, ay_, as_, leV, aq_, ar_, V.inn, us, T9_, Ta_]) (by simp only [go_sem, seval, au_, ay_, as_, leV, aq_, ar_, V.inn, us, T9_, Ta_] <;> (rfl)))
  refine .seq (.seq (.rgn [] (by simp only [go_sem, seval, au_, ay_]; rfl) ?_ ?_))
  ·first | trivial | simp
  refine .condB (by simp only [go_sem, seval, au_, ay_]; rfl) (by simp only [go_sem, seval, au_, ay_]) (fun h14 => ?_) (fun h14 => ?_)
  ·refine .skip (.block (.seq (.seq (.rgn [] (by simp only [go_sem, seval, au_, ay_]; rfl) ?_ ?_))))
   ·simp at h14; simp; exact h14
   refine .condB (by simp only [go_sem, seval, au_, ay_]; rfl) (by simp only [go_sem, seval, au_, ay_]) (fun h18 => ?_) (fun h18 => ?_)
   ·refine .seq (.rgn [] (by simp only [go_sem, seval, au_, ay_]; rfl) ?_ ?_)
    ·first | trivial | simp
    refine .exit ?_
    refine Exists.intro ((k.1 + 1, k.2)) ⟨?_, ?_, ?_⟩
    ·simp only [T3_] at h14; simp only [beq_iff_eq] at h18; obtain ⟨i1, i2, i3, i4⟩ := hI; have e := ny_ (show k.1 < s.length by omega) k.1; rw [if_pos ((hs_ (by omega)).2 h18)] at e; exact ⟨by dsimp only; omega, i2, by dsimp only; omega, by rw [i4, e]; rfl⟩
    ·simp only [T3_] at h14; dsimp only; omega
    exact Can.weak (Weak.lit (by simp only [go_sem, seval, au_, ay_, as_, leV, aq_, ar_, V.inn, us, T9_, Ta_] <;> (rw [bd_ (by omega) (by omega)]; rfl)) (by simp only [go_sem, seval, au_, ay_, as_, leV, aq_, ar_, V.inn, us, T9_, Ta_]) (by simp only [go_sem, seval, au_, ay_, as_, leV, aq_, ar_, V.inn, us, T9_, Ta_]))
   ·refine .skip (.seqJ (fun u : Unit => ⟨[.s s, .no, .no, .no, .ow 20 3 0 k.2.length, .i .i64 k.1, .i .i64 (d8_ (s.drop k.1)), .no, .no, .no, .no, .no, .no, .no, .no, .no, .no, .no, .no, .no, .no, .no, .no, .no, .no, .no, .no, .no, .no, .no, .no, .no, .no, .no, .no, .no, .no, .no, .no, .no, .no, .no, .no, .no, .no, .no, .no, .no, .no, .no, .no, .no, .no, .no, .no, .no, .no], be_ [(20, ⟨116, 3, tkR k.2⟩)], us [20]⟩) (fun u : Unit => True) ?_ (fun u hJ => ?_))
    ·refine .rgnDS [29] [a3_ (ab3_ c1_ 126 ps_ (s.drop k.1) (by simp; omega)), a3_ (ab3_ cu_ 127 abn_ (s.drop k.1) (by simp; omega)), maxO En] enM (by simp only [go_sem, seval, au_, ay_]; rfl) (by rfl) ?_ ?_
     ·simp at h14; simp; omega
     refine Exists.intro (()) ⟨?_, ?_⟩
     ·trivial
     exact Can.weak (Weak.lit (by simp only [go_sem, seval, au_, ay_, as_, leV, aq_, ar_, V.inn, us, T9_, Ta_] <;> (rw [ak5_])) (by simp only [go_sem, seval, au_, ay_, as_, leV, aq_, ar_, V.inn, us, T9_, Ta_]) (by simp only [go_sem, seval, au_, ay_, as_, leV, aq_, ar_, V.inn, us, T9_, Ta_]))
    refine .seq (.rgnD [a3_ (aap_ ((s.drop k.1).take (d8_ (s.drop k.1))) (by simp; omega))] enM (by simp only [go_sem, seval, au_, ay_, show IntKind.i64.wrap ((k.1 : Int) + (d8_ (s.drop k.1) : Int)) = ((k.1 + d8_ (s.drop k.1) : Nat) : Int) by (have := z3_ (show k.1 < s.length by simpa using h14); rw [bd_ (by omega) (by omega)]; rfl), pz_]; rfl) (by rfl) ?_ ?_)
    ·have h14' : k.1 < s.length := (by simpa using h14); have := z3_ h14'; simp [ce_]; omega
    refine .seq (.seq (.rgn [] (by simp only [go_sem, seval, au_, ay_]; rfl) ?_ ?_))
    ·first | trivial | simp
    refine .condB (by simp only [go_sem, seval, au_, ay_]; rfl) (by simp only [go_sem, seval, au_, ay_]) (fun h47 => ?_) (fun h47 => ?_)
    ·refine .seq (.rgn [] (by simp only [go_sem, seval, au_, ay_]; rfl) ?_ ?_)
     ·first | trivial | simp
     refine .ret ⟨.inr rfl, ?_⟩
     exact Out.plainL (by simp only [Tryz.results92]; rfl) (by simp only [ax_, a6_, go_sem, seval, au_, ay_] <;> (split <;> rfl)) (by simp only [a4_, go_sem, seval, au_, ay_] <;> (simp only [T3_] at h14; simp only [beq_eq_false_iff_ne] at h18; simp only [beq_iff_eq] at h47; have e := ny_ (show k.1 < s.length by omega) k.1; rw [if_neg (fun h => h18 ((hs_ (by omega)).1 h)), if_pos h47] at e; rw [gv_ (by omega), hI.2.2.2, e]; simp [tkR, ler])) (by simp only [go_sem, seval, au_, ay_])
    ·refine .skip (.seq (.rgn [] (by simp only [go_sem, seval, au_, ay_]; rfl) ?_ ?_))
     ·simp [ae9_]; omega
     refine .rgn [] (by simp only [go_sem, seval, au_, ay_]; rfl) ?_ ?_
     ·first | trivial | simp
     refine Exists.intro ((k.1 + d8_ (s.drop k.1), k.2 ++ [⟨db_ ((s.drop k.1).take (d8_ (s.drop k.1))), (s.drop k.1).take (d8_ (s.drop k.1)), k.1⟩])) ⟨?_, ?_, ?_⟩
     ·simp only [T3_] at h14; simp only [beq_eq_false_iff_ne] at h18 h47; obtain ⟨i1, i2, i3, i4⟩ := hI; have e := ny_ (show k.1 < s.length by omega) k.1; rw [if_neg (fun h => h18 ((hs_ (by omega)).1 h)), if_neg h47] at e; have hb := z3_ (show k.1 < s.length by omega); exact ⟨by dsimp only; omega, i2, by simp only [T2_, List.length_singleton]; omega, by rw [i4, e, Option.map_map]; simp [Function.comp_def]⟩
     ·simp only [T3_] at h14; have hb := z3_ (show k.1 < s.length by omega); dsimp only; omega
     refine Can.trans (Can.swap 61 20 (by decide) (by decide) (by decide) (by decide) (by simp only [go_sem, seval, au_, ay_, V.cl]) (by simp only [go_sem, seval, au_, ay_, V.cl]) (by simp only [go_sem, seval, au_, ay_, bq_, sw, swM, rnB] <;> rfl) (by simp only [go_sem, seval, au_, ay_, bq_, sw, swM, rnB] <;> rfl) (by simp only [go_sem, seval, au_, ay_, bq_, sw, swM, rnB] <;> rfl)) ?_
     exact Can.weak (Weak.lit (by simp only [go_sem, seval, au_, ay_, as_, leV, aq_, ar_, V.inn, us, T9_, Ta_] <;> ((have hb := z3_ (show k.1 < s.length by simpa using h14)); rw [bd_ (by omega) (by omega)]; simp)) (by simp only [go_sem, seval, au_, ay_, as_, leV, aq_, ar_, V.inn, us, T9_, Ta_]) (by simp only [go_sem, seval, au_, ay_, as_, leV, aq_, ar_, V.inn, us, T9_, Ta_] <;> (rw [o0_])))
  ·refine .exit (.seq (.rgn [bw_ [20] [] (z4_ k.2 k.2.length rfl (by omega))] (by simp only [go_sem, seval, au_, ay_]; rfl) ?_ ?_))
   ·simp [ag_, ak_, au_]
   refine .frz 20 (by simp only [go_sem, seval, au_, ay_]; rfl) (by simp only [go_sem, seval, au_, ay_]) (by simp only [go_sem, seval, au_, ay_]; rfl) (by simp only [go_sem, seval, au_, ay_]; rfl) ?_
   refine .ret ⟨.inr rfl, ?_⟩
   exact Out.plainL (by simp only [Tryz.results92]; rfl) (by simp only [ax_, a6_, go_sem, seval, au_, ay_] <;> (split <;> rfl)) (by simp only [a4_, go_sem, seval, au_, ay_] <;> (simp only [T4_] at h14; rw [gv_ (by omega), hI.2.2.2, q9_ (by omega)]; simp [T1_, ay_, leV, a8_])) (by simp only [go_sem, seval, au_, ay_])
end
end Go.Proofs.YtpikbndepapbhaaGreatDoor
