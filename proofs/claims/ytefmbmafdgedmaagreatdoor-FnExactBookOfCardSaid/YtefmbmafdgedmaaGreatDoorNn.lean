/- What the library's functions answer: strconv.Atoi, strings.Contains; numbers. Conditions: none. -/
import Derived.Test.YtefmbmafdgedmaaGreatDoorNf
import Derived.Test.YtefmbmafdgedmaaGreatDoorNg
import Derived.Test.YtefmbmafdgedmaaGreatDoorNh
import Derived.Test.YtefmbmafdgedmaaGreatDoorNd
set_option linter.unusedVariables false
set_option linter.unusedSimpArgs false
namespace Go.Proofs.YtefmbmafdgedmaaGreatDoor
section
open Go.RowKit
set_option maxRecDepth 100000
set_option maxHeartbeats 1000000
theorem errU : En.P.underlying 170 = some (.interface (En.P.methodsAt 170)) := by kernel_rfl
def jo_ (o : Option Int) : V := match o with | some n => .i .i64 n | none => .no
def h0_ (s : Str) : Option Int := match Lib.atoiAll s with | .ok v => some v | _ => none
theorem abk_ (s : Str) (hs : s.length ≤ 281474976710656) : ACall En 204 [.s s] [] [jo_ (h0_ s), ifV (h0_ s).isSome] [] := by
 refine gp_ (fn := Tryz.f204) Tryz.func204 rfl rfl fun S w xs hx _ ⟨B, hB, _⟩ => ?_
 simp only [VRs, VR] at hx
 obtain ⟨x, r, e1, rfl, rfl⟩ := hx
 obtain rfl : xs = #[.string ⟨s.toArray⟩] := by apply Array.ext'; simpa using e1
 have hsz : (⟨s.toArray⟩ : ByteArray).size ≤ 281474976710656 := by simpa [ByteArray.size] using hs
 have hd : (⟨s.toArray⟩ : ByteArray).data.toList = s := by simp
 cases h : Lib.atoiAll s with
 | ok v =>
  have ho : h0_ s = some v := by simp [h0_, h]
  refine (Tryz.strconv_Atoi_ok ⟨s.toArray⟩ (by omega) v (by rw [hd]; exact h) w).mono ?_
  rintro e w' ⟨rfl, hw⟩
  refine ⟨[.int .i64 v, .nilIface], rfl, ?_, ?_⟩
  ·rcases hw with rfl | ⟨t, rfl⟩
   ·exact Below.refl _ _
   ·exact Lib.bytesWorld_below _ _ _
  ·rw [ho]; exact .cons (by simp only [jo_, VR]) (.cons (by simp [ifV, VR]) .nil)
 | range =>
  have ho : h0_ s = none := by simp [h0_, h]
  obtain ⟨tp, p, hv⟩ := hB.rng
  refine (Any.strconv_Atoi_range_var Tryz.laysC172 ⟨s.toArray⟩ hsz (by rw [hd]; exact h) tp p w hv).mono ?_
  rintro e w' ⟨N, rfl, _, _, hb⟩
  exact ⟨[_, _], rfl, hb, by rw [ho]; exact .cons (by simp only [jo_, VR]) (.cons (by simp [ifV, VR]) .nil)⟩
 | _ =>
  have ho : h0_ s = none := by simp [h0_, h]
  obtain ⟨tp, p, hv⟩ := hB.syn
  refine (Any.strconv_Atoi_syntax_var Tryz.laysC172 ⟨s.toArray⟩ hsz (by rw [hd]; exact h) tp p w hv).mono ?_
  rintro e w' ⟨N, rfl, _, _, hb⟩
  exact ⟨[_, _], rfl, hb, by rw [ho]; exact .cons (by simp only [jo_, VR]) (.cons (by simp [ifV, VR]) .nil)⟩
def ip_ (s : Str) : V := if c2_ s then .i .i64 (b8_ s) else .no
theorem ce_ (s : Str) : (ip_ s).pure = true := by unfold ip_; split <;> rfl
theorem dl_ (s : Str) : peel (ip_ s) = ip_ s := by unfold ip_; split <;> rfl
theorem c3_ (s : Str) : d2_ (ip_ s) = true := by unfold ip_; split <;> rfl
theorem adc_ (v : V) : leV v .no = True := by cases v <;> simp only [leV]
theorem nu_ : ∀ (l : Str) (c : UInt8), -1 ≤ Lib.indexByte l c
 | [], _ => by simp [Lib.indexByte]
 | b :: l, c => by
  have := nu_ l c
  simp only [Lib.indexByte]
  split
  ·decide
  ·split <;> omega
theorem r6_ : ∀ (l : Str) (c : UInt8), 0 ≤ Lib.indexByte l c ↔ c ∈ l
 | [], _ => by simp [Lib.indexByte]
 | b :: l, c => by
  have h1 := nu_ l c
  have h2 := r6_ l c
  rw [List.mem_cons, ← h2, Lib.indexByte]
  by_cases hb : b = c
  ·subst hb; rw [if_pos (beq_self_eq_true b)]; exact ⟨fun _ => .inl rfl, fun _ => Int.le_refl _⟩
  ·rw [if_neg (by simpa using hb)]
   by_cases hc : Lib.indexByte l c = -1
   ·rw [if_pos (by rw [hc]; rfl), hc]; exact ⟨fun h => absurd h (by decide), fun h => h.elim (fun e => absurd e.symm hb) id⟩
   ·rw [if_neg (by simpa using hc)]; exact ⟨fun h => .inr (by omega), fun h => h.elim (fun e => absurd e.symm hb) (fun h => by omega)⟩
theorem ih_ (l : Str) (c : UInt8) : decide (0 ≤ Lib.indexByte l c) = l.contains c := by
 rw [List.contains_eq_mem]; exact decide_eq_decide.2 (r6_ l c)
theorem ab4_ (s : Str) (hs : s.length ≤ 281474976710656) (h : h0_ s = none) : ACall En 163 [.s s] [] [ip_ s, .b (c2_ s)] [] := by
 have A := abk_ s hs
 rw [h] at A
 have hn : c2_ s = false := z8_ fun v hv => by simp [h0_, hv] at h
 refine ah_ (fn := Tryz.f163) [] Tryz.func163 rfl rfl (by simp) fun C => ?_
 rw [ar_]
 simp only [Tryz.ntmps163, List.length_cons, List.length_nil, Nat.reduceAdd, Nat.reduceSub, List.replicate_succ, List.replicate_zero, List.cons_append, List.nil_append, bd_]
 refine .seq (.rgn [] (by simp only [go_sem, seval, jo_, Option.isSome_none, ce_]; rfl) ?_ ?_)
 ·first | trivial | simp
 refine .seq (.rgn [a2_ A] (by simp only [go_sem, seval, jo_, Option.isSome_none, ce_]; rfl) ?_ ?_)
 ·first | trivial | simp
 refine .seq (.rgnS [13] [ifO En 170 false errU, a2_ (in_a 0 0 1000000), a2_ (wc_ 0 (by decide) (by decide))] (by simp only [go_sem, seval, jo_, Option.isSome_none, ce_]; rfl) ?_ ?_)
 ·first | trivial | simp
 refine .ret ⟨.inr rfl, ?_⟩
 exact Out.plainL (by simp only [Tryz.results163]; rfl) (by simp only [aq_, a8_, go_sem, seval, jo_, Option.isSome_none, ce_] <;> (split <;> rfl)) (by simp only [a7_, go_sem, seval, jo_, Option.isSome_none, ce_] <;> (simp [hn, ip_, adc_])) (by simp only [go_sem, seval, jo_, Option.isSome_none, ce_])
theorem acg_ (s : Str) (hs : s.length ≤ 281474976710656) {v : Int} (h : h0_ s = some v) : ACall En 163 [.s s] [] [ip_ s, .b (c2_ s)] [] := by
 have A := abk_ s hs
 rw [h] at A
 have hv : Lib.atoiAll s = .ok v := by
  unfold h0_ at h
  split at h
  ·rename_i v' hv'; cases h; exact hv'
  ·cases h
 refine ah_ (fn := Tryz.f163) [] Tryz.func163 rfl rfl (by simp) fun C => ?_
 rw [ar_]
 simp only [Tryz.ntmps163, List.length_cons, List.length_nil, Nat.reduceAdd, Nat.reduceSub, List.replicate_succ, List.replicate_zero, List.cons_append, List.nil_append, bd_]
 refine .seq (.rgn [] (by simp only [go_sem, seval, jo_, Option.isSome_some, ce_]; rfl) ?_ ?_)
 ·first | trivial | simp
 refine .seq (.rgn [a2_ A] (by simp only [go_sem, seval, jo_, Option.isSome_some, ce_]; rfl) ?_ ?_)
 ·first | trivial | simp
 refine .seq (.rgnS [13] [ifO En 170 true errU, a2_ (in_a v 0 1000000), c1_ (0 ≤ v ∧ v ≤ 1000000) (fun h => wc_ v (by omega) (by omega))] (by simp only [go_sem, seval, jo_, Option.isSome_some, ce_]; rfl) ?_ ?_)
 ·first | trivial | simp
 refine .ret ⟨.inr rfl, ?_⟩
 exact Out.plainL (by simp only [Tryz.results163]; rfl) (by simp only [aq_, a8_, go_sem, seval, jo_, Option.isSome_some, ce_] <;> (split <;> rfl)) (by simp only [a7_, go_sem, seval, jo_, Option.isSome_some, ce_] <;> (have k := afq_ hv; cases hn : c2_ s; (simp only [hn] at k; simp only [ip_, hn]; refine ⟨?_, ?_⟩; (simp only [Bool.false_eq_true, if_false]; rw [adc_]; trivial); simpa using k); (have hv2 := zr_ hv hn; simp only [ip_, hn, if_true]; rw [← hv2]; simp only [hn] at k; simp only [fk_]; simpa using k))) (by simp only [go_sem, seval, jo_, Option.isSome_some, ce_])
theorem um_ (s : Str) (hs : s.length ≤ 281474976710656) : ACall En 163 [.s s] [] [ip_ s, .b (c2_ s)] [] := by
 cases h : h0_ s with
 | none => exact ab4_ s hs h
 | some v => exact acg_ s hs h
theorem mp_ (s : Str) (c : UInt8) : ACall En 164 [.s s, .s [c]] [] [.b (s.contains c)] [] := by
 refine gp_ (fn := Tryz.f164) Tryz.func164 rfl rfl fun S w xs hx _ ⟨B, hB, _⟩ => ?_
 simp only [VRs, VR] at hx
 obtain ⟨x, r, e1, rfl, y, q, rfl, rfl, rfl⟩ := hx
 obtain rfl : xs = #[.string ⟨s.toArray⟩, .string ⟨#[c]⟩] := by apply Array.ext'; simpa using e1
 refine (Tryz.strings_Contains_one ⟨s.toArray⟩ c w).mono ?_
 rintro e w' ⟨rfl, rfl⟩
 refine ⟨[_], rfl, Below.refl _ _, .cons ?_ .nil⟩
 simp only [VR]
 rw [← ih_]
end
section
set_option maxRecDepth 100000
set_option maxHeartbeats 4000000
theorem aas_ (s : Str) (hs : s.length ≤ 281474976710656) : ACall En 104 [.i .i64 2, .s s] [] [.b (c2_ s)] [] := by
 refine ah_ (fn := Tryz.f104) [] Tryz.func104 rfl rfl (by simp) fun C => ?_
 rw [ar_]
 simp only [Tryz.ntmps104, List.length_cons, List.length_nil, Nat.reduceAdd, Nat.reduceSub, List.replicate_succ, List.replicate_zero, List.cons_append, List.nil_append, bd_]
 refine .seq (.rgn [] (by simp only [go_sem, seval, ce_, dl_, c3_]; rfl) ?_ ?_)
 ·first | trivial | simp
 refine .seq (.seq (.rgn [] (by simp only [go_sem, seval, ce_, dl_, c3_]; rfl) ?_ ?_))
 ·first | trivial | simp
 refine .block (.seq (.rgn [] (by simp only [go_sem, seval, ce_, dl_, c3_]; rfl) ?_ ?_))
 ·first | trivial | simp
 refine .condB (by simp only [go_sem, seval, ce_, dl_, c3_]; rfl) (by simp only [go_sem, seval, ce_, dl_, c3_]) (fun h8 => ?_) (fun h8 => ?_)
 ·exact absurd h8 (by simp)
 ·refine .seq (.rgn [] (by simp only [go_sem, seval, ce_, dl_, c3_]; rfl) ?_ ?_)
  ·first | trivial | simp
  refine .condB (by simp only [go_sem, seval, ce_, dl_, c3_]; rfl) (by simp only [go_sem, seval, ce_, dl_, c3_]) (fun h20 => ?_) (fun h20 => ?_)
  ·refine .seq (.rgn [a2_ (um_ s hs)] (by simp only [go_sem, seval, ce_, dl_, c3_]; rfl) ?_ ?_)
   ·first | trivial | simp
   refine .seq (.rgn [] (by simp only [go_sem, seval, ce_, dl_, c3_]; rfl) ?_ ?_)
   ·first | trivial | simp
   refine .ret ⟨.inr rfl, ?_⟩
   exact Out.plain (by simp only [Tryz.results104]; rfl) (by simp only [aq_, a8_, go_sem, seval, ce_, dl_, c3_] <;> (split <;> rfl)) (by simp only [a7_, go_sem, seval, ce_, dl_, c3_] <;> (rfl)) (by simp only [go_sem, seval, ce_, dl_, c3_])
  ·exact absurd h20 (by simp)
theorem vv_ (c : UInt8) : ACall En 104 [.i .i64 3, .s [c]] [] [.b (e0_ [c])] [] := by
 refine ah_ (fn := Tryz.f104) [] Tryz.func104 rfl rfl (by simp) fun C => ?_
 rw [ar_]
 simp only [Tryz.ntmps104, List.length_cons, List.length_nil, Nat.reduceAdd, Nat.reduceSub, List.replicate_succ, List.replicate_zero, List.cons_append, List.nil_append, bd_]
 refine .seq (.rgn [] (by simp only [go_sem, seval]; rfl) ?_ ?_)
 ·(first | trivial | (simp [marks]; done))
 refine .seq (.seq (.rgn [] (by simp only [go_sem, seval]; rfl) ?_ ?_))
 ·(first | trivial | (simp [marks]; done))
 refine .block (.seq (.rgn [] (by simp only [go_sem, seval]; rfl) ?_ ?_))
 ·(first | trivial | (simp [marks]; done))
 refine .condB (by simp only [go_sem, seval]; rfl) (by simp only [go_sem, seval]) (fun h8 => ?_) (fun h8 => ?_)
 ·exact absurd h8 (by simp)
 ·refine .seq (.rgn [] (by simp only [go_sem, seval]; rfl) ?_ ?_)
  ·(first | trivial | (simp [marks]; done))
  refine .condB (by simp only [go_sem, seval]; rfl) (by simp only [go_sem, seval]) (fun h20 => ?_) (fun h20 => ?_)
  ·exact absurd h20 (by simp)
  ·refine .seq (.rgn [] (by simp only [go_sem, seval]; rfl) ?_ ?_)
   ·(first | trivial | (simp [marks]; done))
   refine .condB (by simp only [go_sem, seval]; rfl) (by simp only [go_sem, seval]) (fun h28 => ?_) (fun h28 => ?_)
   ·refine .seq (.rgn [a2_ (mp_ marks c)] (by simp only [go_sem, seval]; rfl) ?_ ?_)
    ·(first | trivial | (simp [marks]; done))
    refine .ret ⟨.inr rfl, ?_⟩
    exact Out.plain (by simp only [Tryz.results104]; rfl) (by simp only [aq_, a8_, go_sem, seval] <;> (split <;> rfl)) (by simp only [a7_, go_sem, seval] <;> (simp [e0_])) (by simp only [go_sem, seval])
   ·exact absurd h28 (by simp)
theorem vx_ (s : Str) (h : s.length ≠ 1) : ACall En 104 [.i .i64 3, .s s] [] [.b (e0_ s)] [] := by
 have h2 : ((s.length : Int) == 1) = false := by simpa using (show ¬ (s.length : Int) = 1 by omega)
 refine ah_ (fn := Tryz.f104) [] Tryz.func104 rfl rfl (by simp) fun C => ?_
 rw [ar_]
 simp only [Tryz.ntmps104, List.length_cons, List.length_nil, Nat.reduceAdd, Nat.reduceSub, List.replicate_succ, List.replicate_zero, List.cons_append, List.nil_append, bd_]
 refine .seq (.rgn [] (by simp only [go_sem, seval]; rfl) ?_ ?_)
 ·(first | trivial | (simp [h2]; done))
 refine .seq (.seq (.rgn [] (by simp only [go_sem, seval]; rfl) ?_ ?_))
 ·(first | trivial | (simp [h2]; done))
 refine .block (.seq (.rgn [] (by simp only [go_sem, seval]; rfl) ?_ ?_))
 ·(first | trivial | (simp [h2]; done))
 refine .condB (by simp only [go_sem, seval]; rfl) (by simp only [go_sem, seval]) (fun h8 => ?_) (fun h8 => ?_)
 ·exact absurd h8 (by simp)
 ·refine .seq (.rgn [] (by simp only [go_sem, seval]; rfl) ?_ ?_)
  ·(first | trivial | (simp [h2]; done))
  refine .condB (by simp only [go_sem, seval]; rfl) (by simp only [go_sem, seval]) (fun h20 => ?_) (fun h20 => ?_)
  ·exact absurd h20 (by simp)
  ·refine .seq (.rgn [] (by simp only [go_sem, seval]; rfl) ?_ ?_)
   ·(first | trivial | (simp [h2]; done))
   refine .condB (by simp only [go_sem, seval]; rfl) (by simp only [go_sem, seval]) (fun h28 => ?_) (fun h28 => ?_)
   ·refine .seq (.rgn [a2_ (mp_ marks 0)] (by simp only [go_sem, seval]; rfl) ?_ ?_)
    ·(first | trivial | (simp [h2]; done))
    refine .ret ⟨.inr rfl, ?_⟩
    exact Out.plain (by simp only [Tryz.results104]; rfl) (by simp only [aq_, a8_, go_sem, seval] <;> (split <;> rfl)) (by simp only [a7_, go_sem, seval] <;> (simp [e0_, h, h2])) (by simp only [go_sem, seval])
   ·exact absurd h28 (by simp)
def o8_ (k : Int) (s : Str) : Bool := if k = 1 then eo_ s else if k = 2 then c2_ s else e0_ s
theorem aee_ (k : Int) (hk : k = 1 ∨ k = 2 ∨ k = 3) (s : Str) (hs : s.length ≤ 281474976710656) : ACall En 104 [.i .i64 k, .s s] [] [.b (o8_ k s)] [] := by
 rcases hk with rfl | rfl | rfl
 ·exact ty_ s (by omega)
 ·exact aas_ s hs
 ·by_cases h : s.length = 1
  ·obtain ⟨c, rfl⟩ := List.length_eq_one_iff.1 h
   exact vv_ c
  ·exact vx_ s h
theorem ob_ (s : Str) : da_ s = if o8_ 1 s then 1 else if o8_ 2 s then 2 else if o8_ 3 s then 3 else 0 := rfl
theorem yd_ (s : Str) (hs : s.length ≤ 281474976710656) : ACall En 53 [.s s] [] [.i .i64 (da_ s)] [] := by
 refine ah_ (fn := Tryz.f53) [] Tryz.func53 rfl rfl (by simp) fun C => ?_
 rw [ar_]
 simp only [Tryz.ntmps53, List.length_cons, List.length_nil, Nat.reduceAdd, Nat.reduceSub, List.replicate_succ, List.replicate_zero, List.cons_append, List.nil_append, bd_]
 refine .seq (.rgn [] (by simp only [go_sem, seval]; rfl) ?_ ?_)
 ·first | trivial | simp
 refine .seq (.seq (.rgn [] (by simp only [go_sem, seval]; rfl) ?_ ?_))
 ·first | trivial | simp
 refine .block (.loopK (fun k : Int => ⟨[.s s, .no, .no, .i .i64 k, .no, .no, .no, .no, .no, .no, .no, .no], aw_ [], us []⟩) (fun k : Int => 1 ≤ k ∧ k ≤ 4 ∧ (1 < k → o8_ 1 s = false) ∧ (2 < k → o8_ 2 s = false) ∧ (3 < k → o8_ 3 s = false)) (fun k : Int => (4 - k).toNat) (1) ?_ ?_ (fun k hI => ?_))
 ·simp
 ·exact Can.weak (Weak.lit (by simp only [go_sem, seval, an_, leV, al_, am_, V.inn, us, true_or, or_true] <;> (simp)) (by simp only [go_sem, seval, an_, leV, al_, am_, V.inn, us, true_or, or_true]) (by simp only [go_sem, seval, an_, leV, al_, am_, V.inn, us, true_or, or_true]))
 refine .seq (.seq (.rgn [] (by simp only [go_sem, seval]; rfl) ?_ ?_))
 ·first | trivial | simp
 refine .condB (by simp only [go_sem, seval]; rfl) (by simp only [go_sem, seval]) (fun h5 => ?_) (fun h5 => ?_)
 ·refine .skip (.seq (.block (.seq (.rgn [c1_ (k = 1 ∨ k = 2 ∨ k = 3) (fun h => aee_ k h s hs)] (by simp only [go_sem, seval]; rfl) ?_ ?_))))
  ·simp at h5; omega
  refine .condB (by simp only [go_sem, seval]; rfl) (by simp only [go_sem, seval]) (fun h10 => ?_) (fun h10 => ?_)
  ·refine .seq (.rgn [] (by simp only [go_sem, seval]; rfl) ?_ ?_)
   ·first | trivial | simp
   refine .ret ⟨.inr rfl, ?_⟩
   exact Out.plain (by simp only [Tryz.results53]; rfl) (by simp only [aq_, a8_, go_sem, seval] <;> (split <;> rfl)) (by simp only [a7_, go_sem, seval] <;> (simp at h5; (have hk : k = 1 ∨ k = 2 ∨ k = 3 := by omega); rw [ob_]; rcases hk with rfl | rfl | rfl <;> simp_all)) (by simp only [go_sem, seval])
  ·refine .skip (.rgn [] (by simp only [go_sem, seval]; rfl) ?_ ?_)
   ·first | trivial | simp
   refine Exists.intro (k + 1) ⟨?_, ?_, ?_⟩
   ·simp at h5; (have hk : k = 1 ∨ k = 2 ∨ k = 3 := by omega); rcases hk with rfl | rfl | rfl <;> simp_all
   ·simp at h5; omega
   exact Can.weak (Weak.lit (by simp only [go_sem, seval, an_, leV, al_, am_, V.inn, us, true_or, or_true] <;> (rw [bc_ (by omega) (by omega)])) (by simp only [go_sem, seval, an_, leV, al_, am_, V.inn, us, true_or, or_true]) (by simp only [go_sem, seval, an_, leV, al_, am_, V.inn, us, true_or, or_true]))
 ·refine .exit (.seq (.rgn [] (by simp only [go_sem, seval]; rfl) ?_ ?_))
  ·first | trivial | simp
  refine .ret ⟨.inr rfl, ?_⟩
  exact Out.plain (by simp only [Tryz.results53]; rfl) (by simp only [aq_, a8_, go_sem, seval] <;> (split <;> rfl)) (by simp only [a7_, go_sem, seval] <;> (simp at h5; (have hk : k = 4 := by omega); subst hk; simp_all [ob_])) (by simp only [go_sem, seval])
def tkR (l : List Tk) : List (List V) := l.map fun t => [.i .i64 t.kind, .s t.s, .i .i64 t.col]
theorem ao_ (l : List Tk) : (tkR l).length = l.length := by simp [tkR]
theorem aj_ : ∀ l : List Tk, cf_ (tkR l) = true
 | [] => rfl
 | _ :: r => by show (cv_ [_, _, _] && cf_ (tkR r)) = true; rw [aj_ r]; rfl
theorem n6_ (l : List Tk) (t : Tk) : tkR (l ++ [t]) = tkR l ++ [[.i .i64 t.kind, .s t.s, .i .i64 t.col]] := by simp [tkR]
theorem aaj_ (l : List Tk) : (∀ r, r ∈ tkR l → r.length = 3) = True := eq_true fun r hr => by obtain ⟨t, _, rfl⟩ := List.mem_map.1 hr; rfl
theorem ws_ {l : List Tk} {k : Nat} (h : k < l.length) : (tkR l).getD k [] = [.i .i64 (l.getD k ⟨0, [], 0⟩).kind, .s (l.getD k ⟨0, [], 0⟩).s, .i .i64 (l.getD k ⟨0, [], 0⟩).col] := by
 simp [tkR, List.getD_eq_getElem?_getD, List.getElem?_eq_getElem h]
theorem zm_ (l : List Tk) (n : Nat) (hn : n = l.length) (hl : l.length < 1099511627776) : ACall En 54 [.ow 0 3 0 n] [⟨40, 3, tkR l⟩] [.ow 0 3 0 n] [⟨40, 3, tkR l⟩] := by
 refine ah_ (fn := Tryz.f54) [0] Tryz.func54 rfl rfl (by simp) fun C => ?_
 rw [ar_]
 simp only [Tryz.ntmps54, List.length_cons, List.length_nil, Nat.reduceAdd, Nat.reduceSub, List.replicate_succ, List.replicate_zero, List.cons_append, List.nil_append, bd_]
 refine .seq (.rgn [] (by simp only [go_sem, seval, aj_]; rfl) ?_ ?_)
 ·subst hn; simp [ao_]
 refine .seq (.rgn [] (by simp only [go_sem, seval, aj_]; rfl) ?_ ?_)
 ·subst hn; simp [ao_]
 refine .ret ⟨.inr rfl, ?_⟩
 exact Out.mem' (by simp only [Tryz.results54]; rfl) (by simp only [aq_, a8_, go_sem, seval, aj_]) (by simp only [a7_, rns, rn, go_sem, seval, aj_] <;> (simp)) (by simp) rfl (by decide) (by simp only [go_sem, seval, aj_]) (by simp only [ay_, go_sem, seval, aj_]) (by simp only [as_, go_sem, seval, aj_] <;> (simp [ci_, aj_]))
theorem nb_ {l : Str} {k : Nat} (h : k < l.length) (col : Int) : ez_ (l.drop k).length (l.drop k) col =
  if l.getD k 0 = 32 then ez_ (l.drop (k + 1)).length (l.drop (k + 1)) (col + 1)
  else if da_ ((l.drop k).take (d4_ (l.drop k))) = 0 then none
  else (ez_ (l.drop (k + d4_ (l.drop k))).length (l.drop (k + d4_ (l.drop k))) (col + d4_ (l.drop k))).map (⟨da_ ((l.drop k).take (d4_ (l.drop k))), (l.drop k).take (d4_ (l.drop k)), col⟩ :: ·) := by
 have e : l.drop k = l.getD k 0 :: l.drop (k + 1) := by
  rw [List.drop_eq_getElem_cons h, List.getD_eq_getElem?_getD, List.getElem?_eq_getElem h]; rfl
 have h2 := jc_ (l.getD k 0) (l.drop (k + 1)) col
 rw [← e, List.drop_drop] at h2
 exact h2
theorem hd_ {l : Str} {k : Nat} (h : k < l.length) : l.getD k 0 = 32 ↔ ((l.getD k 0).toNat : Int) = 32 := by
 constructor
 ·intro e; rw [e]; rfl
 ·intro e; apply UInt8.toNat_inj.1; show _ = 32; omega
theorem ya_ {s : Str} {k : Nat} (h : k < s.length) : 1 ≤ d4_ (s.drop k) ∧ k + d4_ (s.drop k) ≤ s.length := by
 have h1 := k6_ (s.drop k)
 have h2 := aeb_ (l := s.drop k) (fun e => by have := congrArg List.length e; rw [List.length_drop] at this; simp only [List.length_nil] at this; omega)
 rw [List.length_drop] at h2
 omega
theorem nz_ (s : Str) (k w : Nat) : (s.take (k + w)).drop k = (s.drop k).take w := by rw [List.drop_take, Nat.add_sub_cancel_left]
theorem ahg_ (r : Str) : (if ((r.takeWhile cs_).length : Int) > (if ((r.takeWhile cx_).length : Int) > 1 then ((r.takeWhile cx_).length : Int) else 1) then ((r.takeWhile cs_).length : Int) else (if ((r.takeWhile cx_).length : Int) > 1 then ((r.takeWhile cx_).length : Int) else 1)) = (d4_ r : Int) := by
 unfold d4_
 split <;> split at * <;> omega
theorem kx_ {s : Str} (h : 120 < s.length) : cg_ s = none := by rw [cg_, if_pos h]
theorem gj_ {s : Str} (h : s.length ≤ 120) : cg_ s = ez_ s.length s 0 := by rw [cg_, if_neg (by omega)]
theorem p1_ {s : Str} {k : Nat} (h : s.length ≤ k) (c : Int) : ez_ (s.drop k).length (s.drop k) c = some [] := by rw [List.drop_of_length_le h]; rfl
theorem yj_ (s : Str) (hs : s.length ≤ 281474976710656) : ACall En 16 [.s s] [] [.sl false (tkR ((cg_ s).getD [])), .b (cg_ s).isSome] [] := by
 refine ah_ (fn := Tryz.f16) [] Tryz.func16 rfl rfl (by simp) fun C => ?_
 rw [ar_]
 simp only [Tryz.ntmps16, List.length_cons, List.length_nil, Nat.reduceAdd, Nat.reduceSub, List.replicate_succ, List.replicate_zero, List.cons_append, List.nil_append, bd_]
 refine .seq (.rgn [] (by simp only [go_sem, seval, aj_, ao_]; rfl) ?_ ?_)
 ·first | trivial | simp
 refine .seq (.seq (.rgn [] (by simp only [go_sem, seval, aj_, ao_]; rfl) ?_ ?_))
 ·first | trivial | simp
 refine .condB (by simp only [go_sem, seval, aj_, ao_]; rfl) (by simp only [go_sem, seval, aj_, ao_]) (fun h10 => ?_) (fun h10 => ?_)
 ·refine .seq (.rgn [] (by simp only [go_sem, seval, aj_, ao_]; rfl) ?_ ?_)
  ·first | trivial | simp
  refine .ret ⟨.inr rfl, ?_⟩
  exact Out.plainL (by simp only [Tryz.results16]; rfl) (by simp only [aq_, a8_, go_sem, seval, aj_, ao_] <;> (split <;> rfl)) (by simp only [a7_, go_sem, seval, aj_, ao_] <;> (simp at h10; rw [kx_ (by omega)]; simp [tkR, ler])) (by simp only [go_sem, seval, aj_, ao_])
 ·refine .skip (.seq (.rgn [] (by simp only [go_sem, seval, aj_, ao_]; rfl) ?_ ?_))
  ·first | trivial | simp
  refine .seq (.seq (.rgn [] (by simp only [go_sem, seval, aj_, ao_]; rfl) ?_ ?_))
  ·first | trivial | simp
  refine .block (.loopK (fun k : Nat × List Tk => ⟨[.s s, .no, .no, .no, .ow 20 3 0 k.2.length, .i .i64 k.1, .no, .no, .no, .no, .no, .no, .no, .no, .no, .no, .no, .no, .no, .no, .no, .no, .no, .no, .no, .no, .no, .no, .no, .no, .no, .no, .no, .no, .no, .no, .no, .no, .no, .no, .no, .no, .no, .no, .no, .no, .no, .no, .no, .no, .no, .no, .no, .no, .no, .no, .no], aw_ [(20, ⟨40, 3, tkR k.2⟩)], us [20]⟩) (fun k : Nat × List Tk => k.1 ≤ s.length ∧ s.length ≤ 120 ∧ k.2.length ≤ k.1 ∧ ez_ s.length s 0 = (ez_ (s.drop k.1).length (s.drop k.1) k.1).map (k.2 ++ ·)) (fun k : Nat × List Tk => s.length - k.1) ((0, [])) ?_ ?_ (fun k hI => ?_))
  ·simp at h10; simp; omega
  ·refine Can.trans (Can.ownSlot 4 20 40 3 (by simp only [go_sem, seval, aj_, ao_] <;> rfl) (by simp only [go_sem, seval, aj_, ao_]) (by simp only [go_sem, seval, aj_, ao_] <;> rfl)) ?_
   exact Can.weak (Weak.lit (by simp only [go_sem, seval, aj_, ao_, an_, leV, al_, am_, V.inn, us, true_or, or_true] <;> (rfl)) (by simp only [go_sem, seval, aj_, ao_, an_, leV, al_, am_, V.inn, us, true_or, or_true]) (by simp only [go_sem, seval, aj_, ao_, an_, leV, al_, am_, V.inn, us, true_or, or_true] <;> (rfl)))
  refine .seq (.seq (.rgn [] (by simp only [go_sem, seval, aj_, ao_]; rfl) ?_ ?_))
  ·first | trivial | simp
  refine .condB (by simp only [go_sem, seval, aj_, ao_]; rfl) (by simp only [go_sem, seval, aj_, ao_]) (fun h14 => ?_) (fun h14 => ?_)
  ·refine .skip (.block (.seq (.seq (.rgn [] (by simp only [go_sem, seval, aj_, ao_]; rfl) ?_ ?_))))
   ·simp at h14; simp; exact h14
   refine .condB (by simp only [go_sem, seval, aj_, ao_]; rfl) (by simp only [go_sem, seval, aj_, ao_]) (fun h18 => ?_) (fun h18 => ?_)
   ·refine .seq (.rgn [] (by simp only [go_sem, seval, aj_, ao_]; rfl) ?_ ?_)
    ·first | trivial | simp
    refine .exit ?_
    refine Exists.intro ((k.1 + 1, k.2)) ⟨?_, ?_, ?_⟩
    ·simp only [decide_eq_true_eq] at h14; simp only [beq_iff_eq] at h18; obtain ⟨i1, i2, i3, i4⟩ := hI; have e := nb_ (show k.1 < s.length by omega) k.1; rw [if_pos ((hd_ (by omega)).2 h18)] at e; exact ⟨by dsimp only; omega, i2, by dsimp only; omega, by rw [i4, e]; rfl⟩
    ·simp only [decide_eq_true_eq] at h14; dsimp only; omega
    exact Can.weak (Weak.lit (by simp only [go_sem, seval, aj_, ao_, an_, leV, al_, am_, V.inn, us, true_or, or_true] <;> (rw [bc_ (by omega) (by omega)]; rfl)) (by simp only [go_sem, seval, aj_, ao_, an_, leV, al_, am_, V.inn, us, true_or, or_true]) (by simp only [go_sem, seval, aj_, ao_, an_, leV, al_, am_, V.inn, us, true_or, or_true]))
   ·refine .skip (.seqJ (fun u : Unit => ⟨[.s s, .no, .no, .no, .ow 20 3 0 k.2.length, .i .i64 k.1, .i .i64 (d4_ (s.drop k.1)), .no, .no, .no, .no, .no, .no, .no, .no, .no, .no, .no, .no, .no, .no, .no, .no, .no, .no, .no, .no, .no, .no, .no, .no, .no, .no, .no, .no, .no, .no, .no, .no, .no, .no, .no, .no, .no, .no, .no, .no, .no, .no, .no, .no, .no, .no, .no, .no, .no, .no], aw_ [(20, ⟨40, 3, tkR k.2⟩)], us [20]⟩) (fun u : Unit => True) ?_ (fun u hJ => ?_))
    ·refine .rgnDS [29] [a2_ (ac1_ cx_ 51 n5_ (s.drop k.1) (by simp; omega)), a2_ (ac1_ cs_ 52 yq_ (s.drop k.1) (by simp; omega)), maxO En] enM (by simp only [go_sem, seval, aj_, ao_]; rfl) (by rfl) ?_ ?_
     ·simp at h14; simp; omega
     refine Exists.intro (()) ⟨?_, ?_⟩
     ·trivial
     exact Can.weak (Weak.lit (by simp only [go_sem, seval, aj_, ao_, an_, leV, al_, am_, V.inn, us, true_or, or_true] <;> (rw [ahg_])) (by simp only [go_sem, seval, aj_, ao_, an_, leV, al_, am_, V.inn, us, true_or, or_true]) (by simp only [go_sem, seval, aj_, ao_, an_, leV, al_, am_, V.inn, us, true_or, or_true]))
    refine .seq (.rgnD [a2_ (yd_ ((s.drop k.1).take (d4_ (s.drop k.1))) (by simp; omega))] enM (by simp only [go_sem, seval, aj_, ao_, show IntKind.i64.wrap ((k.1 : Int) + (d4_ (s.drop k.1) : Int)) = ((k.1 + d4_ (s.drop k.1) : Nat) : Int) by (have := ya_ (show k.1 < s.length by simpa using h14); rw [bc_ (by omega) (by omega)]; rfl), nz_]; rfl) (by rfl) ?_ ?_)
    ·have h14' : k.1 < s.length := (by simpa using h14); have := ya_ h14'; simp [cc_]; omega
    refine .seq (.seq (.rgn [] (by simp only [go_sem, seval, aj_, ao_]; rfl) ?_ ?_))
    ·first | trivial | simp
    refine .condB (by simp only [go_sem, seval, aj_, ao_]; rfl) (by simp only [go_sem, seval, aj_, ao_]) (fun h47 => ?_) (fun h47 => ?_)
    ·refine .seq (.rgn [] (by simp only [go_sem, seval, aj_, ao_]; rfl) ?_ ?_)
     ·first | trivial | simp
     refine .ret ⟨.inr rfl, ?_⟩
     exact Out.plainL (by simp only [Tryz.results16]; rfl) (by simp only [aq_, a8_, go_sem, seval, aj_, ao_] <;> (split <;> rfl)) (by simp only [a7_, go_sem, seval, aj_, ao_] <;> (simp only [decide_eq_true_eq] at h14; simp only [beq_eq_false_iff_ne] at h18; simp only [beq_iff_eq] at h47; have e := nb_ (show k.1 < s.length by omega) k.1; rw [if_neg (fun h => h18 ((hd_ (by omega)).1 h)), if_pos h47] at e; rw [gj_ (by omega), hI.2.2.2, e]; simp [tkR, ler])) (by simp only [go_sem, seval, aj_, ao_])
    ·refine .skip (.seq (.rgn [] (by simp only [go_sem, seval, aj_, ao_]; rfl) ?_ ?_))
     ·simp [aaj_]; omega
     refine .rgn [] (by simp only [go_sem, seval, aj_, ao_]; rfl) ?_ ?_
     ·first | trivial | simp
     refine Exists.intro ((k.1 + d4_ (s.drop k.1), k.2 ++ [⟨da_ ((s.drop k.1).take (d4_ (s.drop k.1))), (s.drop k.1).take (d4_ (s.drop k.1)), k.1⟩])) ⟨?_, ?_, ?_⟩
     ·simp only [decide_eq_true_eq] at h14; simp only [beq_eq_false_iff_ne] at h18 h47; obtain ⟨i1, i2, i3, i4⟩ := hI; have e := nb_ (show k.1 < s.length by omega) k.1; rw [if_neg (fun h => h18 ((hd_ (by omega)).1 h)), if_neg h47] at e; have hb := ya_ (show k.1 < s.length by omega); exact ⟨by dsimp only; omega, i2, by simp only [List.length_append, List.length_singleton]; omega, by rw [i4, e, Option.map_map]; simp [Function.comp_def]⟩
     ·simp only [decide_eq_true_eq] at h14; have hb := ya_ (show k.1 < s.length by omega); dsimp only; omega
     refine Can.trans (Can.swap 61 20 (by decide) (by decide) (by decide) (by decide) (by simp only [go_sem, seval, aj_, ao_, V.cl]) (by simp only [go_sem, seval, aj_, ao_, V.cl]) (by simp only [go_sem, seval, aj_, ao_, bn_, sw, swM, rnB] <;> rfl) (by simp only [go_sem, seval, aj_, ao_, bn_, sw, swM, rnB] <;> rfl) (by simp only [go_sem, seval, aj_, ao_, bn_, sw, swM, rnB] <;> rfl)) ?_
     exact Can.weak (Weak.lit (by simp only [go_sem, seval, aj_, ao_, an_, leV, al_, am_, V.inn, us, true_or, or_true] <;> ((have hb := ya_ (show k.1 < s.length by simpa using h14)); rw [bc_ (by omega) (by omega)]; simp)) (by simp only [go_sem, seval, aj_, ao_, an_, leV, al_, am_, V.inn, us, true_or, or_true]) (by simp only [go_sem, seval, aj_, ao_, an_, leV, al_, am_, V.inn, us, true_or, or_true] <;> (rw [n6_])))
  ·refine .exit (.seq (.rgn [cz_ [20] [] (zm_ k.2 k.2.length rfl (by omega))] (by simp only [go_sem, seval, aj_, ao_]; rfl) ?_ ?_))
   ·simp [as_, ay_, aj_]
   refine .frz 20 (by simp only [go_sem, seval, aj_, ao_]; rfl) (by simp only [go_sem, seval, aj_, ao_]) (by simp only [go_sem, seval, aj_, ao_]; rfl) (by simp only [go_sem, seval, aj_, ao_]; rfl) ?_
   refine .ret ⟨.inr rfl, ?_⟩
   exact Out.plainL (by simp only [Tryz.results16]; rfl) (by simp only [aq_, a8_, go_sem, seval, aj_, ao_] <;> (split <;> rfl)) (by simp only [a7_, go_sem, seval, aj_, ao_] <;> (simp only [decide_eq_false_iff_not] at h14; rw [gj_ (by omega), hI.2.2.2, p1_ (by omega)]; simp [List.take_of_length_le, ao_, leV, ba_])) (by simp only [go_sem, seval, aj_, ao_])
end
end Go.Proofs.YtefmbmafdgedmaaGreatDoor
