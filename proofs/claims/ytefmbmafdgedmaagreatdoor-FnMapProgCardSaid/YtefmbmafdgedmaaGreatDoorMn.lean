/- What the library's functions answer: strconv.Atoi, strings.Contains; numbers. Conditions: none. -/
import Derived.Test.YtefmbmafdgedmaaGreatDoorMf
import Derived.Test.YtefmbmafdgedmaaGreatDoorMg
import Derived.Test.YtefmbmafdgedmaaGreatDoorMh
import Derived.Test.YtefmbmafdgedmaaGreatDoorMd
set_option linter.unusedVariables false
set_option linter.unusedSimpArgs false
namespace Go.Proofs.YtefmbmafdgedmaaGreatDoor
section
open Go.RowKit
set_option maxRecDepth 100000
set_option maxHeartbeats 1000000
theorem errU : En.P.underlying 170 = some (.interface (En.P.methodsAt 170)) := by kernel_rfl
def hv_ (o : Option Int) : V := match o with | some n => .i .i64 n | none => .no
def gi_ (s : Str) : Option Int := match Lib.atoiAll s with | .ok v => some v | _ => none
theorem y8_ (s : Str) (hs : s.length ≤ 281474976710656) : ACall En 204 [.s s] [] [hv_ (gi_ s), ifV (gi_ s).isSome] [] := by
 refine fg_ (fn := Tryz.f204) Tryz.func204 rfl rfl fun S w xs hx _ ⟨B, hB, _⟩ => ?_
 simp only [VRs, VR] at hx
 obtain ⟨x, r, e1, rfl, rfl⟩ := hx
 obtain rfl : xs = #[.string ⟨s.toArray⟩] := by apply Array.ext'; simpa using e1
 have hsz : (⟨s.toArray⟩ : ByteArray).size ≤ 281474976710656 := by simpa [ByteArray.size] using hs
 have hd : (⟨s.toArray⟩ : ByteArray).data.toList = s := by simp
 cases h : Lib.atoiAll s with
 | ok v =>
  have ho : gi_ s = some v := by simp [gi_, h]
  refine (Tryz.strconv_Atoi_ok ⟨s.toArray⟩ (by omega) v (by rw [hd]; exact h) w).mono ?_
  rintro e w' ⟨rfl, hw⟩
  refine ⟨[.int .i64 v, .nilIface], rfl, ?_, ?_⟩
  ·rcases hw with rfl | ⟨t, rfl⟩
   ·exact Below.refl _ _
   ·exact Lib.bytesWorld_below _ _ _
  ·rw [ho]; exact .cons (by simp only [hv_, VR]) (.cons (by simp [ifV, VR]) .nil)
 | range =>
  have ho : gi_ s = none := by simp [gi_, h]
  obtain ⟨tp, p, hv⟩ := hB.rng
  refine (Any.strconv_Atoi_range_var Tryz.laysC172 ⟨s.toArray⟩ hsz (by rw [hd]; exact h) tp p w hv).mono ?_
  rintro e w' ⟨N, rfl, _, _, hb⟩
  exact ⟨[_, _], rfl, hb, by rw [ho]; exact .cons (by simp only [hv_, VR]) (.cons (by simp [ifV, VR]) .nil)⟩
 | _ =>
  have ho : gi_ s = none := by simp [gi_, h]
  obtain ⟨tp, p, hv⟩ := hB.syn
  refine (Any.strconv_Atoi_syntax_var Tryz.laysC172 ⟨s.toArray⟩ hsz (by rw [hd]; exact h) tp p w hv).mono ?_
  rintro e w' ⟨N, rfl, _, _, hb⟩
  exact ⟨[_, _], rfl, hb, by rw [ho]; exact .cons (by simp only [hv_, VR]) (.cons (by simp [ifV, VR]) .nil)⟩
def jt_ (s : Str) : V := if de_ s then .i .i64 (b2_ s) else .no
theorem by_ (s : Str) : (jt_ s).pure = true := by unfold jt_; split <;> rfl
theorem cu_ (s : Str) : peel (jt_ s) = jt_ s := by unfold jt_; split <;> rfl
theorem cg_ (s : Str) : c7_ (jt_ s) = true := by unfold jt_; split <;> rfl
theorem yk_ (v : V) : leV v .no = True := by cases v <;> simp only [leV]
theorem lz_ : ∀ (l : Str) (c : UInt8), -1 ≤ Lib.indexByte l c
 | [], _ => by simp [Lib.indexByte]
 | b :: l, c => by
  have := lz_ l c
  simp only [Lib.indexByte]
  split
  ·decide
  ·split <;> omega
theorem o5_ : ∀ (l : Str) (c : UInt8), 0 ≤ Lib.indexByte l c ↔ c ∈ l
 | [], _ => by simp [Lib.indexByte]
 | b :: l, c => by
  have h1 := lz_ l c
  have h2 := o5_ l c
  rw [List.mem_cons, ← h2, Lib.indexByte]
  by_cases hb : b = c
  ·subst hb; rw [if_pos (beq_self_eq_true b)]; exact ⟨fun _ => .inl rfl, fun _ => Int.le_refl _⟩
  ·rw [if_neg (by simpa using hb)]
   by_cases hc : Lib.indexByte l c = -1
   ·rw [if_pos (by rw [hc]; rfl), hc]; exact ⟨fun h => absurd h (by decide), fun h => h.elim (fun e => absurd e.symm hb) id⟩
   ·rw [if_neg (by simpa using hc)]; exact ⟨fun h => .inr (by omega), fun h => h.elim (fun e => absurd e.symm hb) (fun h => by omega)⟩
theorem gt_ (l : Str) (c : UInt8) : decide (0 ≤ Lib.indexByte l c) = l.contains c := by
 rw [List.contains_eq_mem]; exact decide_eq_decide.2 (o5_ l c)
theorem z4_ (s : Str) (hs : s.length ≤ 281474976710656) (h : gi_ s = none) : ACall En 163 [.s s] [] [jt_ s, .b (de_ s)] [] := by
 have A := y8_ s hs
 rw [h] at A
 have hn : de_ s = false := yg_ fun v hv => by simp [gi_, hv] at h
 refine ap_ (fn := Tryz.f163) [] Tryz.func163 rfl rfl (by simp) fun C => ?_
 rw [a0_]
 simp only [Tryz.ntmps163, List.length_cons, List.length_nil, Nat.reduceAdd, Nat.reduceSub, List.replicate_succ, List.replicate_zero, List.cons_append, List.nil_append, bq_]
 refine .seq (.rgn [] (by simp only [go_sem, seval, hv_, Option.isSome_none, by_]; rfl) ?_ ?_)
 ·first | trivial | simp
 refine .seq (.rgn [a5_ A] (by simp only [go_sem, seval, hv_, Option.isSome_none, by_]; rfl) ?_ ?_)
 ·first | trivial | simp
 refine .seq (.rgnS [13] [ifO En 170 false errU, a5_ (s6_ 0 0 1000000), a5_ (te_ 0 (by decide) (by decide))] (by simp only [go_sem, seval, hv_, Option.isSome_none, by_]; rfl) ?_ ?_)
 ·first | trivial | simp
 refine .ret ⟨.inr rfl, ?_⟩
 exact Out.plainL (by simp only [Tryz.results163]; rfl) (by simp only [a1_, bc_, go_sem, seval, hv_, Option.isSome_none, by_] <;> (split <;> rfl)) (by simp only [ba_, go_sem, seval, hv_, Option.isSome_none, by_] <;> (simp [hn, jt_, yk_])) (by simp only [go_sem, seval, hv_, Option.isSome_none, by_])
theorem zi_ (s : Str) (hs : s.length ≤ 281474976710656) {v : Int} (h : gi_ s = some v) : ACall En 163 [.s s] [] [jt_ s, .b (de_ s)] [] := by
 have A := y8_ s hs
 rw [h] at A
 have hv : Lib.atoiAll s = .ok v := by
  unfold gi_ at h
  split at h
  ·rename_i v' hv'; cases h; exact hv'
  ·cases h
 refine ap_ (fn := Tryz.f163) [] Tryz.func163 rfl rfl (by simp) fun C => ?_
 rw [a0_]
 simp only [Tryz.ntmps163, List.length_cons, List.length_nil, Nat.reduceAdd, Nat.reduceSub, List.replicate_succ, List.replicate_zero, List.cons_append, List.nil_append, bq_]
 refine .seq (.rgn [] (by simp only [go_sem, seval, hv_, Option.isSome_some, by_]; rfl) ?_ ?_)
 ·first | trivial | simp
 refine .seq (.rgn [a5_ A] (by simp only [go_sem, seval, hv_, Option.isSome_some, by_]; rfl) ?_ ?_)
 ·first | trivial | simp
 refine .seq (.rgnS [13] [ifO En 170 true errU, a5_ (s6_ v 0 1000000), dg_ (0 ≤ v ∧ v ≤ 1000000) (fun h => te_ v (by omega) (by omega))] (by simp only [go_sem, seval, hv_, Option.isSome_some, by_]; rfl) ?_ ?_)
 ·first | trivial | simp
 refine .ret ⟨.inr rfl, ?_⟩
 exact Out.plainL (by simp only [Tryz.results163]; rfl) (by simp only [a1_, bc_, go_sem, seval, hv_, Option.isSome_some, by_] <;> (split <;> rfl)) (by simp only [ba_, go_sem, seval, hv_, Option.isSome_some, by_] <;> (have k := aa0_ hv; cases hn : de_ s; (simp only [hn] at k; simp only [jt_, hn]; refine ⟨?_, ?_⟩; (simp only [Bool.false_eq_true, if_false]; rw [yk_]; trivial); simpa using k); (have hv2 := xn_ hv hn; simp only [jt_, hn, if_true]; rw [← hv2]; simp only [hn] at k; simp only [dl_]; simpa using k))) (by simp only [go_sem, seval, hv_, Option.isSome_some, by_])
theorem yn_ (s : Str) (hs : s.length ≤ 281474976710656) : ACall En 163 [.s s] [] [jt_ s, .b (de_ s)] [] := by
 cases h : gi_ s with
 | none => exact z4_ s hs h
 | some v => exact zi_ s hs h
theorem kd_ (s : Str) (c : UInt8) : ACall En 164 [.s s, .s [c]] [] [.b (s.contains c)] [] := by
 refine fg_ (fn := Tryz.f164) Tryz.func164 rfl rfl fun S w xs hx _ ⟨B, hB, _⟩ => ?_
 simp only [VRs, VR] at hx
 obtain ⟨x, r, e1, rfl, y, q, rfl, rfl, rfl⟩ := hx
 obtain rfl : xs = #[.string ⟨s.toArray⟩, .string ⟨#[c]⟩] := by apply Array.ext'; simpa using e1
 refine (Tryz.strings_Contains_one ⟨s.toArray⟩ c w).mono ?_
 rintro e w' ⟨rfl, rfl⟩
 refine ⟨[_], rfl, Below.refl _ _, .cons ?_ .nil⟩
 simp only [VR]
 rw [← gt_]
end
section
set_option maxRecDepth 100000
set_option maxHeartbeats 4000000
theorem wq_ (s : Str) (hs : s.length ≤ 281474976710656) : ACall En 104 [.i .i64 2, .s s] [] [.b (de_ s)] [] := by
 refine ap_ (fn := Tryz.f104) [] Tryz.func104 rfl rfl (by simp) fun C => ?_
 rw [a0_]
 simp only [Tryz.ntmps104, List.length_cons, List.length_nil, Nat.reduceAdd, Nat.reduceSub, List.replicate_succ, List.replicate_zero, List.cons_append, List.nil_append, bq_]
 refine .seq (.rgn [] (by simp only [go_sem, seval, by_, cu_, cg_]; rfl) ?_ ?_)
 ·first | trivial | simp
 refine .seq (.seq (.rgn [] (by simp only [go_sem, seval, by_, cu_, cg_]; rfl) ?_ ?_))
 ·first | trivial | simp
 refine .block (.seq (.rgn [] (by simp only [go_sem, seval, by_, cu_, cg_]; rfl) ?_ ?_))
 ·first | trivial | simp
 refine .condB (by simp only [go_sem, seval, by_, cu_, cg_]; rfl) (by simp only [go_sem, seval, by_, cu_, cg_]) (fun h8 => ?_) (fun h8 => ?_)
 ·exact absurd h8 (by simp)
 ·refine .seq (.rgn [] (by simp only [go_sem, seval, by_, cu_, cg_]; rfl) ?_ ?_)
  ·first | trivial | simp
  refine .condB (by simp only [go_sem, seval, by_, cu_, cg_]; rfl) (by simp only [go_sem, seval, by_, cu_, cg_]) (fun h20 => ?_) (fun h20 => ?_)
  ·refine .seq (.rgn [a5_ (yn_ s hs)] (by simp only [go_sem, seval, by_, cu_, cg_]; rfl) ?_ ?_)
   ·first | trivial | simp
   refine .seq (.rgn [] (by simp only [go_sem, seval, by_, cu_, cg_]; rfl) ?_ ?_)
   ·first | trivial | simp
   refine .ret ⟨.inr rfl, ?_⟩
   exact Out.plain (by simp only [Tryz.results104]; rfl) (by simp only [a1_, bc_, go_sem, seval, by_, cu_, cg_] <;> (split <;> rfl)) (by simp only [ba_, go_sem, seval, by_, cu_, cg_] <;> (rfl)) (by simp only [go_sem, seval, by_, cu_, cg_])
  ·exact absurd h20 (by simp)
theorem sm_ (c : UInt8) : ACall En 104 [.i .i64 3, .s [c]] [] [.b (dr_ [c])] [] := by
 refine ap_ (fn := Tryz.f104) [] Tryz.func104 rfl rfl (by simp) fun C => ?_
 rw [a0_]
 simp only [Tryz.ntmps104, List.length_cons, List.length_nil, Nat.reduceAdd, Nat.reduceSub, List.replicate_succ, List.replicate_zero, List.cons_append, List.nil_append, bq_]
 refine .seq (.rgn [] (by simp only [go_sem, seval]; rfl) ?_ ?_)
 ·(first | trivial | (simp [marks]; done))
 refine .seq (.seq (.rgn [] (by simp only [go_sem, seval]; rfl) ?_ ?_))
 ·(first | trivial | (simp [marks]; done))
 refine .block (.seq (.rgn [] (by simp only [go_sem, seval]; rfl) ?_ ?_))
 ·(first | trivial | (simp [marks]; done))
 refine .condB (by simp only [go_sem, seval]; rfl) (by simp only [go_sem, seval]) (fun h8 => ?_) (fun h8 => ?_)
 ·exact absurd h8 (by simp)
 ·refine .seq (.rgn [] (by simp only [go_sem, seval]; rfl) ?_ ?_)
  ·(first | trivial | (simp [marks]; done))
  refine .condB (by simp only [go_sem, seval]; rfl) (by simp only [go_sem, seval]) (fun h20 => ?_) (fun h20 => ?_)
  ·exact absurd h20 (by simp)
  ·refine .seq (.rgn [] (by simp only [go_sem, seval]; rfl) ?_ ?_)
   ·(first | trivial | (simp [marks]; done))
   refine .condB (by simp only [go_sem, seval]; rfl) (by simp only [go_sem, seval]) (fun h28 => ?_) (fun h28 => ?_)
   ·refine .seq (.rgn [a5_ (kd_ marks c)] (by simp only [go_sem, seval]; rfl) ?_ ?_)
    ·(first | trivial | (simp [marks]; done))
    refine .ret ⟨.inr rfl, ?_⟩
    exact Out.plain (by simp only [Tryz.results104]; rfl) (by simp only [a1_, bc_, go_sem, seval] <;> (split <;> rfl)) (by simp only [ba_, go_sem, seval] <;> (simp [dr_])) (by simp only [go_sem, seval])
   ·exact absurd h28 (by simp)
theorem st_ (s : Str) (h : s.length ≠ 1) : ACall En 104 [.i .i64 3, .s s] [] [.b (dr_ s)] [] := by
 have h2 : ((s.length : Int) == 1) = false := by simpa using (show ¬ (s.length : Int) = 1 by omega)
 refine ap_ (fn := Tryz.f104) [] Tryz.func104 rfl rfl (by simp) fun C => ?_
 rw [a0_]
 simp only [Tryz.ntmps104, List.length_cons, List.length_nil, Nat.reduceAdd, Nat.reduceSub, List.replicate_succ, List.replicate_zero, List.cons_append, List.nil_append, bq_]
 refine .seq (.rgn [] (by simp only [go_sem, seval]; rfl) ?_ ?_)
 ·(first | trivial | (simp [h2]; done))
 refine .seq (.seq (.rgn [] (by simp only [go_sem, seval]; rfl) ?_ ?_))
 ·(first | trivial | (simp [h2]; done))
 refine .block (.seq (.rgn [] (by simp only [go_sem, seval]; rfl) ?_ ?_))
 ·(first | trivial | (simp [h2]; done))
 refine .condB (by simp only [go_sem, seval]; rfl) (by simp only [go_sem, seval]) (fun h8 => ?_) (fun h8 => ?_)
 ·exact absurd h8 (by simp)
 ·refine .seq (.rgn [] (by simp only [go_sem, seval]; rfl) ?_ ?_)
  ·(first | trivial | (simp [h2]; done))
  refine .condB (by simp only [go_sem, seval]; rfl) (by simp only [go_sem, seval]) (fun h20 => ?_) (fun h20 => ?_)
  ·exact absurd h20 (by simp)
  ·refine .seq (.rgn [] (by simp only [go_sem, seval]; rfl) ?_ ?_)
   ·(first | trivial | (simp [h2]; done))
   refine .condB (by simp only [go_sem, seval]; rfl) (by simp only [go_sem, seval]) (fun h28 => ?_) (fun h28 => ?_)
   ·refine .seq (.rgn [a5_ (kd_ marks 0)] (by simp only [go_sem, seval]; rfl) ?_ ?_)
    ·(first | trivial | (simp [h2]; done))
    refine .ret ⟨.inr rfl, ?_⟩
    exact Out.plain (by simp only [Tryz.results104]; rfl) (by simp only [a1_, bc_, go_sem, seval] <;> (split <;> rfl)) (by simp only [ba_, go_sem, seval] <;> (simp [dr_, h, h2])) (by simp only [go_sem, seval])
   ·exact absurd h28 (by simp)
def mj_ (k : Int) (s : Str) : Bool := if k = 1 then dq_ s else if k = 2 then de_ s else dr_ s
theorem abf_ (k : Int) (hk : k = 1 ∨ k = 2 ∨ k = 3) (s : Str) (hs : s.length ≤ 281474976710656) : ACall En 104 [.i .i64 k, .s s] [] [.b (mj_ k s)] [] := by
 rcases hk with rfl | rfl | rfl
 ·exact qh_ s (by omega)
 ·exact wq_ s hs
 ·by_cases h : s.length = 1
  ·obtain ⟨c, rfl⟩ := List.length_eq_one_iff.1 h
   exact sm_ c
  ·exact st_ s h
theorem l5_ (s : Str) : ck_ s = if mj_ 1 s then 1 else if mj_ 2 s then 2 else if mj_ 3 s then 3 else 0 := rfl
theorem v9_ (s : Str) (hs : s.length ≤ 281474976710656) : ACall En 53 [.s s] [] [.i .i64 (ck_ s)] [] := by
 refine ap_ (fn := Tryz.f53) [] Tryz.func53 rfl rfl (by simp) fun C => ?_
 rw [a0_]
 simp only [Tryz.ntmps53, List.length_cons, List.length_nil, Nat.reduceAdd, Nat.reduceSub, List.replicate_succ, List.replicate_zero, List.cons_append, List.nil_append, bq_]
 refine .seq (.rgn [] (by simp only [go_sem, seval]; rfl) ?_ ?_)
 ·first | trivial | simp
 refine .seq (.seq (.rgn [] (by simp only [go_sem, seval]; rfl) ?_ ?_))
 ·first | trivial | simp
 refine .block (.loopK (fun k : Int => ⟨[.s s, .no, .no, .i .i64 k, .no, .no, .no, .no, .no, .no, .no, .no], a6_ [], us []⟩) (fun k : Int => 1 ≤ k ∧ k ≤ 4 ∧ (1 < k → mj_ 1 s = false) ∧ (2 < k → mj_ 2 s = false) ∧ (3 < k → mj_ 3 s = false)) (fun k : Int => (4 - k).toNat) (1) ?_ ?_ (fun k hI => ?_))
 ·simp
 ·exact Can.weak (Weak.lit (by simp only [go_sem, seval, aw_, leV, at_, au_, V.inn, us, true_or, or_true] <;> (simp)) (by simp only [go_sem, seval, aw_, leV, at_, au_, V.inn, us, true_or, or_true]) (by simp only [go_sem, seval, aw_, leV, at_, au_, V.inn, us, true_or, or_true]))
 refine .seq (.seq (.rgn [] (by simp only [go_sem, seval]; rfl) ?_ ?_))
 ·first | trivial | simp
 refine .condB (by simp only [go_sem, seval]; rfl) (by simp only [go_sem, seval]) (fun h5 => ?_) (fun h5 => ?_)
 ·refine .skip (.seq (.block (.seq (.rgn [dg_ (k = 1 ∨ k = 2 ∨ k = 3) (fun h => abf_ k h s hs)] (by simp only [go_sem, seval]; rfl) ?_ ?_))))
  ·simp at h5; omega
  refine .condB (by simp only [go_sem, seval]; rfl) (by simp only [go_sem, seval]) (fun h10 => ?_) (fun h10 => ?_)
  ·refine .seq (.rgn [] (by simp only [go_sem, seval]; rfl) ?_ ?_)
   ·first | trivial | simp
   refine .ret ⟨.inr rfl, ?_⟩
   exact Out.plain (by simp only [Tryz.results53]; rfl) (by simp only [a1_, bc_, go_sem, seval] <;> (split <;> rfl)) (by simp only [ba_, go_sem, seval] <;> (simp at h5; (have hk : k = 1 ∨ k = 2 ∨ k = 3 := by omega); rw [l5_]; rcases hk with rfl | rfl | rfl <;> simp_all)) (by simp only [go_sem, seval])
  ·refine .skip (.rgn [] (by simp only [go_sem, seval]; rfl) ?_ ?_)
   ·first | trivial | simp
   refine Exists.intro (k + 1) ⟨?_, ?_, ?_⟩
   ·simp at h5; (have hk : k = 1 ∨ k = 2 ∨ k = 3 := by omega); rcases hk with rfl | rfl | rfl <;> simp_all
   ·simp at h5; omega
   exact Can.weak (Weak.lit (by simp only [go_sem, seval, aw_, leV, at_, au_, V.inn, us, true_or, or_true] <;> (rw [a7_ (by omega) (by omega)])) (by simp only [go_sem, seval, aw_, leV, at_, au_, V.inn, us, true_or, or_true]) (by simp only [go_sem, seval, aw_, leV, at_, au_, V.inn, us, true_or, or_true]))
 ·refine .exit (.seq (.rgn [] (by simp only [go_sem, seval]; rfl) ?_ ?_))
  ·first | trivial | simp
  refine .ret ⟨.inr rfl, ?_⟩
  exact Out.plain (by simp only [Tryz.results53]; rfl) (by simp only [a1_, bc_, go_sem, seval] <;> (split <;> rfl)) (by simp only [ba_, go_sem, seval] <;> (simp at h5; (have hk : k = 4 := by omega); subst hk; simp_all [l5_])) (by simp only [go_sem, seval])
def tkR (l : List Tk) : List (List V) := l.map fun t => [.i .i64 t.kind, .s t.s, .i .i64 t.col]
theorem ao_ (l : List Tk) : (tkR l).length = l.length := by simp [tkR]
theorem aj_ : ∀ l : List Tk, b4_ (tkR l) = true
 | [] => rfl
 | _ :: r => by show (cr_ [_, _, _] && b4_ (tkR r)) = true; rw [aj_ r]; rfl
theorem ld_ (l : List Tk) (t : Tk) : tkR (l ++ [t]) = tkR l ++ [[.i .i64 t.kind, .s t.s, .i .i64 t.col]] := by simp [tkR]
theorem ym_ (l : List Tk) : (∀ r, r ∈ tkR l → r.length = 3) = True := eq_true fun r hr => by obtain ⟨t, _, rfl⟩ := List.mem_map.1 hr; rfl
theorem k4_ {l : List Tk} {k : Nat} (h : k < l.length) : (tkR l).getD k [] = [.i .i64 (l.getD k ⟨0, [], 0⟩).kind, .s (l.getD k ⟨0, [], 0⟩).s, .i .i64 (l.getD k ⟨0, [], 0⟩).col] := by
 simp [tkR, List.getD_eq_getElem?_getD, List.getElem?_eq_getElem h]
theorem u8_ (l : List Tk) (n : Nat) (hn : n = l.length) (hl : l.length < 1099511627776) : ACall En 54 [.ow 0 3 0 n] [⟨40, 3, tkR l⟩] [.ow 0 3 0 n] [⟨40, 3, tkR l⟩] := by
 refine ap_ (fn := Tryz.f54) [0] Tryz.func54 rfl rfl (by simp) fun C => ?_
 rw [a0_]
 simp only [Tryz.ntmps54, List.length_cons, List.length_nil, Nat.reduceAdd, Nat.reduceSub, List.replicate_succ, List.replicate_zero, List.cons_append, List.nil_append, bq_]
 refine .seq (.rgn [] (by simp only [go_sem, seval, aj_]; rfl) ?_ ?_)
 ·subst hn; simp [ao_]
 refine .seq (.rgn [] (by simp only [go_sem, seval, aj_]; rfl) ?_ ?_)
 ·subst hn; simp [ao_]
 refine .ret ⟨.inr rfl, ?_⟩
 exact Out.mem' (by simp only [Tryz.results54]; rfl) (by simp only [a1_, bc_, go_sem, seval, aj_]) (by simp only [ba_, rns, rn, go_sem, seval, aj_] <;> (simp)) (by simp) rfl (by decide) (by simp only [go_sem, seval, aj_]) (by simp only [ar_, go_sem, seval, aj_]) (by simp only [al_, go_sem, seval, aj_] <;> (simp [cv_, aj_]))
theorem kx_ {l : Str} {k : Nat} (h : k < l.length) (col : Int) : e3_ (l.drop k).length (l.drop k) col =
  if l.getD k 0 = 32 then e3_ (l.drop (k + 1)).length (l.drop (k + 1)) (col + 1)
  else if ck_ ((l.drop k).take (c5_ (l.drop k))) = 0 then none
  else (e3_ (l.drop (k + c5_ (l.drop k))).length (l.drop (k + c5_ (l.drop k))) (col + c5_ (l.drop k))).map (⟨ck_ ((l.drop k).take (c5_ (l.drop k))), (l.drop k).take (c5_ (l.drop k)), col⟩ :: ·) := by
 have e : l.drop k = l.getD k 0 :: l.drop (k + 1) := by
  rw [List.drop_eq_getElem_cons h, List.getD_eq_getElem?_getD, List.getElem?_eq_getElem h]; rfl
 have h2 := hr_ (l.getD k 0) (l.drop (k + 1)) col
 rw [← e, List.drop_drop] at h2
 exact h2
theorem fu_ {l : Str} {k : Nat} (h : k < l.length) : l.getD k 0 = 32 ↔ ((l.getD k 0).toNat : Int) = 32 := by
 constructor
 ·intro e; rw [e]; rfl
 ·intro e; apply UInt8.toNat_inj.1; show _ = 32; omega
theorem v6_ {s : Str} {k : Nat} (h : k < s.length) : 1 ≤ c5_ (s.drop k) ∧ k + c5_ (s.drop k) ≤ s.length := by
 have h1 := mp_ (s.drop k)
 have h2 := ack_ (l := s.drop k) (fun e => by have := congrArg List.length e; rw [List.length_drop] at this; simp only [List.length_nil] at this; omega)
 rw [List.length_drop] at h2
 omega
theorem l4_ (s : Str) (k w : Nat) : (s.take (k + w)).drop k = (s.drop k).take w := by rw [List.drop_take, Nat.add_sub_cancel_left]
theorem ad2_ (r : Str) : (if ((r.takeWhile b7_).length : Int) > (if ((r.takeWhile cf_).length : Int) > 1 then ((r.takeWhile cf_).length : Int) else 1) then ((r.takeWhile b7_).length : Int) else (if ((r.takeWhile cf_).length : Int) > 1 then ((r.takeWhile cf_).length : Int) else 1)) = (c5_ r : Int) := by
 unfold c5_
 split <;> split at * <;> omega
theorem iy_ {s : Str} (h : 120 < s.length) : ci_ s = none := by rw [ci_, if_pos h]
theorem fa_ {s : Str} (h : s.length ≤ 120) : ci_ s = e3_ s.length s 0 := by rw [ci_, if_neg (by omega)]
theorem n1_ {s : Str} {k : Nat} (h : s.length ≤ k) (c : Int) : e3_ (s.drop k).length (s.drop k) c = some [] := by rw [List.drop_of_length_le h]; rfl
theorem nu_ (s : Str) (hs : s.length ≤ 281474976710656) : ACall En 16 [.s s] [] [.sl false (tkR ((ci_ s).getD [])), .b (ci_ s).isSome] [] := by
 refine ap_ (fn := Tryz.f16) [] Tryz.func16 rfl rfl (by simp) fun C => ?_
 rw [a0_]
 simp only [Tryz.ntmps16, List.length_cons, List.length_nil, Nat.reduceAdd, Nat.reduceSub, List.replicate_succ, List.replicate_zero, List.cons_append, List.nil_append, bq_]
 refine .seq (.rgn [] (by simp only [go_sem, seval, aj_, ao_]; rfl) ?_ ?_)
 ·first | trivial | simp
 refine .seq (.seq (.rgn [] (by simp only [go_sem, seval, aj_, ao_]; rfl) ?_ ?_))
 ·first | trivial | simp
 refine .condB (by simp only [go_sem, seval, aj_, ao_]; rfl) (by simp only [go_sem, seval, aj_, ao_]) (fun h10 => ?_) (fun h10 => ?_)
 ·refine .seq (.rgn [] (by simp only [go_sem, seval, aj_, ao_]; rfl) ?_ ?_)
  ·first | trivial | simp
  refine .ret ⟨.inr rfl, ?_⟩
  exact Out.plainL (by simp only [Tryz.results16]; rfl) (by simp only [a1_, bc_, go_sem, seval, aj_, ao_] <;> (split <;> rfl)) (by simp only [ba_, go_sem, seval, aj_, ao_] <;> (simp at h10; rw [iy_ (by omega)]; simp [tkR, ler])) (by simp only [go_sem, seval, aj_, ao_])
 ·refine .skip (.seq (.rgn [] (by simp only [go_sem, seval, aj_, ao_]; rfl) ?_ ?_))
  ·first | trivial | simp
  refine .seq (.seq (.rgn [] (by simp only [go_sem, seval, aj_, ao_]; rfl) ?_ ?_))
  ·first | trivial | simp
  refine .block (.loopK (fun k : Nat × List Tk => ⟨[.s s, .no, .no, .no, .ow 20 3 0 k.2.length, .i .i64 k.1, .no, .no, .no, .no, .no, .no, .no, .no, .no, .no, .no, .no, .no, .no, .no, .no, .no, .no, .no, .no, .no, .no, .no, .no, .no, .no, .no, .no, .no, .no, .no, .no, .no, .no, .no, .no, .no, .no, .no, .no, .no, .no, .no, .no, .no, .no, .no, .no, .no, .no, .no], a6_ [(20, ⟨40, 3, tkR k.2⟩)], us [20]⟩) (fun k : Nat × List Tk => k.1 ≤ s.length ∧ s.length ≤ 120 ∧ k.2.length ≤ k.1 ∧ e3_ s.length s 0 = (e3_ (s.drop k.1).length (s.drop k.1) k.1).map (k.2 ++ ·)) (fun k : Nat × List Tk => s.length - k.1) ((0, [])) ?_ ?_ (fun k hI => ?_))
  ·simp at h10; simp; omega
  ·refine Can.trans (Can.ownSlot 4 20 40 3 (by simp only [go_sem, seval, aj_, ao_] <;> rfl) (by simp only [go_sem, seval, aj_, ao_]) (by simp only [go_sem, seval, aj_, ao_] <;> rfl)) ?_
   exact Can.weak (Weak.lit (by simp only [go_sem, seval, aj_, ao_, aw_, leV, at_, au_, V.inn, us, true_or, or_true] <;> (rfl)) (by simp only [go_sem, seval, aj_, ao_, aw_, leV, at_, au_, V.inn, us, true_or, or_true]) (by simp only [go_sem, seval, aj_, ao_, aw_, leV, at_, au_, V.inn, us, true_or, or_true] <;> (rfl)))
  refine .seq (.seq (.rgn [] (by simp only [go_sem, seval, aj_, ao_]; rfl) ?_ ?_))
  ·first | trivial | simp
  refine .condB (by simp only [go_sem, seval, aj_, ao_]; rfl) (by simp only [go_sem, seval, aj_, ao_]) (fun h14 => ?_) (fun h14 => ?_)
  ·refine .skip (.block (.seq (.seq (.rgn [] (by simp only [go_sem, seval, aj_, ao_]; rfl) ?_ ?_))))
   ·simp at h14; simp; exact h14
   refine .condB (by simp only [go_sem, seval, aj_, ao_]; rfl) (by simp only [go_sem, seval, aj_, ao_]) (fun h18 => ?_) (fun h18 => ?_)
   ·refine .seq (.rgn [] (by simp only [go_sem, seval, aj_, ao_]; rfl) ?_ ?_)
    ·first | trivial | simp
    refine .exit ?_
    refine Exists.intro ((k.1 + 1, k.2)) ⟨?_, ?_, ?_⟩
    ·simp only [decide_eq_true_eq] at h14; simp only [beq_iff_eq] at h18; obtain ⟨i1, i2, i3, i4⟩ := hI; have e := kx_ (show k.1 < s.length by omega) k.1; rw [if_pos ((fu_ (by omega)).2 h18)] at e; exact ⟨by dsimp only; omega, i2, by dsimp only; omega, by rw [i4, e]; rfl⟩
    ·simp only [decide_eq_true_eq] at h14; dsimp only; omega
    exact Can.weak (Weak.lit (by simp only [go_sem, seval, aj_, ao_, aw_, leV, at_, au_, V.inn, us, true_or, or_true] <;> (rw [a7_ (by omega) (by omega)]; rfl)) (by simp only [go_sem, seval, aj_, ao_, aw_, leV, at_, au_, V.inn, us, true_or, or_true]) (by simp only [go_sem, seval, aj_, ao_, aw_, leV, at_, au_, V.inn, us, true_or, or_true]))
   ·refine .skip (.seqJ (fun u : Unit => ⟨[.s s, .no, .no, .no, .ow 20 3 0 k.2.length, .i .i64 k.1, .i .i64 (c5_ (s.drop k.1)), .no, .no, .no, .no, .no, .no, .no, .no, .no, .no, .no, .no, .no, .no, .no, .no, .no, .no, .no, .no, .no, .no, .no, .no, .no, .no, .no, .no, .no, .no, .no, .no, .no, .no, .no, .no, .no, .no, .no, .no, .no, .no, .no, .no, .no, .no, .no, .no, .no, .no], a6_ [(20, ⟨40, 3, tkR k.2⟩)], us [20]⟩) (fun u : Unit => True) ?_ (fun u hJ => ?_))
    ·refine .rgnDS [29] [a5_ (zn_ cf_ 51 md_ (s.drop k.1) (by simp; omega)), a5_ (zn_ b7_ 52 v7_ (s.drop k.1) (by simp; omega)), maxO En] enM (by simp only [go_sem, seval, aj_, ao_]; rfl) (by rfl) ?_ ?_
     ·simp at h14; simp; omega
     refine Exists.intro (()) ⟨?_, ?_⟩
     ·trivial
     exact Can.weak (Weak.lit (by simp only [go_sem, seval, aj_, ao_, aw_, leV, at_, au_, V.inn, us, true_or, or_true] <;> (rw [ad2_])) (by simp only [go_sem, seval, aj_, ao_, aw_, leV, at_, au_, V.inn, us, true_or, or_true]) (by simp only [go_sem, seval, aj_, ao_, aw_, leV, at_, au_, V.inn, us, true_or, or_true]))
    refine .seq (.rgnD [a5_ (v9_ ((s.drop k.1).take (c5_ (s.drop k.1))) (by simp; omega))] enM (by simp only [go_sem, seval, aj_, ao_, show IntKind.i64.wrap ((k.1 : Int) + (c5_ (s.drop k.1) : Int)) = ((k.1 + c5_ (s.drop k.1) : Nat) : Int) by (have := v6_ (show k.1 < s.length by simpa using h14); rw [a7_ (by omega) (by omega)]; rfl), l4_]; rfl) (by rfl) ?_ ?_)
    ·have h14' : k.1 < s.length := (by simpa using h14); have := v6_ h14'; simp [bt_]; omega
    refine .seq (.seq (.rgn [] (by simp only [go_sem, seval, aj_, ao_]; rfl) ?_ ?_))
    ·first | trivial | simp
    refine .condB (by simp only [go_sem, seval, aj_, ao_]; rfl) (by simp only [go_sem, seval, aj_, ao_]) (fun h47 => ?_) (fun h47 => ?_)
    ·refine .seq (.rgn [] (by simp only [go_sem, seval, aj_, ao_]; rfl) ?_ ?_)
     ·first | trivial | simp
     refine .ret ⟨.inr rfl, ?_⟩
     exact Out.plainL (by simp only [Tryz.results16]; rfl) (by simp only [a1_, bc_, go_sem, seval, aj_, ao_] <;> (split <;> rfl)) (by simp only [ba_, go_sem, seval, aj_, ao_] <;> (simp only [decide_eq_true_eq] at h14; simp only [beq_eq_false_iff_ne] at h18; simp only [beq_iff_eq] at h47; have e := kx_ (show k.1 < s.length by omega) k.1; rw [if_neg (fun h => h18 ((fu_ (by omega)).1 h)), if_pos h47] at e; rw [fa_ (by omega), hI.2.2.2, e]; simp [tkR, ler])) (by simp only [go_sem, seval, aj_, ao_])
    ·refine .skip (.seq (.rgn [] (by simp only [go_sem, seval, aj_, ao_]; rfl) ?_ ?_))
     ·simp [ym_]; omega
     refine .rgn [] (by simp only [go_sem, seval, aj_, ao_]; rfl) ?_ ?_
     ·first | trivial | simp
     refine Exists.intro ((k.1 + c5_ (s.drop k.1), k.2 ++ [⟨ck_ ((s.drop k.1).take (c5_ (s.drop k.1))), (s.drop k.1).take (c5_ (s.drop k.1)), k.1⟩])) ⟨?_, ?_, ?_⟩
     ·simp only [decide_eq_true_eq] at h14; simp only [beq_eq_false_iff_ne] at h18 h47; obtain ⟨i1, i2, i3, i4⟩ := hI; have e := kx_ (show k.1 < s.length by omega) k.1; rw [if_neg (fun h => h18 ((fu_ (by omega)).1 h)), if_neg h47] at e; have hb := v6_ (show k.1 < s.length by omega); exact ⟨by dsimp only; omega, i2, by simp only [List.length_append, List.length_singleton]; omega, by rw [i4, e, Option.map_map]; simp [Function.comp_def]⟩
     ·simp only [decide_eq_true_eq] at h14; have hb := v6_ (show k.1 < s.length by omega); dsimp only; omega
     refine Can.trans (Can.swap 61 20 (by decide) (by decide) (by decide) (by decide) (by simp only [go_sem, seval, aj_, ao_, V.cl]) (by simp only [go_sem, seval, aj_, ao_, V.cl]) (by simp only [go_sem, seval, aj_, ao_, be_, sw, swM, rnB] <;> rfl) (by simp only [go_sem, seval, aj_, ao_, be_, sw, swM, rnB] <;> rfl) (by simp only [go_sem, seval, aj_, ao_, be_, sw, swM, rnB] <;> rfl)) ?_
     exact Can.weak (Weak.lit (by simp only [go_sem, seval, aj_, ao_, aw_, leV, at_, au_, V.inn, us, true_or, or_true] <;> ((have hb := v6_ (show k.1 < s.length by simpa using h14)); rw [a7_ (by omega) (by omega)]; simp)) (by simp only [go_sem, seval, aj_, ao_, aw_, leV, at_, au_, V.inn, us, true_or, or_true]) (by simp only [go_sem, seval, aj_, ao_, aw_, leV, at_, au_, V.inn, us, true_or, or_true] <;> (rw [ld_])))
  ·refine .exit (.seq (.rgn [bv_ [20] [] (u8_ k.2 k.2.length rfl (by omega))] (by simp only [go_sem, seval, aj_, ao_]; rfl) ?_ ?_))
   ·simp [al_, ar_, aj_]
   refine .frz 20 (by simp only [go_sem, seval, aj_, ao_]; rfl) (by simp only [go_sem, seval, aj_, ao_]) (by simp only [go_sem, seval, aj_, ao_]; rfl) (by simp only [go_sem, seval, aj_, ao_]; rfl) ?_
   refine .ret ⟨.inr rfl, ?_⟩
   exact Out.plainL (by simp only [Tryz.results16]; rfl) (by simp only [a1_, bc_, go_sem, seval, aj_, ao_] <;> (split <;> rfl)) (by simp only [ba_, go_sem, seval, aj_, ao_] <;> (simp only [decide_eq_false_iff_not] at h14; rw [fa_ (by omega), hI.2.2.2, n1_ (by omega)]; simp [List.take_of_length_le, ao_, leV, bo_])) (by simp only [go_sem, seval, aj_, ao_])
end
end Go.Proofs.YtefmbmafdgedmaaGreatDoor
