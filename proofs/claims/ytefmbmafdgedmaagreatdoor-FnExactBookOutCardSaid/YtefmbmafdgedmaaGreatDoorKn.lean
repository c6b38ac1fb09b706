/- What the library's functions answer: strconv.Atoi, strings.Contains; numbers. Conditions: none. -/
import Derived.Test.YtefmbmafdgedmaaGreatDoorKf
import Derived.Test.YtefmbmafdgedmaaGreatDoorKg
import Derived.Test.YtefmbmafdgedmaaGreatDoorKh
import Derived.Test.YtefmbmafdgedmaaGreatDoorKd
set_option linter.unusedVariables false
set_option linter.unusedSimpArgs false
namespace Go.Proofs.YtefmbmafdgedmaaGreatDoor
section
open Go.RowKit
set_option maxRecDepth 100000
set_option maxHeartbeats 1000000
theorem errU : En.P.underlying 170 = some (.interface (En.P.methodsAt 170)) := by kernel_rfl
def kz_ (o : Option Int) : V := match o with | some n => .i .i64 n | none => .no
def ip_ (s : Str) : Option Int := match Lib.atoiAll s with | .ok v => some v | _ => none
theorem adp_ (s : Str) (hs : s.length ≤ 281474976710656) : ACall En 204 [.s s] [] [kz_ (ip_ s), ifV (ip_ s).isSome] [] := by
 refine i9_ (fn := Tryz.f204) Tryz.func204 rfl rfl fun S w xs hx _ ⟨B, hB, _⟩ => ?_
 simp only [VRs, VR] at hx
 obtain ⟨x, r, e1, rfl, rfl⟩ := hx
 obtain rfl : xs = #[.string ⟨s.toArray⟩] := by apply Array.ext'; simpa using e1
 have hsz : (⟨s.toArray⟩ : ByteArray).size ≤ 281474976710656 := by simpa [ByteArray.size] using hs
 have hd : (⟨s.toArray⟩ : ByteArray).data.toList = s := by simp
 cases h : Lib.atoiAll s with
 | ok v =>
  have ho : ip_ s = some v := by simp [ip_, h]
  refine (Tryz.strconv_Atoi_ok ⟨s.toArray⟩ (by omega) v (by rw [hd]; exact h) w).mono ?_
  rintro e w' ⟨rfl, hw⟩
  refine ⟨[.int .i64 v, .nilIface], rfl, ?_, ?_⟩
  ·rcases hw with rfl | ⟨t, rfl⟩
   ·exact Below.refl _ _
   ·exact Lib.bytesWorld_below _ _ _
  ·rw [ho]; exact .cons (by simp only [kz_, VR]) (.cons (by simp [ifV, VR]) .nil)
 | range =>
  have ho : ip_ s = none := by simp [ip_, h]
  obtain ⟨tp, p, hv⟩ := hB.rng
  refine (Any.strconv_Atoi_range_var Tryz.laysC172 ⟨s.toArray⟩ hsz (by rw [hd]; exact h) tp p w hv).mono ?_
  rintro e w' ⟨N, rfl, _, _, hb⟩
  exact ⟨[_, _], rfl, hb, by rw [ho]; exact .cons (by simp only [kz_, VR]) (.cons (by simp [ifV, VR]) .nil)⟩
 | _ =>
  have ho : ip_ s = none := by simp [ip_, h]
  obtain ⟨tp, p, hv⟩ := hB.syn
  refine (Any.strconv_Atoi_syntax_var Tryz.laysC172 ⟨s.toArray⟩ hsz (by rw [hd]; exact h) tp p w hv).mono ?_
  rintro e w' ⟨N, rfl, _, _, hb⟩
  exact ⟨[_, _], rfl, hb, by rw [ho]; exact .cons (by simp only [kz_, VR]) (.cons (by simp [ifV, VR]) .nil)⟩
def ke_ (s : Str) : V := if do_ s then .i .i64 (cp_ s) else .no
theorem cy_ (s : Str) : (ke_ s).pure = true := by unfold ke_; split <;> rfl
theorem d7_ (s : Str) : peel (ke_ s) = ke_ s := by unfold ke_; split <;> rfl
theorem dp_ (s : Str) : eo_ (ke_ s) = true := by unfold ke_; split <;> rfl
theorem afa_ (v : V) : leV v .no = True := by cases v <;> simp only [leV]
theorem yh_ : ∀ (l : Str) (c : UInt8), -1 ≤ Lib.indexByte l c
 | [], _ => by simp [Lib.indexByte]
 | b :: l, c => by
  have := yh_ l c
  simp only [Lib.indexByte]
  split
  ·decide
  ·split <;> omega
theorem tw_ : ∀ (l : Str) (c : UInt8), 0 ≤ Lib.indexByte l c ↔ c ∈ l
 | [], _ => by simp [Lib.indexByte]
 | b :: l, c => by
  have h1 := yh_ l c
  have h2 := tw_ l c
  rw [List.mem_cons, ← h2, Lib.indexByte]
  by_cases hb : b = c
  ·subst hb; rw [if_pos (beq_self_eq_true b)]; exact ⟨fun _ => .inl rfl, fun _ => Int.le_refl _⟩
  ·rw [if_neg (by simpa using hb)]
   by_cases hc : Lib.indexByte l c = -1
   ·rw [if_pos (by rw [hc]; rfl), hc]; exact ⟨fun h => absurd h (by decide), fun h => h.elim (fun e => absurd e.symm hb) id⟩
   ·rw [if_neg (by simpa using hc)]; exact ⟨fun h => .inr (by omega), fun h => h.elim (fun e => absurd e.symm hb) (fun h => by omega)⟩
theorem jp_ (l : Str) (c : UInt8) : decide (0 ≤ Lib.indexByte l c) = l.contains c := by
 rw [List.contains_eq_mem]; exact decide_eq_decide.2 (tw_ l c)
theorem ac4_ (s : Str) (hs : s.length ≤ 281474976710656) (h : ip_ s = none) : ACall En 163 [.s s] [] [ke_ s, .b (do_ s)] [] := by
 have A := adp_ s hs
 rw [h] at A
 have hn : do_ s = false := ae2_ fun v hv => by simp [ip_, hv] at h
 refine ao_ (fn := Tryz.f163) [] Tryz.func163 rfl rfl (by simp) fun C => ?_
 rw [bb_]
 simp only [Tryz.ntmps163, T7_, List.length_nil, Nat.reduceAdd, Nat.reduceSub, List.replicate_succ, List.replicate_zero, List.cons_append, List.nil_append, bu_]
 refine .seq (.rgn [] (by simp only [go_sem, seval, kz_, Option.isSome_none, cy_]; rfl) ?_ ?_)
 ·first | trivial | simp
 refine .seq (.rgn [bj_ A] (by simp only [go_sem, seval, kz_, Option.isSome_none, cy_]; rfl) ?_ ?_)
 ·first | trivial | simp
 refine .seq (.rgnS [13] [ifO En 170 false errU, bj_ (uh_ 0 0 1000000), bj_ (y7_ 0 (by decide) (by decide))] (by simp only [go_sem, seval, kz_, Option.isSome_none, cy_]; rfl) ?_ ?_)
 ·first | trivial | simp
 refine .ret ⟨.inr rfl, ?_⟩
 exact Out.plainL (by simp only [Tryz.results163]; rfl) (by simp only [bd_, bo_, go_sem, seval, kz_, Option.isSome_none, cy_] <;> (split <;> rfl)) (by simp only [bn_, go_sem, seval, kz_, Option.isSome_none, cy_] <;> (simp [hn, ke_, afa_])) (by simp only [go_sem, seval, kz_, Option.isSome_none, cy_])
theorem aha_ (s : Str) (hs : s.length ≤ 281474976710656) {v : Int} (h : ip_ s = some v) : ACall En 163 [.s s] [] [ke_ s, .b (do_ s)] [] := by
 have A := adp_ s hs
 rw [h] at A
 have hv : Lib.atoiAll s = .ok v := by
  unfold ip_ at h
  split at h
  ·rename_i v' hv'; cases h; exact hv'
  ·cases h
 refine ao_ (fn := Tryz.f163) [] Tryz.func163 rfl rfl (by simp) fun C => ?_
 rw [bb_]
 simp only [Tryz.ntmps163, T7_, List.length_nil, Nat.reduceAdd, Nat.reduceSub, List.replicate_succ, List.replicate_zero, List.cons_append, List.nil_append, bu_]
 refine .seq (.rgn [] (by simp only [go_sem, seval, kz_, Option.isSome_some, cy_]; rfl) ?_ ?_)
 ·first | trivial | simp
 refine .seq (.rgn [bj_ A] (by simp only [go_sem, seval, kz_, Option.isSome_some, cy_]; rfl) ?_ ?_)
 ·first | trivial | simp
 refine .seq (.rgnS [13] [ifO En 170 true errU, bj_ (uh_ v 0 1000000), dc_ (0 ≤ v ∧ v ≤ 1000000) (fun h => y7_ v (by omega) (by omega))] (by simp only [go_sem, seval, kz_, Option.isSome_some, cy_]; rfl) ?_ ?_)
 ·first | trivial | simp
 refine .ret ⟨.inr rfl, ?_⟩
 exact Out.plainL (by simp only [Tryz.results163]; rfl) (by simp only [bd_, bo_, go_sem, seval, kz_, Option.isSome_some, cy_] <;> (split <;> rfl)) (by simp only [bn_, go_sem, seval, kz_, Option.isSome_some, cy_] <;> (have k := ai7_ hv; cases hn : do_ s; (simp only [hn] at k; simp only [ke_, hn]; refine ⟨?_, ?_⟩; (simp only [Bool.false_eq_true, if_false]; rw [afa_]; trivial); simpa using k); (have hv2 := adm_ hv hn; simp only [ke_, hn, if_true]; rw [← hv2]; simp only [hn] at k; simp only [gj_]; simpa using k))) (by simp only [go_sem, seval, kz_, Option.isSome_some, cy_])
theorem wq_ (s : Str) (hs : s.length ≤ 281474976710656) : ACall En 163 [.s s] [] [ke_ s, .b (do_ s)] [] := by
 cases h : ip_ s with
 | none => exact ac4_ s hs h
 | some v => exact aha_ s hs h
theorem ol_ (s : Str) (c : UInt8) : ACall En 164 [.s s, .s [c]] [] [.b (s.contains c)] [] := by
 refine i9_ (fn := Tryz.f164) Tryz.func164 rfl rfl fun S w xs hx _ ⟨B, hB, _⟩ => ?_
 simp only [VRs, VR] at hx
 obtain ⟨x, r, e1, rfl, y, q, rfl, rfl, rfl⟩ := hx
 obtain rfl : xs = #[.string ⟨s.toArray⟩, .string ⟨#[c]⟩] := by apply Array.ext'; simpa using e1
 refine (Tryz.strings_Contains_one ⟨s.toArray⟩ c w).mono ?_
 rintro e w' ⟨rfl, rfl⟩
 refine ⟨[_], rfl, Below.refl _ _, .cons ?_ .nil⟩
 simp only [VR]
 rw [← jp_]
end
section
set_option maxRecDepth 100000
set_option maxHeartbeats 4000000
theorem ago_ (s : Str) (hs : s.length ≤ 281474976710656) : ACall En 104 [.i .i64 2, .s s] [] [.b (do_ s)] [] := by
 refine ao_ (fn := Tryz.f104) [] Tryz.func104 rfl rfl (by simp) fun C => ?_
 rw [bb_]
 simp only [Tryz.ntmps104, T7_, List.length_nil, Nat.reduceAdd, Nat.reduceSub, List.replicate_succ, List.replicate_zero, List.cons_append, List.nil_append, bu_]
 refine .seq (.rgn [] (by simp only [go_sem, seval, cy_, d7_, dp_]; rfl) ?_ ?_)
 ·first | trivial | simp
 refine .seq (.seq (.rgn [] (by simp only [go_sem, seval, cy_, d7_, dp_]; rfl) ?_ ?_))
 ·first | trivial | simp
 refine .block (.seq (.rgn [] (by simp only [go_sem, seval, cy_, d7_, dp_]; rfl) ?_ ?_))
 ·first | trivial | simp
 refine .condB (by simp only [go_sem, seval, cy_, d7_, dp_]; rfl) (by simp only [go_sem, seval, cy_, d7_, dp_]) (fun h8 => ?_) (fun h8 => ?_)
 ·exact absurd h8 (by simp)
 ·refine .seq (.rgn [] (by simp only [go_sem, seval, cy_, d7_, dp_]; rfl) ?_ ?_)
  ·first | trivial | simp
  refine .condB (by simp only [go_sem, seval, cy_, d7_, dp_]; rfl) (by simp only [go_sem, seval, cy_, d7_, dp_]) (fun h20 => ?_) (fun h20 => ?_)
  ·refine .seq (.rgn [bj_ (wq_ s hs)] (by simp only [go_sem, seval, cy_, d7_, dp_]; rfl) ?_ ?_)
   ·first | trivial | simp
   refine .seq (.rgn [] (by simp only [go_sem, seval, cy_, d7_, dp_]; rfl) ?_ ?_)
   ·first | trivial | simp
   refine .ret ⟨.inr rfl, ?_⟩
   exact Out.plain (by simp only [Tryz.results104]; rfl) (by simp only [bd_, bo_, go_sem, seval, cy_, d7_, dp_] <;> (split <;> rfl)) (by simp only [bn_, go_sem, seval, cy_, d7_, dp_] <;> (rfl)) (by simp only [go_sem, seval, cy_, d7_, dp_])
  ·exact absurd h20 (by simp)
theorem za_ (c : UInt8) : ACall En 104 [.i .i64 3, .s [c]] [] [.b (fq_ [c])] [] := by
 refine ao_ (fn := Tryz.f104) [] Tryz.func104 rfl rfl (by simp) fun C => ?_
 rw [bb_]
 simp only [Tryz.ntmps104, T7_, List.length_nil, Nat.reduceAdd, Nat.reduceSub, List.replicate_succ, List.replicate_zero, List.cons_append, List.nil_append, bu_]
 refine .seq (.rgn [] (by simp only [go_sem, seval]; rfl) ?_ ?_)
 ·(first | trivial | (simp [marks]; done))
 refine .seq (.seq (.rgn [] (by simp only [go_sem, seval]; rfl) ?_ ?_))
 ·(first | trivial | (simp [marks]; done))
 refine .block (.seq (.rgn [] (by simp only [go_sem, seval]; rfl) ?_ ?_))
 ·(first | trivial | (simp [marks]; done))
 refine .condB (by simp only [go_sem, seval]; rfl) (by simp only [go_sem, seval]) (fun h8 => ?_) (fun h8 => ?_)
 ·exact absurd h8 (by simp)
 ·refine .seq (.rgn [] (by simp only [go_sem, seval]; rfl) ?_ ?_)
  ·(first | trivial | (simp [marks]; done))
  refine .condB (by simp only [go_sem, seval]; rfl) (by simp only [go_sem, seval]) (fun h20 => ?_) (fun h20 => ?_)
  ·exact absurd h20 (by simp)
  ·refine .seq (.rgn [] (by simp only [go_sem, seval]; rfl) ?_ ?_)
   ·(first | trivial | (simp [marks]; done))
   refine .condB (by simp only [go_sem, seval]; rfl) (by simp only [go_sem, seval]) (fun h28 => ?_) (fun h28 => ?_)
   ·refine .seq (.rgn [bj_ (ol_ marks c)] (by simp only [go_sem, seval]; rfl) ?_ ?_)
    ·(first | trivial | (simp [marks]; done))
    refine .ret ⟨.inr rfl, ?_⟩
    exact Out.plain (by simp only [Tryz.results104]; rfl) (by simp only [bd_, bo_, go_sem, seval] <;> (split <;> rfl)) (by simp only [bn_, go_sem, seval] <;> (simp [fq_])) (by simp only [go_sem, seval])
   ·exact absurd h28 (by simp)
theorem yu_ (s : Str) (h : s.length ≠ 1) : ACall En 104 [.i .i64 3, .s s] [] [.b (fq_ s)] [] := by
 have h2 : ((s.length : Int) == 1) = false := by simpa using (show ¬ (s.length : Int) = 1 by omega)
 refine ao_ (fn := Tryz.f104) [] Tryz.func104 rfl rfl (by simp) fun C => ?_
 rw [bb_]
 simp only [Tryz.ntmps104, T7_, List.length_nil, Nat.reduceAdd, Nat.reduceSub, List.replicate_succ, List.replicate_zero, List.cons_append, List.nil_append, bu_]
 refine .seq (.rgn [] (by simp only [go_sem, seval]; rfl) ?_ ?_)
 ·(first | trivial | (simp [h2]; done))
 refine .seq (.seq (.rgn [] (by simp only [go_sem, seval]; rfl) ?_ ?_))
 ·(first | trivial | (simp [h2]; done))
 refine .block (.seq (.rgn [] (by simp only [go_sem, seval]; rfl) ?_ ?_))
 ·(first | trivial | (simp [h2]; done))
 refine .condB (by simp only [go_sem, seval]; rfl) (by simp only [go_sem, seval]) (fun h8 => ?_) (fun h8 => ?_)
 ·exact absurd h8 (by simp)
 ·refine .seq (.rgn [] (by simp only [go_sem, seval]; rfl) ?_ ?_)
  ·(first | trivial | (simp [h2]; done))
  refine .condB (by simp only [go_sem, seval]; rfl) (by simp only [go_sem, seval]) (fun h20 => ?_) (fun h20 => ?_)
  ·exact absurd h20 (by simp)
  ·refine .seq (.rgn [] (by simp only [go_sem, seval]; rfl) ?_ ?_)
   ·(first | trivial | (simp [h2]; done))
   refine .condB (by simp only [go_sem, seval]; rfl) (by simp only [go_sem, seval]) (fun h28 => ?_) (fun h28 => ?_)
   ·refine .seq (.rgn [bj_ (ol_ marks 0)] (by simp only [go_sem, seval]; rfl) ?_ ?_)
    ·(first | trivial | (simp [h2]; done))
    refine .ret ⟨.inr rfl, ?_⟩
    exact Out.plain (by simp only [Tryz.results104]; rfl) (by simp only [bd_, bo_, go_sem, seval] <;> (split <;> rfl)) (by simp only [bn_, go_sem, seval] <;> (simp [fq_, h, h2])) (by simp only [go_sem, seval])
   ·exact absurd h28 (by simp)
def q2_ (k : Int) (s : Str) : Bool := if k = 1 then fe_ s else if k = 2 then do_ s else fq_ s
theorem ajj_ (k : Int) (hk : k = 1 ∨ k = 2 ∨ k = 3) (s : Str) (hs : s.length ≤ 281474976710656) : ACall En 104 [.i .i64 k, .s s] [] [.b (q2_ k s)] [] := by
 rcases hk with rfl | rfl | rfl
 ·exact u8_ s (by omega)
 ·exact ago_ s hs
 ·by_cases h : s.length = 1
  ·obtain ⟨c, rfl⟩ := List.length_eq_one_iff.1 h
   exact za_ c
  ·exact yu_ s h
theorem p6_ (s : Str) : dt_ s = if q2_ 1 s then 1 else if q2_ 2 s then 2 else if q2_ 3 s then 3 else 0 := rfl
theorem abx_ (s : Str) (hs : s.length ≤ 281474976710656) : ACall En 53 [.s s] [] [.i .i64 (dt_ s)] [] := by
 refine ao_ (fn := Tryz.f53) [] Tryz.func53 rfl rfl (by simp) fun C => ?_
 rw [bb_]
 simp only [Tryz.ntmps53, T7_, List.length_nil, Nat.reduceAdd, Nat.reduceSub, List.replicate_succ, List.replicate_zero, List.cons_append, List.nil_append, bu_]
 refine .seq (.rgn [] (by simp only [go_sem, seval]; rfl) ?_ ?_)
 ·first | trivial | simp
 refine .seq (.seq (.rgn [] (by simp only [go_sem, seval]; rfl) ?_ ?_))
 ·first | trivial | simp
 refine .block (.loopK (fun k : Int => ⟨[.s s, .no, .no, .i .i64 k, .no, .no, .no, .no, .no, .no, .no, .no], bk_ [], us []⟩) (fun k : Int => 1 ≤ k ∧ k ≤ 4 ∧ (1 < k → q2_ 1 s = false) ∧ (2 < k → q2_ 2 s = false) ∧ (3 < k → q2_ 3 s = false)) (fun k : Int => (4 - k).toNat) (1) ?_ ?_ (fun k hI => ?_))
 ·simp
 ·exact Can.weak (Weak.lit (by simp only [go_sem, seval, ay_, leV, aw_, ax_, V.inn, us, T9_, Ta_] <;> (simp)) (by simp only [go_sem, seval, ay_, leV, aw_, ax_, V.inn, us, T9_, Ta_]) (by simp only [go_sem, seval, ay_, leV, aw_, ax_, V.inn, us, T9_, Ta_]))
 refine .seq (.seq (.rgn [] (by simp only [go_sem, seval]; rfl) ?_ ?_))
 ·first | trivial | simp
 refine .condB (by simp only [go_sem, seval]; rfl) (by simp only [go_sem, seval]) (fun h5 => ?_) (fun h5 => ?_)
 ·refine .skip (.seq (.block (.seq (.rgn [dc_ (k = 1 ∨ k = 2 ∨ k = 3) (fun h => ajj_ k h s hs)] (by simp only [go_sem, seval]; rfl) ?_ ?_))))
  ·simp at h5; omega
  refine .condB (by simp only [go_sem, seval]; rfl) (by simp only [go_sem, seval]) (fun h10 => ?_) (fun h10 => ?_)
  ·refine .seq (.rgn [] (by simp only [go_sem, seval]; rfl) ?_ ?_)
   ·first | trivial | simp
   refine .ret ⟨.inr rfl, ?_⟩
   exact Out.plain (by simp only [Tryz.results53]; rfl) (by simp only [bd_, bo_, go_sem, seval] <;> (split <;> rfl)) (by simp only [bn_, go_sem, seval] <;> (simp at h5; (have hk : k = 1 ∨ k = 2 ∨ k = 3 := by omega); rw [p6_]; rcases hk with rfl | rfl | rfl <;> simp_all)) (by simp only [go_sem, seval])
  ·refine .skip (.rgn [] (by simp only [go_sem, seval]; rfl) ?_ ?_)
   ·first | trivial | simp
   refine Exists.intro (k + 1) ⟨?_, ?_, ?_⟩
   ·simp at h5; (have hk : k = 1 ∨ k = 2 ∨ k = 3 := by omega); rcases hk with rfl | rfl | rfl <;> simp_all
   ·simp at h5; omega
   exact Can.weak (Weak.lit (by simp only [go_sem, seval, ay_, leV, aw_, ax_, V.inn, us, T9_, Ta_] <;> (rw [bx_ (by omega) (by omega)])) (by simp only [go_sem, seval, ay_, leV, aw_, ax_, V.inn, us, T9_, Ta_]) (by simp only [go_sem, seval, ay_, leV, aw_, ax_, V.inn, us, T9_, Ta_]))
 ·refine .exit (.seq (.rgn [] (by simp only [go_sem, seval]; rfl) ?_ ?_))
  ·first | trivial | simp
  refine .ret ⟨.inr rfl, ?_⟩
  exact Out.plain (by simp only [Tryz.results53]; rfl) (by simp only [bd_, bo_, go_sem, seval] <;> (split <;> rfl)) (by simp only [bn_, go_sem, seval] <;> (simp at h5; (have hk : k = 4 := by omega); subst hk; simp_all [p6_])) (by simp only [go_sem, seval])
def tkR (l : List Tk) : List (List V) := l.map fun t => [.i .i64 t.kind, .s t.s, .i .i64 t.col]
theorem be_ (l : List Tk) : (tkR l).length = l.length := by simp [tkR]
theorem a6_ : ∀ l : List Tk, cw_ (tkR l) = true
 | [] => rfl
 | _ :: r => by show (c9_ [_, _, _] && cw_ (tkR r)) = true; rw [a6_ r]; rfl
theorem re_ (l : List Tk) (t : Tk) : tkR (l ++ [t]) = tkR l ++ [[.i .i64 t.kind, .s t.s, .i .i64 t.col]] := by simp [tkR]
theorem ag9_ (l : List Tk) : (∀ r, r ∈ tkR l → r.length = 3) = True := eq_true fun r hr => by obtain ⟨t, _, rfl⟩ := List.mem_map.1 hr; rfl
theorem aag_ {l : List Tk} {k : Nat} (h : k < l.length) : (tkR l).getD k [] = [.i .i64 (l.getD k ⟨0, [], 0⟩).kind, .s (l.getD k ⟨0, [], 0⟩).s, .i .i64 (l.getD k ⟨0, [], 0⟩).col] := by
 simp [tkR, T8_, T6_ h]
theorem acl_ (l : List Tk) (n : Nat) (hn : n = l.length) (hl : l.length < 1099511627776) : ACall En 54 [.ow 0 3 0 n] [⟨40, 3, tkR l⟩] [.ow 0 3 0 n] [⟨40, 3, tkR l⟩] := by
 refine ao_ (fn := Tryz.f54) [0] Tryz.func54 rfl rfl (by simp) fun C => ?_
 rw [bb_]
 simp only [Tryz.ntmps54, T7_, List.length_nil, Nat.reduceAdd, Nat.reduceSub, List.replicate_succ, List.replicate_zero, List.cons_append, List.nil_append, bu_]
 refine .seq (.rgn [] (by simp only [go_sem, seval, a6_]; rfl) ?_ ?_)
 ·subst hn; simp [be_]
 refine .seq (.rgn [] (by simp only [go_sem, seval, a6_]; rfl) ?_ ?_)
 ·subst hn; simp [be_]
 refine .ret ⟨.inr rfl, ?_⟩
 exact Out.mem' (by simp only [Tryz.results54]; rfl) (by simp only [bd_, bo_, go_sem, seval, a6_]) (by simp only [bn_, rns, rn, go_sem, seval, a6_] <;> (simp)) (by simp) rfl (by decide) (by simp only [go_sem, seval, a6_]) (by simp only [ar_, go_sem, seval, a6_]) (by simp only [an_, go_sem, seval, a6_] <;> (simp [cz_, a6_]))
theorem pe_ {l : Str} {k : Nat} (h : k < l.length) (col : Int) : ft_ (l.drop k).length (l.drop k) col =
  if l.getD k 0 = 32 then ft_ (l.drop (k + 1)).length (l.drop (k + 1)) (col + 1)
  else if dt_ ((l.drop k).take (er_ (l.drop k))) = 0 then none
  else (ft_ (l.drop (k + er_ (l.drop k))).length (l.drop (k + er_ (l.drop k))) (col + er_ (l.drop k))).map (⟨dt_ ((l.drop k).take (er_ (l.drop k))), (l.drop k).take (er_ (l.drop k)), col⟩ :: ·) := by
 have e : l.drop k = l.getD k 0 :: l.drop (k + 1) := by
  rw [List.drop_eq_getElem_cons h, T8_, T6_ h]; rfl
 have h2 := kn_ (l.getD k 0) (l.drop (k + 1)) col
 rw [← e, List.drop_drop] at h2
 exact h2
theorem ia_ {l : Str} {k : Nat} (h : k < l.length) : l.getD k 0 = 32 ↔ ((l.getD k 0).toNat : Int) = 32 := by
 constructor
 ·intro e; rw [e]; rfl
 ·intro e; apply UInt8.toNat_inj.1; show _ = 32; omega
theorem wl_b {s : Str} {k : Nat} (h : k < s.length) : 1 ≤ er_ (s.drop k) ∧ k + er_ (s.drop k) ≤ s.length := by
 have h1 := mm_ (s.drop k)
 have h2 := akd_ (l := s.drop k) (fun e => by have := congrArg List.length e; rw [List.length_drop] at this; simp only [List.length_nil] at this; omega)
 rw [List.length_drop] at h2
 omega
theorem qv_ (s : Str) (k w : Nat) : (s.take (k + w)).drop k = (s.drop k).take w := by rw [List.drop_take, Nat.add_sub_cancel_left]
theorem al1_ (r : Str) : (if ((r.takeWhile de_).length : Int) > (if ((r.takeWhile dj_).length : Int) > 1 then ((r.takeWhile dj_).length : Int) else 1) then ((r.takeWhile de_).length : Int) else (if ((r.takeWhile dj_).length : Int) > 1 then ((r.takeWhile dj_).length : Int) else 1)) = (er_ r : Int) := by
 unfold er_
 split <;> split at * <;> omega
theorem l6_ {s : Str} (h : 120 < s.length) : c0_ s = none := by rw [c0_, if_pos h]
theorem hj_ {s : Str} (h : s.length ≤ 120) : c0_ s = ft_ s.length s 0 := by rw [c0_, if_neg (by omega)]
theorem s5_ {s : Str} {k : Nat} (h : s.length ≤ k) (c : Int) : ft_ (s.drop k).length (s.drop k) c = some [] := by rw [List.drop_of_length_le h]; rfl
theorem acd_ (s : Str) (hs : s.length ≤ 281474976710656) : ACall En 16 [.s s] [] [.sl false (tkR ((c0_ s).getD [])), .b (c0_ s).isSome] [] := by
 refine ao_ (fn := Tryz.f16) [] Tryz.func16 rfl rfl (by simp) fun C => ?_
 rw [bb_]
 simp only [Tryz.ntmps16, T7_, List.length_nil, Nat.reduceAdd, Nat.reduceSub, List.replicate_succ, List.replicate_zero, List.cons_append, List.nil_append, bu_]
 refine .seq (.rgn [] (by simp only [go_sem, seval, a6_, be_]; rfl) ?_ ?_)
 ·first | trivial | simp
 refine .seq (.seq (.rgn [] (by simp only [go_sem, seval, a6_, be_]; rfl) ?_ ?_))
 ·first | trivial | simp
 refine .condB (by simp only [go_sem, seval, a6_, be_]; rfl) (by simp only [go_sem, seval, a6_, be_]) (fun h10 => ?_) (fun h10 => ?_)
 ·refine .seq (.rgn [] (by simp only [go_sem, seval, a6_, be_]; rfl) ?_ ?_)
  ·first | trivial | simp
  refine .ret ⟨.inr rfl, ?_⟩
  exact Out.plainL (by simp only [Tryz.results16]; rfl) (by simp only [bd_, bo_, go_sem, seval, a6_, be_] <;> (split <;> rfl)) (by simp only [bn_, go_sem, seval, a6_, be_] <;> (simp at h10; rw [l6_ (by omega)]; simp [tkR, ler])) (by simp only [go_sem, seval, a6_, be_])
 ·refine .skip (.seq (.rgn [] (by simp only [go_sem, seval, a6_, be_]; rfl) ?_ ?_))
  ·first | trivial | simp
  refine .seq (.seq (.rgn [] (by simp only [go_sem, seval, a6_, be_]; rfl) ?_ ?_))
  ·first | trivial | simp
  refine .block (.loopK (fun k : Nat × List Tk => ⟨[.s s, .no, .no, .no, .ow 20 3 0 k.2.length, .i .i64 k.1, .no, .no, .no, .no, .no, .no, .no, .no, .no, .no, .no, .no, .no, .no, .no, .no, .no, .no, .no, .no, .no, .no, .no, .no, .no, .no, .no, .no, .no, .no, .no, .no, .no, .no, .no, .no, .no, .no, .no, .no, .no, .no, .no, .no, .no, .no, .no, .no, .no, .no, .no], bk_ [(20, ⟨40, 3, tkR k.2⟩)], us [20]⟩) (fun k : Nat × List Tk => k.1 ≤ s.length ∧ s.length ≤ 120 ∧ k.2.length ≤ k.1 ∧ ft_ s.length s 0 = (ft_ (s.drop k.1).length (s.drop k.1) k.1).map (k.2 ++ ·)) (fun k : Nat × List Tk => s.length - k.1) ((0, [])) ?_ ?_ (fun k hI => ?_))
  ·simp at h10; simp; omega
  ·refine Can.trans (Can.ownSlot 4 20 40 3 (by simp only [go_sem, seval, a6_, be_] <;> rfl) (by simp only [go_sem, seval, a6_, be_]) (by simp only [go_sem, seval, a6_, be_] <;> rfl)) ?_
   exact Can.weak (Weak.lit (by simp only [go_sem, seval, a6_, be_, ay_, leV, aw_, ax_, V.inn, us, T9_, Ta_] <;> (rfl)) (by simp only [go_sem, seval, a6_, be_, ay_, leV, aw_, ax_, V.inn, us, T9_, Ta_]) (by simp only [go_sem, seval, a6_, be_, ay_, leV, aw_, ax_, V.inn, us, T9_, Ta_] <;> (rfl)))
  refine .seq (.seq (.rgn [] (by simp only [go_sem, seval, a6_, be_]; rfl) ?_ ?_))
  ·first | trivial | simp
  refine .condB (by simp only [go_sem, seval, a6_, be_]; rfl) (by simp only [go_sem, seval, a6_, be_]) (fun h14 => ?_) (fun h14 => ?_)
  ·refine .skip (.block (.seq (.seq (.rgn [] (by simp only [go_sem, seval, a6_, be_]; rfl) ?_ ?_))))
   ·simp at h14; simp; exact h14
   refine .condB (by simp only [go_sem, seval, a6_, be_]; rfl) (by simp only [go_sem, seval, a6_, be_]) (fun h18 => ?_) (fun h18 => ?_)
   ·refine .seq (.rgn [] (by simp only [go_sem, seval, a6_, be_]; rfl) ?_ ?_)
    ·first | trivial | simp
    refine .exit ?_
    refine Exists.intro ((k.1 + 1, k.2)) ⟨?_, ?_, ?_⟩
    ·simp only [T3_] at h14; simp only [beq_iff_eq] at h18; obtain ⟨i1, i2, i3, i4⟩ := hI; have e := pe_ (show k.1 < s.length by omega) k.1; rw [if_pos ((ia_ (by omega)).2 h18)] at e; exact ⟨by dsimp only; omega, i2, by dsimp only; omega, by rw [i4, e]; rfl⟩
    ·simp only [T3_] at h14; dsimp only; omega
    exact Can.weak (Weak.lit (by simp only [go_sem, seval, a6_, be_, ay_, leV, aw_, ax_, V.inn, us, T9_, Ta_] <;> (rw [bx_ (by omega) (by omega)]; rfl)) (by simp only [go_sem, seval, a6_, be_, ay_, leV, aw_, ax_, V.inn, us, T9_, Ta_]) (by simp only [go_sem, seval, a6_, be_, ay_, leV, aw_, ax_, V.inn, us, T9_, Ta_]))
   ·refine .skip (.seqJ (fun u : Unit => ⟨[.s s, .no, .no, .no, .ow 20 3 0 k.2.length, .i .i64 k.1, .i .i64 (er_ (s.drop k.1)), .no, .no, .no, .no, .no, .no, .no, .no, .no, .no, .no, .no, .no, .no, .no, .no, .no, .no, .no, .no, .no, .no, .no, .no, .no, .no, .no, .no, .no, .no, .no, .no, .no, .no, .no, .no, .no, .no, .no, .no, .no, .no, .no, .no, .no, .no, .no, .no, .no, .no], bk_ [(20, ⟨40, 3, tkR k.2⟩)], us [20]⟩) (fun u : Unit => True) ?_ (fun u hJ => ?_))
    ·refine .rgnDS [29] [bj_ (ac7_ dj_ 51 rl_ (s.drop k.1) (by simp; omega)), bj_ (ac7_ de_ 52 abp_ (s.drop k.1) (by simp; omega)), maxO En] enM (by simp only [go_sem, seval, a6_, be_]; rfl) (by rfl) ?_ ?_
     ·simp at h14; simp; omega
     refine Exists.intro (()) ⟨?_, ?_⟩
     ·trivial
     exact Can.weak (Weak.lit (by simp only [go_sem, seval, a6_, be_, ay_, leV, aw_, ax_, V.inn, us, T9_, Ta_] <;> (rw [al1_])) (by simp only [go_sem, seval, a6_, be_, ay_, leV, aw_, ax_, V.inn, us, T9_, Ta_]) (by simp only [go_sem, seval, a6_, be_, ay_, leV, aw_, ax_, V.inn, us, T9_, Ta_]))
    refine .seq (.rgnD [bj_ (abx_ ((s.drop k.1).take (er_ (s.drop k.1))) (by simp; omega))] enM (by simp only [go_sem, seval, a6_, be_, show IntKind.i64.wrap ((k.1 : Int) + (er_ (s.drop k.1) : Int)) = ((k.1 + er_ (s.drop k.1) : Nat) : Int) by (have := wl_b (show k.1 < s.length by simpa using h14); rw [bx_ (by omega) (by omega)]; rfl), qv_]; rfl) (by rfl) ?_ ?_)
    ·have h14' : k.1 < s.length := (by simpa using h14); have := wl_b h14'; simp [cv_]; omega
    refine .seq (.seq (.rgn [] (by simp only [go_sem, seval, a6_, be_]; rfl) ?_ ?_))
    ·first | trivial | simp
    refine .condB (by simp only [go_sem, seval, a6_, be_]; rfl) (by simp only [go_sem, seval, a6_, be_]) (fun h47 => ?_) (fun h47 => ?_)
    ·refine .seq (.rgn [] (by simp only [go_sem, seval, a6_, be_]; rfl) ?_ ?_)
     ·first | trivial | simp
     refine .ret ⟨.inr rfl, ?_⟩
     exact Out.plainL (by simp only [Tryz.results16]; rfl) (by simp only [bd_, bo_, go_sem, seval, a6_, be_] <;> (split <;> rfl)) (by simp only [bn_, go_sem, seval, a6_, be_] <;> (simp only [T3_] at h14; simp only [beq_eq_false_iff_ne] at h18; simp only [beq_iff_eq] at h47; have e := pe_ (show k.1 < s.length by omega) k.1; rw [if_neg (fun h => h18 ((ia_ (by omega)).1 h)), if_pos h47] at e; rw [hj_ (by omega), hI.2.2.2, e]; simp [tkR, ler])) (by simp only [go_sem, seval, a6_, be_])
    ·refine .skip (.seq (.rgn [] (by simp only [go_sem, seval, a6_, be_]; rfl) ?_ ?_))
     ·simp [ag9_]; omega
     refine .rgn [] (by simp only [go_sem, seval, a6_, be_]; rfl) ?_ ?_
     ·first | trivial | simp
     refine Exists.intro ((k.1 + er_ (s.drop k.1), k.2 ++ [⟨dt_ ((s.drop k.1).take (er_ (s.drop k.1))), (s.drop k.1).take (er_ (s.drop k.1)), k.1⟩])) ⟨?_, ?_, ?_⟩
     ·simp only [T3_] at h14; simp only [beq_eq_false_iff_ne] at h18 h47; obtain ⟨i1, i2, i3, i4⟩ := hI; have e := pe_ (show k.1 < s.length by omega) k.1; rw [if_neg (fun h => h18 ((ia_ (by omega)).1 h)), if_neg h47] at e; have hb := wl_b (show k.1 < s.length by omega); exact ⟨by dsimp only; omega, i2, by simp only [T2_, List.length_singleton]; omega, by rw [i4, e, Option.map_map]; simp [Function.comp_def]⟩
     ·simp only [T3_] at h14; have hb := wl_b (show k.1 < s.length by omega); dsimp only; omega
     refine Can.trans (Can.swap 61 20 (by decide) (by decide) (by decide) (by decide) (by simp only [go_sem, seval, a6_, be_, V.cl]) (by simp only [go_sem, seval, a6_, be_, V.cl]) (by simp only [go_sem, seval, a6_, be_, b5_, sw, swM, rnB] <;> rfl) (by simp only [go_sem, seval, a6_, be_, b5_, sw, swM, rnB] <;> rfl) (by simp only [go_sem, seval, a6_, be_, b5_, sw, swM, rnB] <;> rfl)) ?_
     exact Can.weak (Weak.lit (by simp only [go_sem, seval, a6_, be_, ay_, leV, aw_, ax_, V.inn, us, T9_, Ta_] <;> ((have hb := wl_b (show k.1 < s.length by simpa using h14)); rw [bx_ (by omega) (by omega)]; simp)) (by simp only [go_sem, seval, a6_, be_, ay_, leV, aw_, ax_, V.inn, us, T9_, Ta_]) (by simp only [go_sem, seval, a6_, be_, ay_, leV, aw_, ax_, V.inn, us, T9_, Ta_] <;> (rw [re_])))
  ·refine .exit (.seq (.rgn [c4_ [20] [] (acl_ k.2 k.2.length rfl (by omega))] (by simp only [go_sem, seval, a6_, be_]; rfl) ?_ ?_))
   ·simp [an_, ar_, a6_]
   refine .frz 20 (by simp only [go_sem, seval, a6_, be_]; rfl) (by simp only [go_sem, seval, a6_, be_]) (by simp only [go_sem, seval, a6_, be_]; rfl) (by simp only [go_sem, seval, a6_, be_]; rfl) ?_
   refine .ret ⟨.inr rfl, ?_⟩
   exact Out.plainL (by simp only [Tryz.results16]; rfl) (by simp only [bd_, bo_, go_sem, seval, a6_, be_] <;> (split <;> rfl)) (by simp only [bn_, go_sem, seval, a6_, be_] <;> (simp only [T4_] at h14; rw [hj_ (by omega), hI.2.2.2, s5_ (by omega)]; simp [T1_, be_, leV, by_])) (by simp only [go_sem, seval, a6_, be_])
end
end Go.Proofs.YtefmbmafdgedmaaGreatDoor
