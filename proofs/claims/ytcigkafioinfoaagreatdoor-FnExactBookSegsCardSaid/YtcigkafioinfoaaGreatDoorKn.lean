/- What the library's functions answer: strconv.Atoi, strings.Contains; numbers. Conditions: none. -/
import Derived.Test.YtcigkafioinfoaaGreatDoorKf
import Derived.Test.YtcigkafioinfoaaGreatDoorKg
import Derived.Test.YtcigkafioinfoaaGreatDoorKh
import Derived.Test.YtcigkafioinfoaaGreatDoorKd
set_option linter.unusedVariables false
set_option linter.unusedSimpArgs false
namespace Go.Proofs.YtcigkafioinfoaaGreatDoor
section
open Go.RowKit
set_option maxRecDepth 100000
set_option maxHeartbeats 1000000
theorem errU : En.P.underlying 238 = some (.interface (En.P.methodsAt 238)) := by kernel_rfl
def j8_ (o : Option Int) : V := match o with | some n => .i .i64 n | none => .no
def il_ (s : Str) : Option Int := match Lib.atoiAll s with | .ok v => some v | _ => none
theorem adf_ (s : Str) (hs : s.length ≤ 281474976710656) : ACall En 258 [.s s] [] [j8_ (il_ s), ifV (il_ s).isSome] [] := by
 refine h9_ (fn := Tryz.f258) Tryz.func258 rfl rfl fun S w xs hx _ ⟨B, hB, _⟩ => ?_
 simp only [VRs, VR] at hx
 obtain ⟨x, r, e1, rfl, rfl⟩ := hx
 obtain rfl : xs = #[.string ⟨s.toArray⟩] := by apply Array.ext'; simpa using e1
 have hsz : (⟨s.toArray⟩ : ByteArray).size ≤ 281474976710656 := by simpa [ByteArray.size] using hs
 have hd : (⟨s.toArray⟩ : ByteArray).data.toList = s := by simp
 cases h : Lib.atoiAll s with
 | ok v =>
  have ho : il_ s = some v := by simp [il_, h]
  refine (Tryz.strconv_Atoi_ok ⟨s.toArray⟩ (by omega) v (by rw [hd]; exact h) w).mono ?_
  rintro e w' ⟨rfl, hw⟩
  refine ⟨[.int .i64 v, .nilIface], rfl, ?_, ?_⟩
  ·rcases hw with rfl | ⟨t, rfl⟩
   ·exact Below.refl _ _
   ·exact Lib.bytesWorld_below _ _ _
  ·rw [ho]; exact .cons (by simp only [j8_, VR]) (.cons (by simp [ifV, VR]) .nil)
 | range =>
  have ho : il_ s = none := by simp [il_, h]
  obtain ⟨tp, p, hv⟩ := hB.rng
  refine (Any.strconv_Atoi_range_var Tryz.laysC172 ⟨s.toArray⟩ hsz (by rw [hd]; exact h) tp p w hv).mono ?_
  rintro e w' ⟨N, rfl, _, _, hb⟩
  exact ⟨[_, _], rfl, hb, by rw [ho]; exact .cons (by simp only [j8_, VR]) (.cons (by simp [ifV, VR]) .nil)⟩
 | _ =>
  have ho : il_ s = none := by simp [il_, h]
  obtain ⟨tp, p, hv⟩ := hB.syn
  refine (Any.strconv_Atoi_syntax_var Tryz.laysC172 ⟨s.toArray⟩ hsz (by rw [hd]; exact h) tp p w hv).mono ?_
  rintro e w' ⟨N, rfl, _, _, hb⟩
  exact ⟨[_, _], rfl, hb, by rw [ho]; exact .cons (by simp only [j8_, VR]) (.cons (by simp [ifV, VR]) .nil)⟩
def jn_ (s : Str) : V := if c4_ s then .i .i64 (cf_ s) else .no
theorem ci_ (s : Str) : (jn_ s).pure = true := by unfold jn_; split <;> rfl
theorem dq_ (s : Str) : peel (jn_ s) = jn_ s := by unfold jn_; split <;> rfl
theorem c5_ (s : Str) : d5_ (jn_ s) = true := by unfold jn_; split <;> rfl
theorem aen_ (v : V) : leV v .no = True := by cases v <;> simp only [leV]
theorem xz_ : ∀ (l : Str) (c : UInt8), -1 ≤ Lib.indexByte l c
 | [], _ => by simp [Lib.indexByte]
 | b :: l, c => by
  have := xz_ l c
  simp only [Lib.indexByte]
  split
  ·decide
  ·split <;> omega
theorem sj_ : ∀ (l : Str) (c : UInt8), 0 ≤ Lib.indexByte l c ↔ c ∈ l
 | [], _ => by simp [Lib.indexByte]
 | b :: l, c => by
  have h1 := xz_ l c
  have h2 := sj_ l c
  rw [List.mem_cons, ← h2, Lib.indexByte]
  by_cases hb : b = c
  ·subst hb; rw [if_pos (beq_self_eq_true b)]; exact ⟨fun _ => .inl rfl, fun _ => Int.le_refl _⟩
  ·rw [if_neg (by simpa using hb)]
   by_cases hc : Lib.indexByte l c = -1
   ·rw [if_pos (by rw [hc]; rfl), hc]; exact ⟨fun h => absurd h (by decide), fun h => h.elim (fun e => absurd e.symm hb) id⟩
   ·rw [if_neg (by simpa using hc)]; exact ⟨fun h => .inr (by omega), fun h => h.elim (fun e => absurd e.symm hb) (fun h => by omega)⟩
theorem ix_ (l : Str) (c : UInt8) : decide (0 ≤ Lib.indexByte l c) = l.contains c := by
 rw [List.contains_eq_mem]; exact decide_eq_decide.2 (sj_ l c)
theorem acb_ (s : Str) (hs : s.length ≤ 281474976710656) (h : il_ s = none) : ACall En 225 [.s s] [] [jn_ s, .b (c4_ s)] [] := by
 have A := adf_ s hs
 rw [h] at A
 have hn : c4_ s = false := afo_ fun v hv => by simp [il_, hv] at h
 refine al_ (fn := Tryz.f225) [] Tryz.func225 rfl rfl (by simp) fun C => ?_
 rw [ay_]
 simp only [Tryz.ntmps225, T7_, List.length_nil, Nat.reduceAdd, Nat.reduceSub, List.replicate_succ, List.replicate_zero, List.cons_append, List.nil_append, bs_]
 refine .seq (.rgn [] (by simp only [go_sem, seval, j8_, Option.isSome_none, ci_]; rfl) ?_ ?_)
 ·first | trivial | simp
 refine .seq (.rgn [a9_ A] (by simp only [go_sem, seval, j8_, Option.isSome_none, ci_]; rfl) ?_ ?_)
 ·first | trivial | simp
 refine .seq (.rgnS [13] [ifO En 238 false errU, a9_ (in_a 0 0 1000000), a9_ (w6_ 0 (by decide) (by decide))] (by simp only [go_sem, seval, j8_, Option.isSome_none, ci_]; rfl) ?_ ?_)
 ·first | trivial | simp
 refine .ret ⟨.inr rfl, ?_⟩
 exact Out.plainL (by simp only [Tryz.results225]; rfl) (by simp only [az_, bj_, go_sem, seval, j8_, Option.isSome_none, ci_] <;> (split <;> rfl)) (by simp only [bg_, go_sem, seval, j8_, Option.isSome_none, ci_] <;> (simp [hn, jn_, aen_])) (by simp only [go_sem, seval, j8_, Option.isSome_none, ci_])
theorem acn_ (s : Str) (hs : s.length ≤ 281474976710656) {v : Int} (h : il_ s = some v) : ACall En 225 [.s s] [] [jn_ s, .b (c4_ s)] [] := by
 have A := adf_ s hs
 rw [h] at A
 have hv : Lib.atoiAll s = .ok v := by
  unfold il_ at h
  split at h
  ·rename_i v' hv'; cases h; exact hv'
  ·cases h
 refine al_ (fn := Tryz.f225) [] Tryz.func225 rfl rfl (by simp) fun C => ?_
 rw [ay_]
 simp only [Tryz.ntmps225, T7_, List.length_nil, Nat.reduceAdd, Nat.reduceSub, List.replicate_succ, List.replicate_zero, List.cons_append, List.nil_append, bs_]
 refine .seq (.rgn [] (by simp only [go_sem, seval, j8_, Option.isSome_some, ci_]; rfl) ?_ ?_)
 ·first | trivial | simp
 refine .seq (.rgn [a9_ A] (by simp only [go_sem, seval, j8_, Option.isSome_some, ci_]; rfl) ?_ ?_)
 ·first | trivial | simp
 refine .seq (.rgnS [13] [ifO En 238 true errU, a9_ (in_a v 0 1000000), cw_ (0 ≤ v ∧ v ≤ 1000000) (fun h => w6_ v (by omega) (by omega))] (by simp only [go_sem, seval, j8_, Option.isSome_some, ci_]; rfl) ?_ ?_)
 ·first | trivial | simp
 refine .ret ⟨.inr rfl, ?_⟩
 exact Out.plainL (by simp only [Tryz.results225]; rfl) (by simp only [az_, bj_, go_sem, seval, j8_, Option.isSome_some, ci_] <;> (split <;> rfl)) (by simp only [bg_, go_sem, seval, j8_, Option.isSome_some, ci_] <;> (have k := ahk_ hv; cases hn : c4_ s; (simp only [hn] at k; simp only [jn_, hn]; refine ⟨?_, ?_⟩; (simp only [Bool.false_eq_true, if_false]; rw [aen_]; trivial); simpa using k); (have hv2 := afg_ hv hn; simp only [jn_, hn, if_true]; rw [← hv2]; simp only [hn] at k; simp only [fy_]; simpa using k))) (by simp only [go_sem, seval, j8_, Option.isSome_some, ci_])
theorem va_ (s : Str) (hs : s.length ≤ 281474976710656) : ACall En 225 [.s s] [] [jn_ s, .b (c4_ s)] [] := by
 cases h : il_ s with
 | none => exact acb_ s hs h
 | some v => exact acn_ s hs h
theorem nf_ (s : Str) (c : UInt8) : ACall En 209 [.s s, .s [c]] [] [.b (s.contains c)] [] := by
 refine h9_ (fn := Tryz.f209) Tryz.func209 rfl rfl fun S w xs hx _ ⟨B, hB, _⟩ => ?_
 simp only [VRs, VR] at hx
 obtain ⟨x, r, e1, rfl, y, q, rfl, rfl, rfl⟩ := hx
 obtain rfl : xs = #[.string ⟨s.toArray⟩, .string ⟨#[c]⟩] := by apply Array.ext'; simpa using e1
 refine (Tryz.strings_Contains_one ⟨s.toArray⟩ c w).mono ?_
 rintro e w' ⟨rfl, rfl⟩
 refine ⟨[_], rfl, Below.refl _ _, .cons ?_ .nil⟩
 simp only [VR]
 rw [← ix_]
end
section
set_option maxRecDepth 100000
set_option maxHeartbeats 4000000
theorem afw_ (s : Str) (hs : s.length ≤ 281474976710656) : ACall En 178 [.i .i64 2, .s s] [] [.b (c4_ s)] [] := by
 refine al_ (fn := Tryz.f178) [] Tryz.func178 rfl rfl (by simp) fun C => ?_
 rw [ay_]
 simp only [Tryz.ntmps178, T7_, List.length_nil, Nat.reduceAdd, Nat.reduceSub, List.replicate_succ, List.replicate_zero, List.cons_append, List.nil_append, bs_]
 refine .seq (.rgn [] (by simp only [go_sem, seval, ci_, dq_, c5_]; rfl) ?_ ?_)
 ·first | trivial | simp
 refine .seq (.seq (.rgn [] (by simp only [go_sem, seval, ci_, dq_, c5_]; rfl) ?_ ?_))
 ·first | trivial | simp
 refine .block (.seq (.rgn [] (by simp only [go_sem, seval, ci_, dq_, c5_]; rfl) ?_ ?_))
 ·first | trivial | simp
 refine .condB (by simp only [go_sem, seval, ci_, dq_, c5_]; rfl) (by simp only [go_sem, seval, ci_, dq_, c5_]) (fun h8 => ?_) (fun h8 => ?_)
 ·exact absurd h8 (by simp)
 ·refine .seq (.rgn [] (by simp only [go_sem, seval, ci_, dq_, c5_]; rfl) ?_ ?_)
  ·first | trivial | simp
  refine .condB (by simp only [go_sem, seval, ci_, dq_, c5_]; rfl) (by simp only [go_sem, seval, ci_, dq_, c5_]) (fun h20 => ?_) (fun h20 => ?_)
  ·refine .seq (.rgn [a9_ (va_ s hs)] (by simp only [go_sem, seval, ci_, dq_, c5_]; rfl) ?_ ?_)
   ·first | trivial | simp
   refine .seq (.rgn [] (by simp only [go_sem, seval, ci_, dq_, c5_]; rfl) ?_ ?_)
   ·first | trivial | simp
   refine .ret ⟨.inr rfl, ?_⟩
   exact Out.plain (by simp only [Tryz.results178]; rfl) (by simp only [az_, bj_, go_sem, seval, ci_, dq_, c5_] <;> (split <;> rfl)) (by simp only [bg_, go_sem, seval, ci_, dq_, c5_] <;> (rfl)) (by simp only [go_sem, seval, ci_, dq_, c5_])
  ·exact absurd h20 (by simp)
theorem w8_ (c : UInt8) : ACall En 178 [.i .i64 3, .s [c]] [] [.b (fb_ [c])] [] := by
 refine al_ (fn := Tryz.f178) [] Tryz.func178 rfl rfl (by simp) fun C => ?_
 rw [ay_]
 simp only [Tryz.ntmps178, T7_, List.length_nil, Nat.reduceAdd, Nat.reduceSub, List.replicate_succ, List.replicate_zero, List.cons_append, List.nil_append, bs_]
 refine .seq (.rgn [] (by simp only [go_sem, seval]; rfl) ?_ ?_)
 ·(first | trivial | (simp [marks]; done))
 refine .seq (.seq (.rgn [] (by simp only [go_sem, seval]; rfl) ?_ ?_))
 ·(first | trivial | (simp [marks]; done))
 refine .block (.seq (.rgn [] (by simp only [go_sem, seval]; rfl) ?_ ?_))
 ·(first | trivial | (simp [marks]; done))
 refine .condB (by simp only [go_sem, seval]; rfl) (by simp only [go_sem, seval]) (fun h8 => ?_) (fun h8 => ?_)
 ·exact absurd h8 (by simp)
 ·refine .seq (.rgn [] (by simp only [go_sem, seval]; rfl) ?_ ?_)
  ·(first | trivial | (simp [marks]; done))
  refine .condB (by simp only [go_sem, seval]; rfl) (by simp only [go_sem, seval]) (fun h20 => ?_) (fun h20 => ?_)
  ·exact absurd h20 (by simp)
  ·refine .seq (.rgn [] (by simp only [go_sem, seval]; rfl) ?_ ?_)
   ·(first | trivial | (simp [marks]; done))
   refine .condB (by simp only [go_sem, seval]; rfl) (by simp only [go_sem, seval]) (fun h28 => ?_) (fun h28 => ?_)
   ·refine .seq (.rgn [a9_ (nf_ marks c)] (by simp only [go_sem, seval]; rfl) ?_ ?_)
    ·(first | trivial | (simp [marks]; done))
    refine .ret ⟨.inr rfl, ?_⟩
    exact Out.plain (by simp only [Tryz.results178]; rfl) (by simp only [az_, bj_, go_sem, seval] <;> (split <;> rfl)) (by simp only [bg_, go_sem, seval] <;> (simp [fb_])) (by simp only [go_sem, seval])
   ·exact absurd h28 (by simp)
theorem x6_ (s : Str) (h : s.length ≠ 1) : ACall En 178 [.i .i64 3, .s s] [] [.b (fb_ s)] [] := by
 have h2 : ((s.length : Int) == 1) = false := by simpa using (show ¬ (s.length : Int) = 1 by omega)
 refine al_ (fn := Tryz.f178) [] Tryz.func178 rfl rfl (by simp) fun C => ?_
 rw [ay_]
 simp only [Tryz.ntmps178, T7_, List.length_nil, Nat.reduceAdd, Nat.reduceSub, List.replicate_succ, List.replicate_zero, List.cons_append, List.nil_append, bs_]
 refine .seq (.rgn [] (by simp only [go_sem, seval]; rfl) ?_ ?_)
 ·(first | trivial | (simp [h2]; done))
 refine .seq (.seq (.rgn [] (by simp only [go_sem, seval]; rfl) ?_ ?_))
 ·(first | trivial | (simp [h2]; done))
 refine .block (.seq (.rgn [] (by simp only [go_sem, seval]; rfl) ?_ ?_))
 ·(first | trivial | (simp [h2]; done))
 refine .condB (by simp only [go_sem, seval]; rfl) (by simp only [go_sem, seval]) (fun h8 => ?_) (fun h8 => ?_)
 ·exact absurd h8 (by simp)
 ·refine .seq (.rgn [] (by simp only [go_sem, seval]; rfl) ?_ ?_)
  ·(first | trivial | (simp [h2]; done))
  refine .condB (by simp only [go_sem, seval]; rfl) (by simp only [go_sem, seval]) (fun h20 => ?_) (fun h20 => ?_)
  ·exact absurd h20 (by simp)
  ·refine .seq (.rgn [] (by simp only [go_sem, seval]; rfl) ?_ ?_)
   ·(first | trivial | (simp [h2]; done))
   refine .condB (by simp only [go_sem, seval]; rfl) (by simp only [go_sem, seval]) (fun h28 => ?_) (fun h28 => ?_)
   ·refine .seq (.rgn [a9_ (nf_ marks 0)] (by simp only [go_sem, seval]; rfl) ?_ ?_)
    ·(first | trivial | (simp [h2]; done))
    refine .ret ⟨.inr rfl, ?_⟩
    exact Out.plain (by simp only [Tryz.results178]; rfl) (by simp only [az_, bj_, go_sem, seval] <;> (split <;> rfl)) (by simp only [bg_, go_sem, seval] <;> (simp [fb_, h, h2])) (by simp only [go_sem, seval])
   ·exact absurd h28 (by simp)
def ox_ (k : Int) (s : Str) : Bool := if k = 1 then e1_ s else if k = 2 then c4_ s else fb_ s
theorem ahe_ (k : Int) (hk : k = 1 ∨ k = 2 ∨ k = 3) (s : Str) (hs : s.length ≤ 281474976710656) : ACall En 178 [.i .i64 k, .s s] [] [.b (ox_ k s)] [] := by
 rcases hk with rfl | rfl | rfl
 ·exact vi_ s (by omega)
 ·exact afw_ s hs
 ·by_cases h : s.length = 1
  ·obtain ⟨c, rfl⟩ := List.length_eq_one_iff.1 h
   exact w8_ c
  ·exact x6_ s h
theorem o9_ (s : Str) : da_ s = if ox_ 1 s then 1 else if ox_ 2 s then 2 else if ox_ 3 s then 3 else 0 := rfl
theorem abt_ (s : Str) (hs : s.length ≤ 281474976710656) : ACall En 121 [.s s] [] [.i .i64 (da_ s)] [] := by
 refine al_ (fn := Tryz.f121) [] Tryz.func121 rfl rfl (by simp) fun C => ?_
 rw [ay_]
 simp only [Tryz.ntmps121, T7_, List.length_nil, Nat.reduceAdd, Nat.reduceSub, List.replicate_succ, List.replicate_zero, List.cons_append, List.nil_append, bs_]
 refine .seq (.rgn [] (by simp only [go_sem, seval]; rfl) ?_ ?_)
 ·first | trivial | simp
 refine .seq (.seq (.rgn [] (by simp only [go_sem, seval]; rfl) ?_ ?_))
 ·first | trivial | simp
 refine .block (.loopK (fun k : Int => ⟨[.s s, .no, .no, .i .i64 k, .no, .no, .no, .no, .no, .no, .no, .no], a7_ [], us []⟩) (fun k : Int => 1 ≤ k ∧ k ≤ 4 ∧ (1 < k → ox_ 1 s = false) ∧ (2 < k → ox_ 2 s = false) ∧ (3 < k → ox_ 3 s = false)) (fun k : Int => (4 - k).toNat) (1) ?_ ?_ (fun k hI => ?_))
 ·simp
 ·exact Can.weak (Weak.lit (by simp only [go_sem, seval, at_, leV, aq_, ar_, V.inn, us, T9_, Ta_] <;> (simp)) (by simp only [go_sem, seval, at_, leV, aq_, ar_, V.inn, us, T9_, Ta_]) (by simp only [go_sem, seval, at_, leV, aq_, ar_, V.inn, us, T9_, Ta_]))
 refine .seq (.seq (.rgn [] (by simp only [go_sem, seval]; rfl) ?_ ?_))
 ·first | trivial | simp
 refine .condB (by simp only [go_sem, seval]; rfl) (by simp only [go_sem, seval]) (fun h5 => ?_) (fun h5 => ?_)
 ·refine .skip (.seq (.block (.seq (.rgn [cw_ (k = 1 ∨ k = 2 ∨ k = 3) (fun h => ahe_ k h s hs)] (by simp only [go_sem, seval]; rfl) ?_ ?_))))
  ·simp at h5; omega
  refine .condB (by simp only [go_sem, seval]; rfl) (by simp only [go_sem, seval]) (fun h10 => ?_) (fun h10 => ?_)
  ·refine .seq (.rgn [] (by simp only [go_sem, seval]; rfl) ?_ ?_)
   ·first | trivial | simp
   refine .ret ⟨.inr rfl, ?_⟩
   exact Out.plain (by simp only [Tryz.results121]; rfl) (by simp only [az_, bj_, go_sem, seval] <;> (split <;> rfl)) (by simp only [bg_, go_sem, seval] <;> (simp at h5; (have hk : k = 1 ∨ k = 2 ∨ k = 3 := by omega); rw [o9_]; rcases hk with rfl | rfl | rfl <;> simp_all)) (by simp only [go_sem, seval])
  ·refine .skip (.rgn [] (by simp only [go_sem, seval]; rfl) ?_ ?_)
   ·first | trivial | simp
   refine Exists.intro (k + 1) ⟨?_, ?_, ?_⟩
   ·simp at h5; (have hk : k = 1 ∨ k = 2 ∨ k = 3 := by omega); rcases hk with rfl | rfl | rfl <;> simp_all
   ·simp at h5; omega
   exact Can.weak (Weak.lit (by simp only [go_sem, seval, at_, leV, aq_, ar_, V.inn, us, T9_, Ta_] <;> (rw [bp_ (by omega) (by omega)])) (by simp only [go_sem, seval, at_, leV, aq_, ar_, V.inn, us, T9_, Ta_]) (by simp only [go_sem, seval, at_, leV, aq_, ar_, V.inn, us, T9_, Ta_]))
 ·refine .exit (.seq (.rgn [] (by simp only [go_sem, seval]; rfl) ?_ ?_))
  ·first | trivial | simp
  refine .ret ⟨.inr rfl, ?_⟩
  exact Out.plain (by simp only [Tryz.results121]; rfl) (by simp only [az_, bj_, go_sem, seval] <;> (split <;> rfl)) (by simp only [bg_, go_sem, seval] <;> (simp at h5; (have hk : k = 4 := by omega); subst hk; simp_all [o9_])) (by simp only [go_sem, seval])
def tkR (l : List Tk) : List (List V) := l.map fun t => [.i .i64 t.kind, .s t.s, .i .i64 t.col]
theorem as_ (l : List Tk) : (tkR l).length = l.length := by simp [tkR]
theorem am_ : ∀ l : List Tk, cj_ (tkR l) = true
 | [] => rfl
 | _ :: r => by show (cq_ [_, _, _] && cj_ (tkR r)) = true; rw [am_ r]; rfl
theorem o2_ (l : List Tk) (t : Tk) : tkR (l ++ [t]) = tkR l ++ [[.i .i64 t.kind, .s t.s, .i .i64 t.col]] := by simp [tkR]
theorem agd_ (l : List Tk) : (∀ r, r ∈ tkR l → r.length = 3) = True := eq_true fun r hr => by obtain ⟨t, _, rfl⟩ := List.mem_map.1 hr; rfl
theorem n9_ {l : List Tk} {k : Nat} (h : k < l.length) : (tkR l).getD k [] = [.i .i64 (l.getD k ⟨0, [], 0⟩).kind, .s (l.getD k ⟨0, [], 0⟩).s, .i .i64 (l.getD k ⟨0, [], 0⟩).col] := by
 simp [tkR, T8_, T6_ h]
theorem aa8_ (l : List Tk) (n : Nat) (hn : n = l.length) (hl : l.length < 1099511627776) : ACall En 122 [.ow 0 3 0 n] [⟨100, 3, tkR l⟩] [.ow 0 3 0 n] [⟨100, 3, tkR l⟩] := by
 refine al_ (fn := Tryz.f122) [0] Tryz.func122 rfl rfl (by simp) fun C => ?_
 rw [ay_]
 simp only [Tryz.ntmps122, T7_, List.length_nil, Nat.reduceAdd, Nat.reduceSub, List.replicate_succ, List.replicate_zero, List.cons_append, List.nil_append, bs_]
 refine .seq (.rgn [] (by simp only [go_sem, seval, am_]; rfl) ?_ ?_)
 ·subst hn; simp [as_]
 refine .seq (.rgn [] (by simp only [go_sem, seval, am_]; rfl) ?_ ?_)
 ·subst hn; simp [as_]
 refine .ret ⟨.inr rfl, ?_⟩
 exact Out.mem' (by simp only [Tryz.results122]; rfl) (by simp only [az_, bj_, go_sem, seval, am_]) (by simp only [bg_, rns, rn, go_sem, seval, am_] <;> (simp)) (by simp) rfl (by decide) (by simp only [go_sem, seval, am_]) (by simp only [av_, go_sem, seval, am_]) (by simp only [ao_, go_sem, seval, am_] <;> (simp [ck_, am_]))
theorem og_ {l : Str} {k : Nat} (h : k < l.length) (col : Int) : fa_ (l.drop k).length (l.drop k) col =
  if l.getD k 0 = 32 then fa_ (l.drop (k + 1)).length (l.drop (k + 1)) (col + 1)
  else if da_ ((l.drop k).take (d9_ (l.drop k))) = 0 then none
  else (fa_ (l.drop (k + d9_ (l.drop k))).length (l.drop (k + d9_ (l.drop k))) (col + d9_ (l.drop k))).map (⟨da_ ((l.drop k).take (d9_ (l.drop k))), (l.drop k).take (d9_ (l.drop k)), col⟩ :: ·) := by
 have e : l.drop k = l.getD k 0 :: l.drop (k + 1) := by
  rw [List.drop_eq_getElem_cons h, T8_, T6_ h]; rfl
 have h2 := j6_ (l.getD k 0) (l.drop (k + 1)) col
 rw [← e, List.drop_drop] at h2
 exact h2
theorem ho_ {l : Str} {k : Nat} (h : k < l.length) : l.getD k 0 = 32 ↔ ((l.getD k 0).toNat : Int) = 32 := by
 constructor
 ·intro e; rw [e]; rfl
 ·intro e; apply UInt8.toNat_inj.1; show _ = 32; omega
theorem z6_ {s : Str} {k : Nat} (h : k < s.length) : 1 ≤ d9_ (s.drop k) ∧ k + d9_ (s.drop k) ≤ s.length := by
 have h1 := lu_ (s.drop k)
 have h2 := aig_ (l := s.drop k) (fun e => by have := congrArg List.length e; rw [List.length_drop] at this; simp only [List.length_nil] at this; omega)
 rw [List.length_drop] at h2
 omega
theorem qd_ (s : Str) (k w : Nat) : (s.take (k + w)).drop k = (s.drop k).take w := by rw [List.drop_take, Nat.add_sub_cancel_left]
theorem akg_ (r : Str) : (if ((r.takeWhile cs_).length : Int) > (if ((r.takeWhile c0_).length : Int) > 1 then ((r.takeWhile c0_).length : Int) else 1) then ((r.takeWhile cs_).length : Int) else (if ((r.takeWhile c0_).length : Int) > 1 then ((r.takeWhile c0_).length : Int) else 1)) = (d9_ r : Int) := by
 unfold d9_
 split <;> split at * <;> omega
theorem l4_ {s : Str} (h : 120 < s.length) : b1_ s = none := by rw [b1_, if_pos h]
theorem gy_ {s : Str} (h : s.length ≤ 120) : b1_ s = fa_ s.length s 0 := by rw [b1_, if_neg (by omega)]
theorem re_ {s : Str} {k : Nat} (h : s.length ≤ k) (c : Int) : fa_ (s.drop k).length (s.drop k) c = some [] := by rw [List.drop_of_length_le h]; rfl
theorem sg_ (s : Str) (hs : s.length ≤ 281474976710656) : ACall En 60 [.s s] [] [.sl false (tkR ((b1_ s).getD [])), .b (b1_ s).isSome] [] := by
 refine al_ (fn := Tryz.f60) [] Tryz.func60 rfl rfl (by simp) fun C => ?_
 rw [ay_]
 simp only [Tryz.ntmps60, T7_, List.length_nil, Nat.reduceAdd, Nat.reduceSub, List.replicate_succ, List.replicate_zero, List.cons_append, List.nil_append, bs_]
 refine .seq (.rgn [] (by simp only [go_sem, seval, am_, as_]; rfl) ?_ ?_)
 ·first | trivial | simp
 refine .seq (.seq (.rgn [] (by simp only [go_sem, seval, am_, as_]; rfl) ?_ ?_))
 ·first | trivial | simp
 refine .condB (by simp only [go_sem, seval, am_, as_]; rfl) (by simp only [go_sem, seval, am_, as_]) (fun h10 => ?_) (fun h10 => ?_)
 ·refine .seq (.rgn [] (by simp only [go_sem, seval, am_, as_]; rfl) ?_ ?_)
  ·first | trivial | simp
  refine .ret ⟨.inr rfl, ?_⟩
  exact Out.plainL (by simp only [Tryz.results60]; rfl) (by simp only [az_, bj_, go_sem, seval, am_, as_] <;> (split <;> rfl)) (by simp only [bg_, go_sem, seval, am_, as_] <;> (simp at h10; rw [l4_ (by omega)]; simp [tkR, ler])) (by simp only [go_sem, seval, am_, as_])
 ·refine .skip (.seq (.rgn [] (by simp only [go_sem, seval, am_, as_]; rfl) ?_ ?_))
  ·first | trivial | simp
  refine .seq (.seq (.rgn [] (by simp only [go_sem, seval, am_, as_]; rfl) ?_ ?_))
  ·first | trivial | simp
  refine .block (.loopK (fun k : Nat × List Tk => ⟨[.s s, .no, .no, .no, .ow 20 3 0 k.2.length, .i .i64 k.1, .no, .no, .no, .no, .no, .no, .no, .no, .no, .no, .no, .no, .no, .no, .no, .no, .no, .no, .no, .no, .no, .no, .no, .no, .no, .no, .no, .no, .no, .no, .no, .no, .no, .no, .no, .no, .no, .no, .no, .no, .no, .no, .no, .no, .no, .no, .no, .no, .no, .no, .no], a7_ [(20, ⟨100, 3, tkR k.2⟩)], us [20]⟩) (fun k : Nat × List Tk => k.1 ≤ s.length ∧ s.length ≤ 120 ∧ k.2.length ≤ k.1 ∧ fa_ s.length s 0 = (fa_ (s.drop k.1).length (s.drop k.1) k.1).map (k.2 ++ ·)) (fun k : Nat × List Tk => s.length - k.1) ((0, [])) ?_ ?_ (fun k hI => ?_))
  ·simp at h10; simp; omega
  ·refine Can.trans (Can.ownSlot 4 20 100 3 (by simp only [go_sem, seval, am_, as_] <;> rfl) (by simp only [go_sem, seval, am_, as_]) (by simp only [go_sem, seval, am_, as_] <;> rfl)) ?_
   exact Can.weak (Weak.lit (by simp only [go_sem, seval, am_, as_, at_, leV, aq_, ar_, V.inn, us, T9_, Ta_] <;> (rfl)) (by simp only [go_sem, seval, am_, as_, at_, leV, aq_, ar_, V.inn, us, T9_, Ta_]) (by simp only [go_sem, seval, am_, as_, at_, leV, aq_, ar_, V.inn, us, T9_, Ta_] <;> (rfl)))
  refine .seq (.seq (.rgn [] (by simp only [go_sem, seval, am_, as_]; rfl) ?_ ?_))
  ·first | trivial | simp
  refine .condB (by simp only [go_sem, seval, am_, as_]; rfl) (by simp only [go_sem, seval, am_, as_]) (fun h14 => ?_) (fun h14 => ?_)
  ·refine .skip (.block (.seq (.seq (.rgn [] (by simp only [go_sem, seval, am_, as_]; rfl) ?_ ?_))))
   ·simp at h14; simp; exact h14
   refine .condB (by simp only [go_sem, seval, am_, as_]; rfl) (by simp only [go_sem, seval, am_, as_]) (fun h18 => ?_) (fun h18 => ?_)
   ·refine .seq (.rgn [] (by simp only [go_sem, seval, am_, as_]; rfl) ?_ ?_)
    ·first | trivial | simp
    refine .exit ?_
    refine Exists.intro ((k.1 + 1, k.2)) ⟨?_, ?_, ?_⟩
    ·simp only [T3_] at h14; simp only [beq_iff_eq] at h18; obtain ⟨i1, i2, i3, i4⟩ := hI; have e := og_ (show k.1 < s.length by omega) k.1; rw [if_pos ((ho_ (by omega)).2 h18)] at e; exact ⟨by dsimp only; omega, i2, by dsimp only; omega, by rw [i4, e]; rfl⟩
    ·simp only [T3_] at h14; dsimp only; omega
    exact Can.weak (Weak.lit (by simp only [go_sem, seval, am_, as_, at_, leV, aq_, ar_, V.inn, us, T9_, Ta_] <;> (rw [bp_ (by omega) (by omega)]; rfl)) (by simp only [go_sem, seval, am_, as_, at_, leV, aq_, ar_, V.inn, us, T9_, Ta_]) (by simp only [go_sem, seval, am_, as_, at_, leV, aq_, ar_, V.inn, us, T9_, Ta_]))
   ·refine .skip (.seqJ (fun u : Unit => ⟨[.s s, .no, .no, .no, .ow 20 3 0 k.2.length, .i .i64 k.1, .i .i64 (d9_ (s.drop k.1)), .no, .no, .no, .no, .no, .no, .no, .no, .no, .no, .no, .no, .no, .no, .no, .no, .no, .no, .no, .no, .no, .no, .no, .no, .no, .no, .no, .no, .no, .no, .no, .no, .no, .no, .no, .no, .no, .no, .no, .no, .no, .no, .no, .no, .no, .no, .no, .no, .no, .no], a7_ [(20, ⟨100, 3, tkR k.2⟩)], us [20]⟩) (fun u : Unit => True) ?_ (fun u hJ => ?_))
    ·refine .rgnDS [29] [a9_ (adn_ c0_ 119 pi_ (s.drop k.1) (by simp; omega)), a9_ (adn_ cs_ 120 abj_ (s.drop k.1) (by simp; omega)), maxO En] enM (by simp only [go_sem, seval, am_, as_]; rfl) (by rfl) ?_ ?_
     ·simp at h14; simp; omega
     refine Exists.intro (()) ⟨?_, ?_⟩
     ·trivial
     exact Can.weak (Weak.lit (by simp only [go_sem, seval, am_, as_, at_, leV, aq_, ar_, V.inn, us, T9_, Ta_] <;> (rw [akg_])) (by simp only [go_sem, seval, am_, as_, at_, leV, aq_, ar_, V.inn, us, T9_, Ta_]) (by simp only [go_sem, seval, am_, as_, at_, leV, aq_, ar_, V.inn, us, T9_, Ta_]))
    refine .seq (.rgnD [a9_ (abt_ ((s.drop k.1).take (d9_ (s.drop k.1))) (by simp; omega))] enM (by simp only [go_sem, seval, am_, as_, show IntKind.i64.wrap ((k.1 : Int) + (d9_ (s.drop k.1) : Int)) = ((k.1 + d9_ (s.drop k.1) : Nat) : Int) by (have := z6_ (show k.1 < s.length by simpa using h14); rw [bp_ (by omega) (by omega)]; rfl), qd_]; rfl) (by rfl) ?_ ?_)
    ·have h14' : k.1 < s.length := (by simpa using h14); have := z6_ h14'; simp [cb_]; omega
    refine .seq (.seq (.rgn [] (by simp only [go_sem, seval, am_, as_]; rfl) ?_ ?_))
    ·first | trivial | simp
    refine .condB (by simp only [go_sem, seval, am_, as_]; rfl) (by simp only [go_sem, seval, am_, as_]) (fun h47 => ?_) (fun h47 => ?_)
    ·refine .seq (.rgn [] (by simp only [go_sem, seval, am_, as_]; rfl) ?_ ?_)
     ·first | trivial | simp
     refine .ret ⟨.inr rfl, ?_⟩
     exact Out.plainL (by simp only [Tryz.results60]; rfl) (by simp only [az_, bj_, go_sem, seval, am_, as_] <;> (split <;> rfl)) (by simp only [bg_, go_sem, seval, am_, as_] <;> (simp only [T3_] at h14; simp only [beq_eq_false_iff_ne] at h18; simp only [beq_iff_eq] at h47; have e := og_ (show k.1 < s.length by omega) k.1; rw [if_neg (fun h => h18 ((ho_ (by omega)).1 h)), if_pos h47] at e; rw [gy_ (by omega), hI.2.2.2, e]; simp [tkR, ler])) (by simp only [go_sem, seval, am_, as_])
    ·refine .skip (.seq (.rgn [] (by simp only [go_sem, seval, am_, as_]; rfl) ?_ ?_))
     ·simp [agd_]; omega
     refine .rgn [] (by simp only [go_sem, seval, am_, as_]; rfl) ?_ ?_
     ·first | trivial | simp
     refine Exists.intro ((k.1 + d9_ (s.drop k.1), k.2 ++ [⟨da_ ((s.drop k.1).take (d9_ (s.drop k.1))), (s.drop k.1).take (d9_ (s.drop k.1)), k.1⟩])) ⟨?_, ?_, ?_⟩
     ·simp only [T3_] at h14; simp only [beq_eq_false_iff_ne] at h18 h47; obtain ⟨i1, i2, i3, i4⟩ := hI; have e := og_ (show k.1 < s.length by omega) k.1; rw [if_neg (fun h => h18 ((ho_ (by omega)).1 h)), if_neg h47] at e; have hb := z6_ (show k.1 < s.length by omega); exact ⟨by dsimp only; omega, i2, by simp only [T2_, List.length_singleton]; omega, by rw [i4, e, Option.map_map]; simp [Function.comp_def]⟩
     ·simp only [T3_] at h14; have hb := z6_ (show k.1 < s.length by omega); dsimp only; omega
     refine Can.trans (Can.swap 61 20 (by decide) (by decide) (by decide) (by decide) (by simp only [go_sem, seval, am_, as_, V.cl]) (by simp only [go_sem, seval, am_, as_, V.cl]) (by simp only [go_sem, seval, am_, as_, by_, sw, swM, rnB] <;> rfl) (by simp only [go_sem, seval, am_, as_, by_, sw, swM, rnB] <;> rfl) (by simp only [go_sem, seval, am_, as_, by_, sw, swM, rnB] <;> rfl)) ?_
     exact Can.weak (Weak.lit (by simp only [go_sem, seval, am_, as_, at_, leV, aq_, ar_, V.inn, us, T9_, Ta_] <;> ((have hb := z6_ (show k.1 < s.length by simpa using h14)); rw [bp_ (by omega) (by omega)]; simp)) (by simp only [go_sem, seval, am_, as_, at_, leV, aq_, ar_, V.inn, us, T9_, Ta_]) (by simp only [go_sem, seval, am_, as_, at_, leV, aq_, ar_, V.inn, us, T9_, Ta_] <;> (rw [o2_])))
  ·refine .exit (.seq (.rgn [cv_ [20] [] (aa8_ k.2 k.2.length rfl (by omega))] (by simp only [go_sem, seval, am_, as_]; rfl) ?_ ?_))
   ·simp [ao_, av_, am_]
   refine .frz 20 (by simp only [go_sem, seval, am_, as_]; rfl) (by simp only [go_sem, seval, am_, as_]) (by simp only [go_sem, seval, am_, as_]; rfl) (by simp only [go_sem, seval, am_, as_]; rfl) ?_
   refine .ret ⟨.inr rfl, ?_⟩
   exact Out.plainL (by simp only [Tryz.results60]; rfl) (by simp only [az_, bj_, go_sem, seval, am_, as_] <;> (split <;> rfl)) (by simp only [bg_, go_sem, seval, am_, as_] <;> (simp only [T4_] at h14; rw [gy_ (by omega), hI.2.2.2, re_ (by omega)]; simp [T1_, as_, leV, ap_])) (by simp only [go_sem, seval, am_, as_])
end
end Go.Proofs.YtcigkafioinfoaaGreatDoor
