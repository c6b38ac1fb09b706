/- What the library's functions answer: strconv.Atoi, strings.Contains; numbers. Conditions: none. -/
import Derived.Test.YtcigkafioinfoaaGreatDoorKf
import Derived.Test.YtcigkafioinfoaaGreatDoorKg
import Derived.Test.YtcigkafioinfoaaGreatDoorKh
import Derived.Test.YtcigkafioinfoaaGreatDoorKd
set_option linter.unusedVariables false
set_option linter.unusedSimpArgs false
namespace Go.Proofs.YtcigkafioinfoaaGreatDoor
section
open Go.RowKit
set_option maxRecDepth 100000
set_option maxHeartbeats 1000000
theorem errU : En.P.underlying 238 = some (.interface (En.P.methodsAt 238)) := by kernel_rfl
def jp_ (o : Option Int) : V := match o with | some n => .i .i64 n | none => .no
def h4_ (s : Str) : Option Int := match Lib.atoiAll s with | .ok v => some v | _ => none
theorem abp_ (s : Str) (hs : s.length ≤ 281474976710656) : ACall En 258 [.s s] [] [jp_ (h4_ s), ifV (h4_ s).isSome] [] := by
 refine i6_ (fn := Tryz.f258) Tryz.func258 rfl rfl fun S w xs hx _ ⟨B, hB, _⟩ => ?_
 simp only [VRs, VR] at hx
 obtain ⟨x, r, e1, rfl, rfl⟩ := hx
 obtain rfl : xs = #[.string ⟨s.toArray⟩] := by apply Array.ext'; simpa using e1
 have hsz : (⟨s.toArray⟩ : ByteArray).size ≤ 281474976710656 := by simpa [ByteArray.size] using hs
 have hd : (⟨s.toArray⟩ : ByteArray).data.toList = s := by simp
 cases h : Lib.atoiAll s with
 | ok v =>
  have ho : h4_ s = some v := by simp [h4_, h]
  refine (Tryz.strconv_Atoi_ok ⟨s.toArray⟩ (by omega) v (by rw [hd]; exact h) w).mono ?_
  rintro e w' ⟨rfl, hw⟩
  refine ⟨[.int .i64 v, .nilIface], rfl, ?_, ?_⟩
  ·rcases hw with rfl | ⟨t, rfl⟩
   ·exact Below.refl _ _
   ·exact Lib.bytesWorld_below _ _ _
  ·rw [ho]; exact .cons (by simp only [jp_, VR]) (.cons (by simp [ifV, VR]) .nil)
 | range =>
  have ho : h4_ s = none := by simp [h4_, h]
  obtain ⟨tp, p, hv⟩ := hB.rng
  refine (Any.strconv_Atoi_range_var Tryz.laysC172 ⟨s.toArray⟩ hsz (by rw [hd]; exact h) tp p w hv).mono ?_
  rintro e w' ⟨N, rfl, _, _, hb⟩
  exact ⟨[_, _], rfl, hb, by rw [ho]; exact .cons (by simp only [jp_, VR]) (.cons (by simp [ifV, VR]) .nil)⟩
 | _ =>
  have ho : h4_ s = none := by simp [h4_, h]
  obtain ⟨tp, p, hv⟩ := hB.syn
  refine (Any.strconv_Atoi_syntax_var Tryz.laysC172 ⟨s.toArray⟩ hsz (by rw [hd]; exact h) tp p w hv).mono ?_
  rintro e w' ⟨N, rfl, _, _, hb⟩
  exact ⟨[_, _], rfl, hb, by rw [ho]; exact .cons (by simp only [jp_, VR]) (.cons (by simp [ifV, VR]) .nil)⟩
def lt_ (s : Str) : V := if eq_ s then .i .i64 (cu_ s) else .no
theorem cs_ (s : Str) : (lt_ s).pure = true := by unfold lt_; split <;> rfl
theorem du_ (s : Str) : peel (lt_ s) = lt_ s := by unfold lt_; split <;> rfl
theorem dc_ (s : Str) : ed_ (lt_ s) = true := by unfold lt_; split <;> rfl
theorem aby_ (v : V) : leV v .no = True := by cases v <;> simp only [leV]
theorem vs_ : ∀ (l : Str) (c : UInt8), -1 ≤ Lib.indexByte l c
 | [], _ => by simp [Lib.indexByte]
 | b :: l, c => by
  have := vs_ l c
  simp only [Lib.indexByte]
  split
  ·decide
  ·split <;> omega
theorem q1_ : ∀ (l : Str) (c : UInt8), 0 ≤ Lib.indexByte l c ↔ c ∈ l
 | [], _ => by simp [Lib.indexByte]
 | b :: l, c => by
  have h1 := vs_ l c
  have h2 := q1_ l c
  rw [List.mem_cons, ← h2, Lib.indexByte]
  by_cases hb : b = c
  ·subst hb; rw [if_pos (beq_self_eq_true b)]; exact ⟨fun _ => .inl rfl, fun _ => Int.le_refl _⟩
  ·rw [if_neg (by simpa using hb)]
   by_cases hc : Lib.indexByte l c = -1
   ·rw [if_pos (by rw [hc]; rfl), hc]; exact ⟨fun h => absurd h (by decide), fun h => h.elim (fun e => absurd e.symm hb) id⟩
   ·rw [if_neg (by simpa using hc)]; exact ⟨fun h => .inr (by omega), fun h => h.elim (fun e => absurd e.symm hb) (fun h => by omega)⟩
theorem ia_ (l : Str) (c : UInt8) : decide (0 ≤ Lib.indexByte l c) = l.contains c := by
 rw [List.contains_eq_mem]; exact decide_eq_decide.2 (q1_ l c)
theorem abs_ (s : Str) (hs : s.length ≤ 281474976710656) (h : h4_ s = none) : ACall En 225 [.s s] [] [lt_ s, .b (eq_ s)] [] := by
 have A := abp_ s hs
 rw [h] at A
 have hn : eq_ s = false := ada_ fun v hv => by simp [h4_, hv] at h
 refine an_ (fn := Tryz.f225) [] Tryz.func225 rfl rfl (by simp) fun C => ?_
 rw [bb_]
 simp only [Tryz.ntmps225, T7_, List.length_nil, Nat.reduceAdd, Nat.reduceSub, List.replicate_succ, List.replicate_zero, List.cons_append, List.nil_append, bu_]
 refine .seq (.rgn [] (by simp only [go_sem, seval, jp_, Option.isSome_none, cs_]; rfl) ?_ ?_)
 ·first | trivial | simp
 refine .seq (.rgn [br_ A] (by simp only [go_sem, seval, jp_, Option.isSome_none, cs_]; rfl) ?_ ?_)
 ·first | trivial | simp
 refine .seq (.rgnS [13] [ifO En 238 false errU, br_ (in_a 0 0 1000000), br_ (u0_ 0 (by decide) (by decide))] (by simp only [go_sem, seval, jp_, Option.isSome_none, cs_]; rfl) ?_ ?_)
 ·first | trivial | simp
 refine .ret ⟨.inr rfl, ?_⟩
 exact Out.plainL (by simp only [Tryz.results225]; rfl) (by simp only [ba_, bs_, go_sem, seval, jp_, Option.isSome_none, cs_] <;> (split <;> rfl)) (by simp only [bq_, go_sem, seval, jp_, Option.isSome_none, cs_] <;> (simp [hn, lt_, aby_])) (by simp only [go_sem, seval, jp_, Option.isSome_none, cs_])
theorem zr_ (s : Str) (hs : s.length ≤ 281474976710656) {v : Int} (h : h4_ s = some v) : ACall En 225 [.s s] [] [lt_ s, .b (eq_ s)] [] := by
 have A := abp_ s hs
 rw [h] at A
 have hv : Lib.atoiAll s = .ok v := by
  unfold h4_ at h
  split at h
  ·rename_i v' hv'; cases h; exact hv'
  ·cases h
 refine an_ (fn := Tryz.f225) [] Tryz.func225 rfl rfl (by simp) fun C => ?_
 rw [bb_]
 simp only [Tryz.ntmps225, T7_, List.length_nil, Nat.reduceAdd, Nat.reduceSub, List.replicate_succ, List.replicate_zero, List.cons_append, List.nil_append, bu_]
 refine .seq (.rgn [] (by simp only [go_sem, seval, jp_, Option.isSome_some, cs_]; rfl) ?_ ?_)
 ·first | trivial | simp
 refine .seq (.rgn [br_ A] (by simp only [go_sem, seval, jp_, Option.isSome_some, cs_]; rfl) ?_ ?_)
 ·first | trivial | simp
 refine .seq (.rgnS [13] [ifO En 238 true errU, br_ (in_a v 0 1000000), dw_ (0 ≤ v ∧ v ≤ 1000000) (fun h => u0_ v (by omega) (by omega))] (by simp only [go_sem, seval, jp_, Option.isSome_some, cs_]; rfl) ?_ ?_)
 ·first | trivial | simp
 refine .ret ⟨.inr rfl, ?_⟩
 exact Out.plainL (by simp only [Tryz.results225]; rfl) (by simp only [ba_, bs_, go_sem, seval, jp_, Option.isSome_some, cs_] <;> (split <;> rfl)) (by simp only [bq_, go_sem, seval, jp_, Option.isSome_some, cs_] <;> (have k := adi_ hv; cases hn : eq_ s; (simp only [hn] at k; simp only [lt_, hn]; refine ⟨?_, ?_⟩; (simp only [Bool.false_eq_true, if_false]; rw [aby_]; trivial); simpa using k); (have hv2 := aau_ hv hn; simp only [lt_, hn, if_true]; rw [← hv2]; simp only [hn] at k; simp only [fk_]; simpa using k))) (by simp only [go_sem, seval, jp_, Option.isSome_some, cs_])
theorem ab0_ (s : Str) (hs : s.length ≤ 281474976710656) : ACall En 225 [.s s] [] [lt_ s, .b (eq_ s)] [] := by
 cases h : h4_ s with
 | none => exact abs_ s hs h
 | some v => exact zr_ s hs h
theorem mg_ (s : Str) (c : UInt8) : ACall En 209 [.s s, .s [c]] [] [.b (s.contains c)] [] := by
 refine i6_ (fn := Tryz.f209) Tryz.func209 rfl rfl fun S w xs hx _ ⟨B, hB, _⟩ => ?_
 simp only [VRs, VR] at hx
 obtain ⟨x, r, e1, rfl, y, q, rfl, rfl, rfl⟩ := hx
 obtain rfl : xs = #[.string ⟨s.toArray⟩, .string ⟨#[c]⟩] := by apply Array.ext'; simpa using e1
 refine (Tryz.strings_Contains_one ⟨s.toArray⟩ c w).mono ?_
 rintro e w' ⟨rfl, rfl⟩
 refine ⟨[_], rfl, Below.refl _ _, .cons ?_ .nil⟩
 simp only [VR]
 rw [← ia_]
end
section
set_option maxRecDepth 100000
set_option maxHeartbeats 4000000
theorem z6_ (s : Str) (hs : s.length ≤ 281474976710656) : ACall En 178 [.i .i64 2, .s s] [] [.b (eq_ s)] [] := by
 refine an_ (fn := Tryz.f178) [] Tryz.func178 rfl rfl (by simp) fun C => ?_
 rw [bb_]
 simp only [Tryz.ntmps178, T7_, List.length_nil, Nat.reduceAdd, Nat.reduceSub, List.replicate_succ, List.replicate_zero, List.cons_append, List.nil_append, bu_]
 refine .seq (.rgn [] (by simp only [go_sem, seval, cs_, du_, dc_]; rfl) ?_ ?_)
 ·first | trivial | simp
 refine .seq (.seq (.rgn [] (by simp only [go_sem, seval, cs_, du_, dc_]; rfl) ?_ ?_))
 ·first | trivial | simp
 refine .block (.seq (.rgn [] (by simp only [go_sem, seval, cs_, du_, dc_]; rfl) ?_ ?_))
 ·first | trivial | simp
 refine .condB (by simp only [go_sem, seval, cs_, du_, dc_]; rfl) (by simp only [go_sem, seval, cs_, du_, dc_]) (fun h8 => ?_) (fun h8 => ?_)
 ·exact absurd h8 (by simp)
 ·refine .seq (.rgn [] (by simp only [go_sem, seval, cs_, du_, dc_]; rfl) ?_ ?_)
  ·first | trivial | simp
  refine .condB (by simp only [go_sem, seval, cs_, du_, dc_]; rfl) (by simp only [go_sem, seval, cs_, du_, dc_]) (fun h20 => ?_) (fun h20 => ?_)
  ·refine .seq (.rgn [br_ (ab0_ s hs)] (by simp only [go_sem, seval, cs_, du_, dc_]; rfl) ?_ ?_)
   ·first | trivial | simp
   refine .seq (.rgn [] (by simp only [go_sem, seval, cs_, du_, dc_]; rfl) ?_ ?_)
   ·first | trivial | simp
   refine .ret ⟨.inr rfl, ?_⟩
   exact Out.plain (by simp only [Tryz.results178]; rfl) (by simp only [ba_, bs_, go_sem, seval, cs_, du_, dc_] <;> (split <;> rfl)) (by simp only [bq_, go_sem, seval, cs_, du_, dc_] <;> (rfl)) (by simp only [go_sem, seval, cs_, du_, dc_])
  ·exact absurd h20 (by simp)
theorem u2_ (c : UInt8) : ACall En 178 [.i .i64 3, .s [c]] [] [.b (fj_ [c])] [] := by
 refine an_ (fn := Tryz.f178) [] Tryz.func178 rfl rfl (by simp) fun C => ?_
 rw [bb_]
 simp only [Tryz.ntmps178, T7_, List.length_nil, Nat.reduceAdd, Nat.reduceSub, List.replicate_succ, List.replicate_zero, List.cons_append, List.nil_append, bu_]
 refine .seq (.rgn [] (by simp only [go_sem, seval]; rfl) ?_ ?_)
 ·(first | trivial | (simp [marks]; done))
 refine .seq (.seq (.rgn [] (by simp only [go_sem, seval]; rfl) ?_ ?_))
 ·(first | trivial | (simp [marks]; done))
 refine .block (.seq (.rgn [] (by simp only [go_sem, seval]; rfl) ?_ ?_))
 ·(first | trivial | (simp [marks]; done))
 refine .condB (by simp only [go_sem, seval]; rfl) (by simp only [go_sem, seval]) (fun h8 => ?_) (fun h8 => ?_)
 ·exact absurd h8 (by simp)
 ·refine .seq (.rgn [] (by simp only [go_sem, seval]; rfl) ?_ ?_)
  ·(first | trivial | (simp [marks]; done))
  refine .condB (by simp only [go_sem, seval]; rfl) (by simp only [go_sem, seval]) (fun h20 => ?_) (fun h20 => ?_)
  ·exact absurd h20 (by simp)
  ·refine .seq (.rgn [] (by simp only [go_sem, seval]; rfl) ?_ ?_)
   ·(first | trivial | (simp [marks]; done))
   refine .condB (by simp only [go_sem, seval]; rfl) (by simp only [go_sem, seval]) (fun h28 => ?_) (fun h28 => ?_)
   ·refine .seq (.rgn [br_ (mg_ marks c)] (by simp only [go_sem, seval]; rfl) ?_ ?_)
    ·(first | trivial | (simp [marks]; done))
    refine .ret ⟨.inr rfl, ?_⟩
    exact Out.plain (by simp only [Tryz.results178]; rfl) (by simp only [ba_, bs_, go_sem, seval] <;> (split <;> rfl)) (by simp only [bq_, go_sem, seval] <;> (simp [fj_])) (by simp only [go_sem, seval])
   ·exact absurd h28 (by simp)
theorem vq_ (s : Str) (h : s.length ≠ 1) : ACall En 178 [.i .i64 3, .s s] [] [.b (fj_ s)] [] := by
 have h2 : ((s.length : Int) == 1) = false := by simpa using (show ¬ (s.length : Int) = 1 by omega)
 refine an_ (fn := Tryz.f178) [] Tryz.func178 rfl rfl (by simp) fun C => ?_
 rw [bb_]
 simp only [Tryz.ntmps178, T7_, List.length_nil, Nat.reduceAdd, Nat.reduceSub, List.replicate_succ, List.replicate_zero, List.cons_append, List.nil_append, bu_]
 refine .seq (.rgn [] (by simp only [go_sem, seval]; rfl) ?_ ?_)
 ·(first | trivial | (simp [h2]; done))
 refine .seq (.seq (.rgn [] (by simp only [go_sem, seval]; rfl) ?_ ?_))
 ·(first | trivial | (simp [h2]; done))
 refine .block (.seq (.rgn [] (by simp only [go_sem, seval]; rfl) ?_ ?_))
 ·(first | trivial | (simp [h2]; done))
 refine .condB (by simp only [go_sem, seval]; rfl) (by simp only [go_sem, seval]) (fun h8 => ?_) (fun h8 => ?_)
 ·exact absurd h8 (by simp)
 ·refine .seq (.rgn [] (by simp only [go_sem, seval]; rfl) ?_ ?_)
  ·(first | trivial | (simp [h2]; done))
  refine .condB (by simp only [go_sem, seval]; rfl) (by simp only [go_sem, seval]) (fun h20 => ?_) (fun h20 => ?_)
  ·exact absurd h20 (by simp)
  ·refine .seq (.rgn [] (by simp only [go_sem, seval]; rfl) ?_ ?_)
   ·(first | trivial | (simp [h2]; done))
   refine .condB (by simp only [go_sem, seval]; rfl) (by simp only [go_sem, seval]) (fun h28 => ?_) (fun h28 => ?_)
   ·refine .seq (.rgn [br_ (mg_ marks 0)] (by simp only [go_sem, seval]; rfl) ?_ ?_)
    ·(first | trivial | (simp [h2]; done))
    refine .ret ⟨.inr rfl, ?_⟩
    exact Out.plain (by simp only [Tryz.results178]; rfl) (by simp only [ba_, bs_, go_sem, seval] <;> (split <;> rfl)) (by simp only [bq_, go_sem, seval] <;> (simp [fj_, h, h2])) (by simp only [go_sem, seval])
   ·exact absurd h28 (by simp)
def ny_ (k : Int) (s : Str) : Bool := if k = 1 then e7_ s else if k = 2 then eq_ s else fj_ s
theorem ae0_ (k : Int) (hk : k = 1 ∨ k = 2 ∨ k = 3) (s : Str) (hs : s.length ≤ 281474976710656) : ACall En 178 [.i .i64 k, .s s] [] [.b (ny_ k s)] [] := by
 rcases hk with rfl | rfl | rfl
 ·exact su_ s (by omega)
 ·exact z6_ s hs
 ·by_cases h : s.length = 1
  ·obtain ⟨c, rfl⟩ := List.length_eq_one_iff.1 h
   exact u2_ c
  ·exact vq_ s h
theorem of_ (s : Str) : dn_ s = if ny_ 1 s then 1 else if ny_ 2 s then 2 else if ny_ 3 s then 3 else 0 := rfl
theorem xs_ (s : Str) (hs : s.length ≤ 281474976710656) : ACall En 121 [.s s] [] [.i .i64 (dn_ s)] [] := by
 refine an_ (fn := Tryz.f121) [] Tryz.func121 rfl rfl (by simp) fun C => ?_
 rw [bb_]
 simp only [Tryz.ntmps121, T7_, List.length_nil, Nat.reduceAdd, Nat.reduceSub, List.replicate_succ, List.replicate_zero, List.cons_append, List.nil_append, bu_]
 refine .seq (.rgn [] (by simp only [go_sem, seval]; rfl) ?_ ?_)
 ·first | trivial | simp
 refine .seq (.seq (.rgn [] (by simp only [go_sem, seval]; rfl) ?_ ?_))
 ·first | trivial | simp
 refine .block (.loopK (fun k : Int => ⟨[.s s, .no, .no, .i .i64 k, .no, .no, .no, .no, .no, .no, .no, .no], bf_ [], us []⟩) (fun k : Int => 1 ≤ k ∧ k ≤ 4 ∧ (1 < k → ny_ 1 s = false) ∧ (2 < k → ny_ 2 s = false) ∧ (3 < k → ny_ 3 s = false)) (fun k : Int => (4 - k).toNat) (1) ?_ ?_ (fun k hI => ?_))
 ·simp
 ·exact Can.weak (Weak.lit (by simp only [go_sem, seval, a2_, leV, az_, ay_, V.inn, us, T9_, Ta_] <;> (simp)) (by simp only [go_sem, seval, a2_, leV, az_, ay_, V.inn, us, T9_, Ta_]) (by simp only [go_sem, seval, a2_, leV, az_, ay_, V.inn, us, T9_, Ta_]))
 refine .seq (.seq (.rgn [] (by simp only [go_sem, seval]; rfl) ?_ ?_))
 ·first | trivial | simp
 refine .condB (by simp only [go_sem, seval]; rfl) (by simp only [go_sem, seval]) (fun h5 => ?_) (fun h5 => ?_)
 ·refine .skip (.seq (.block (.seq (.rgn [dw_ (k = 1 ∨ k = 2 ∨ k = 3) (fun h => ae0_ k h s hs)] (by simp only [go_sem, seval]; rfl) ?_ ?_))))
  ·simp at h5; omega
  refine .condB (by simp only [go_sem, seval]; rfl) (by simp only [go_sem, seval]) (fun h10 => ?_) (fun h10 => ?_)
  ·refine .seq (.rgn [] (by simp only [go_sem, seval]; rfl) ?_ ?_)
   ·first | trivial | simp
   refine .ret ⟨.inr rfl, ?_⟩
   exact Out.plain (by simp only [Tryz.results121]; rfl) (by simp only [ba_, bs_, go_sem, seval] <;> (split <;> rfl)) (by simp only [bq_, go_sem, seval] <;> (simp at h5; (have hk : k = 1 ∨ k = 2 ∨ k = 3 := by omega); rw [of_]; rcases hk with rfl | rfl | rfl <;> simp_all)) (by simp only [go_sem, seval])
  ·refine .skip (.rgn [] (by simp only [go_sem, seval]; rfl) ?_ ?_)
   ·first | trivial | simp
   refine Exists.intro (k + 1) ⟨?_, ?_, ?_⟩
   ·simp at h5; (have hk : k = 1 ∨ k = 2 ∨ k = 3 := by omega); rcases hk with rfl | rfl | rfl <;> simp_all
   ·simp at h5; omega
   exact Can.weak (Weak.lit (by simp only [go_sem, seval, a2_, leV, az_, ay_, V.inn, us, T9_, Ta_] <;> (rw [bv_ (by omega) (by omega)])) (by simp only [go_sem, seval, a2_, leV, az_, ay_, V.inn, us, T9_, Ta_]) (by simp only [go_sem, seval, a2_, leV, az_, ay_, V.inn, us, T9_, Ta_]))
 ·refine .exit (.seq (.rgn [] (by simp only [go_sem, seval]; rfl) ?_ ?_))
  ·first | trivial | simp
  refine .ret ⟨.inr rfl, ?_⟩
  exact Out.plain (by simp only [Tryz.results121]; rfl) (by simp only [ba_, bs_, go_sem, seval] <;> (split <;> rfl)) (by simp only [bq_, go_sem, seval] <;> (simp at h5; (have hk : k = 4 := by omega); subst hk; simp_all [of_])) (by simp only [go_sem, seval])
def tkR (l : List Tk) : List (List V) := l.map fun t => [.i .i64 t.kind, .s t.s, .i .i64 t.col]
theorem a1_ (l : List Tk) : (tkR l).length = l.length := by simp [tkR]
theorem ar_ : ∀ l : List Tk, cz_ (tkR l) = true
 | [] => rfl
 | _ :: r => by show (dp_ [_, _, _] && cz_ (tkR r)) = true; rw [ar_ r]; rfl
theorem oe_ (l : List Tk) (t : Tk) : tkR (l ++ [t]) = tkR l ++ [[.i .i64 t.kind, .s t.s, .i .i64 t.col]] := by simp [tkR]
theorem y9_ (l : List Tk) : (∀ r, r ∈ tkR l → r.length = 3) = True := eq_true fun r hr => by obtain ⟨t, _, rfl⟩ := List.mem_map.1 hr; rfl
theorem w4_ {l : List Tk} {k : Nat} (h : k < l.length) : (tkR l).getD k [] = [.i .i64 (l.getD k ⟨0, [], 0⟩).kind, .s (l.getD k ⟨0, [], 0⟩).s, .i .i64 (l.getD k ⟨0, [], 0⟩).col] := by
 simp [tkR, T8_, T6_ h]
theorem xp_ (l : List Tk) (n : Nat) (hn : n = l.length) (hl : l.length < 1099511627776) : ACall En 122 [.ow 0 3 0 n] [⟨100, 3, tkR l⟩] [.ow 0 3 0 n] [⟨100, 3, tkR l⟩] := by
 refine an_ (fn := Tryz.f122) [0] Tryz.func122 rfl rfl (by simp) fun C => ?_
 rw [bb_]
 simp only [Tryz.ntmps122, T7_, List.length_nil, Nat.reduceAdd, Nat.reduceSub, List.replicate_succ, List.replicate_zero, List.cons_append, List.nil_append, bu_]
 refine .seq (.rgn [] (by simp only [go_sem, seval, ar_]; rfl) ?_ ?_)
 ·subst hn; simp [a1_]
 refine .seq (.rgn [] (by simp only [go_sem, seval, ar_]; rfl) ?_ ?_)
 ·subst hn; simp [a1_]
 refine .ret ⟨.inr rfl, ?_⟩
 exact Out.mem' (by simp only [Tryz.results122]; rfl) (by simp only [ba_, bs_, go_sem, seval, ar_]) (by simp only [bq_, rns, rn, go_sem, seval, ar_] <;> (simp)) (by simp) rfl (by decide) (by simp only [go_sem, seval, ar_]) (by simp only [bt_, go_sem, seval, ar_]) (by simp only [bn_, go_sem, seval, ar_] <;> (simp [dy_, ar_]))
theorem m5_ {l : Str} {k : Nat} (h : k < l.length) (col : Int) : gj_ (l.drop k).length (l.drop k) col =
  if l.getD k 0 = 32 then gj_ (l.drop (k + 1)).length (l.drop (k + 1)) (col + 1)
  else if dn_ ((l.drop k).take (ea_ (l.drop k))) = 0 then none
  else (gj_ (l.drop (k + ea_ (l.drop k))).length (l.drop (k + ea_ (l.drop k))) (col + ea_ (l.drop k))).map (⟨dn_ ((l.drop k).take (ea_ (l.drop k))), (l.drop k).take (ea_ (l.drop k)), col⟩ :: ·) := by
 have e : l.drop k = l.getD k 0 :: l.drop (k + 1) := by
  rw [List.drop_eq_getElem_cons h, T8_, T6_ h]; rfl
 have h2 := je_ (l.getD k 0) (l.drop (k + 1)) col
 rw [← e, List.drop_drop] at h2
 exact h2
theorem hf_ {l : Str} {k : Nat} (h : k < l.length) : l.getD k 0 = 32 ↔ ((l.getD k 0).toNat : Int) = 32 := by
 constructor
 ·intro e; rw [e]; rfl
 ·intro e; apply UInt8.toNat_inj.1; show _ = 32; omega
theorem y0_ {s : Str} {k : Nat} (h : k < s.length) : 1 ≤ ea_ (s.drop k) ∧ k + ea_ (s.drop k) ≤ s.length := by
 have h1 := nu_ (s.drop k)
 have h2 := ae5_ (l := s.drop k) (fun e => by have := congrArg List.length e; rw [List.length_drop] at this; simp only [List.length_nil] at this; omega)
 rw [List.length_drop] at h2
 omega
theorem oh_ (s : Str) (k w : Nat) : (s.take (k + w)).drop k = (s.drop k).take w := by rw [List.drop_take, Nat.add_sub_cancel_left]
theorem ag0_ (r : Str) : (if ((r.takeWhile c3_).length : Int) > (if ((r.takeWhile dh_).length : Int) > 1 then ((r.takeWhile dh_).length : Int) else 1) then ((r.takeWhile c3_).length : Int) else (if ((r.takeWhile dh_).length : Int) > 1 then ((r.takeWhile dh_).length : Int) else 1)) = (ea_ r : Int) := by
 unfold ea_
 split <;> split at * <;> omega
theorem ks_ {s : Str} (h : 120 < s.length) : dl_ s = none := by rw [dl_, if_pos h]
theorem gr_ {s : Str} (h : s.length ≤ 120) : dl_ s = gj_ s.length s 0 := by rw [dl_, if_neg (by omega)]
theorem qk_ {s : Str} {k : Nat} (h : s.length ≤ k) (c : Int) : gj_ (s.drop k).length (s.drop k) c = some [] := by rw [List.drop_of_length_le h]; rfl
theorem x9_ (s : Str) (hs : s.length ≤ 281474976710656) : ACall En 60 [.s s] [] [.sl false (tkR ((dl_ s).getD [])), .b (dl_ s).isSome] [] := by
 refine an_ (fn := Tryz.f60) [] Tryz.func60 rfl rfl (by simp) fun C => ?_
 rw [bb_]
 simp only [Tryz.ntmps60, T7_, List.length_nil, Nat.reduceAdd, Nat.reduceSub, List.replicate_succ, List.replicate_zero, List.cons_append, List.nil_append, bu_]
 refine .seq (.rgn [] (by simp only [go_sem, seval, ar_, a1_]; rfl) ?_ ?_)
 ·first | trivial | simp
 refine .seq (.seq (.rgn [] (by simp only [go_sem, seval, ar_, a1_]; rfl) ?_ ?_))
 ·first | trivial | simp
 refine .condB (by simp only [go_sem, seval, ar_, a1_]; rfl) (by simp only [go_sem, seval, ar_, a1_]) (fun h10 => ?_) (fun h10 => ?_)
 ·refine .seq (.rgn [] (by simp only [go_sem, seval, ar_, a1_]; rfl) ?_ ?_)
  ·first | trivial | simp
  refine .ret ⟨.inr rfl, ?_⟩
  exact Out.plainL (by simp only [Tryz.results60]; rfl) (by simp only [ba_, bs_, go_sem, seval, ar_, a1_] <;> (split <;> rfl)) (by simp only [bq_, go_sem, seval, ar_, a1_] <;> (simp at h10; rw [ks_ (by omega)]; simp [tkR, ler])) (by simp only [go_sem, seval, ar_, a1_])
 ·refine .skip (.seq (.rgn [] (by simp only [go_sem, seval, ar_, a1_]; rfl) ?_ ?_))
  ·first | trivial | simp
  refine .seq (.seq (.rgn [] (by simp only [go_sem, seval, ar_, a1_]; rfl) ?_ ?_))
  ·first | trivial | simp
  refine .block (.loopK (fun k : Nat × List Tk => ⟨[.s s, .no, .no, .no, .ow 20 3 0 k.2.length, .i .i64 k.1, .no, .no, .no, .no, .no, .no, .no, .no, .no, .no, .no, .no, .no, .no, .no, .no, .no, .no, .no, .no, .no, .no, .no, .no, .no, .no, .no, .no, .no, .no, .no, .no, .no, .no, .no, .no, .no, .no, .no, .no, .no, .no, .no, .no, .no, .no, .no, .no, .no, .no, .no], bf_ [(20, ⟨100, 3, tkR k.2⟩)], us [20]⟩) (fun k : Nat × List Tk => k.1 ≤ s.length ∧ s.length ≤ 120 ∧ k.2.length ≤ k.1 ∧ gj_ s.length s 0 = (gj_ (s.drop k.1).length (s.drop k.1) k.1).map (k.2 ++ ·)) (fun k : Nat × List Tk => s.length - k.1) ((0, [])) ?_ ?_ (fun k hI => ?_))
  ·simp at h10; simp; omega
  ·refine Can.trans (Can.ownSlot 4 20 100 3 (by simp only [go_sem, seval, ar_, a1_] <;> rfl) (by simp only [go_sem, seval, ar_, a1_]) (by simp only [go_sem, seval, ar_, a1_] <;> rfl)) ?_
   exact Can.weak (Weak.lit (by simp only [go_sem, seval, ar_, a1_, a2_, leV, az_, ay_, V.inn, us, T9_, Ta_] <;> (rfl)) (by simp only [go_sem, seval, ar_, a1_, a2_, leV, az_, ay_, V.inn, us, T9_, Ta_]) (by simp only [go_sem, seval, ar_, a1_, a2_, leV, az_, ay_, V.inn, us, T9_, Ta_] <;> (rfl)))
  refine .seq (.seq (.rgn [] (by simp only [go_sem, seval, ar_, a1_]; rfl) ?_ ?_))
  ·first | trivial | simp
  refine .condB (by simp only [go_sem, seval, ar_, a1_]; rfl) (by simp only [go_sem, seval, ar_, a1_]) (fun h14 => ?_) (fun h14 => ?_)
  ·refine .skip (.block (.seq (.seq (.rgn [] (by simp only [go_sem, seval, ar_, a1_]; rfl) ?_ ?_))))
   ·simp at h14; simp; exact h14
   refine .condB (by simp only [go_sem, seval, ar_, a1_]; rfl) (by simp only [go_sem, seval, ar_, a1_]) (fun h18 => ?_) (fun h18 => ?_)
   ·refine .seq (.rgn [] (by simp only [go_sem, seval, ar_, a1_]; rfl) ?_ ?_)
    ·first | trivial | simp
    refine .exit ?_
    refine Exists.intro ((k.1 + 1, k.2)) ⟨?_, ?_, ?_⟩
    ·simp only [T3_] at h14; simp only [beq_iff_eq] at h18; obtain ⟨i1, i2, i3, i4⟩ := hI; have e := m5_ (show k.1 < s.length by omega) k.1; rw [if_pos ((hf_ (by omega)).2 h18)] at e; exact ⟨by dsimp only; omega, i2, by dsimp only; omega, by rw [i4, e]; rfl⟩
    ·simp only [T3_] at h14; dsimp only; omega
    exact Can.weak (Weak.lit (by simp only [go_sem, seval, ar_, a1_, a2_, leV, az_, ay_, V.inn, us, T9_, Ta_] <;> (rw [bv_ (by omega) (by omega)]; rfl)) (by simp only [go_sem, seval, ar_, a1_, a2_, leV, az_, ay_, V.inn, us, T9_, Ta_]) (by simp only [go_sem, seval, ar_, a1_, a2_, leV, az_, ay_, V.inn, us, T9_, Ta_]))
   ·refine .skip (.seqJ (fun u : Unit => ⟨[.s s, .no, .no, .no, .ow 20 3 0 k.2.length, .i .i64 k.1, .i .i64 (ea_ (s.drop k.1)), .no, .no, .no, .no, .no, .no, .no, .no, .no, .no, .no, .no, .no, .no, .no, .no, .no, .no, .no, .no, .no, .no, .no, .no, .no, .no, .no, .no, .no, .no, .no, .no, .no, .no, .no, .no, .no, .no, .no, .no, .no, .no, .no, .no, .no, .no, .no, .no, .no, .no], bf_ [(20, ⟨100, 3, tkR k.2⟩)], us [20]⟩) (fun u : Unit => True) ?_ (fun u hJ => ?_))
    ·refine .rgnDS [29] [br_ (abh_ dh_ 119 ot_ (s.drop k.1) (by simp; omega)), br_ (abh_ c3_ 120 x2_ (s.drop k.1) (by simp; omega)), maxO En] enM (by simp only [go_sem, seval, ar_, a1_]; rfl) (by rfl) ?_ ?_
     ·simp at h14; simp; omega
     refine Exists.intro (()) ⟨?_, ?_⟩
     ·trivial
     exact Can.weak (Weak.lit (by simp only [go_sem, seval, ar_, a1_, a2_, leV, az_, ay_, V.inn, us, T9_, Ta_] <;> (rw [ag0_])) (by simp only [go_sem, seval, ar_, a1_, a2_, leV, az_, ay_, V.inn, us, T9_, Ta_]) (by simp only [go_sem, seval, ar_, a1_, a2_, leV, az_, ay_, V.inn, us, T9_, Ta_]))
    refine .seq (.rgnD [br_ (xs_ ((s.drop k.1).take (ea_ (s.drop k.1))) (by simp; omega))] enM (by simp only [go_sem, seval, ar_, a1_, show IntKind.i64.wrap ((k.1 : Int) + (ea_ (s.drop k.1) : Int)) = ((k.1 + ea_ (s.drop k.1) : Nat) : Int) by (have := y0_ (show k.1 < s.length by simpa using h14); rw [bv_ (by omega) (by omega)]; rfl), oh_]; rfl) (by rfl) ?_ ?_)
    ·have h14' : k.1 < s.length := (by simpa using h14); have := y0_ h14'; simp [cm_]; omega
    refine .seq (.seq (.rgn [] (by simp only [go_sem, seval, ar_, a1_]; rfl) ?_ ?_))
    ·first | trivial | simp
    refine .condB (by simp only [go_sem, seval, ar_, a1_]; rfl) (by simp only [go_sem, seval, ar_, a1_]) (fun h47 => ?_) (fun h47 => ?_)
    ·refine .seq (.rgn [] (by simp only [go_sem, seval, ar_, a1_]; rfl) ?_ ?_)
     ·first | trivial | simp
     refine .ret ⟨.inr rfl, ?_⟩
     exact Out.plainL (by simp only [Tryz.results60]; rfl) (by simp only [ba_, bs_, go_sem, seval, ar_, a1_] <;> (split <;> rfl)) (by simp only [bq_, go_sem, seval, ar_, a1_] <;> (simp only [T3_] at h14; simp only [beq_eq_false_iff_ne] at h18; simp only [beq_iff_eq] at h47; have e := m5_ (show k.1 < s.length by omega) k.1; rw [if_neg (fun h => h18 ((hf_ (by omega)).1 h)), if_pos h47] at e; rw [gr_ (by omega), hI.2.2.2, e]; simp [tkR, ler])) (by simp only [go_sem, seval, ar_, a1_])
    ·refine .skip (.seq (.rgn [] (by simp only [go_sem, seval, ar_, a1_]; rfl) ?_ ?_))
     ·simp [y9_]; omega
     refine .rgn [] (by simp only [go_sem, seval, ar_, a1_]; rfl) ?_ ?_
     ·first | trivial | simp
     refine Exists.intro ((k.1 + ea_ (s.drop k.1), k.2 ++ [⟨dn_ ((s.drop k.1).take (ea_ (s.drop k.1))), (s.drop k.1).take (ea_ (s.drop k.1)), k.1⟩])) ⟨?_, ?_, ?_⟩
     ·simp only [T3_] at h14; simp only [beq_eq_false_iff_ne] at h18 h47; obtain ⟨i1, i2, i3, i4⟩ := hI; have e := m5_ (show k.1 < s.length by omega) k.1; rw [if_neg (fun h => h18 ((hf_ (by omega)).1 h)), if_neg h47] at e; have hb := y0_ (show k.1 < s.length by omega); exact ⟨by dsimp only; omega, i2, by simp only [T2_, List.length_singleton]; omega, by rw [i4, e, Option.map_map]; simp [Function.comp_def]⟩
     ·simp only [T3_] at h14; have hb := y0_ (show k.1 < s.length by omega); dsimp only; omega
     refine Can.trans (Can.swap 61 20 (by decide) (by decide) (by decide) (by decide) (by simp only [go_sem, seval, ar_, a1_, V.cl]) (by simp only [go_sem, seval, ar_, a1_, V.cl]) (by simp only [go_sem, seval, ar_, a1_, b9_, sw, swM, rnB] <;> rfl) (by simp only [go_sem, seval, ar_, a1_, b9_, sw, swM, rnB] <;> rfl) (by simp only [go_sem, seval, ar_, a1_, b9_, sw, swM, rnB] <;> rfl)) ?_
     exact Can.weak (Weak.lit (by simp only [go_sem, seval, ar_, a1_, a2_, leV, az_, ay_, V.inn, us, T9_, Ta_] <;> ((have hb := y0_ (show k.1 < s.length by simpa using h14)); rw [bv_ (by omega) (by omega)]; simp)) (by simp only [go_sem, seval, ar_, a1_, a2_, leV, az_, ay_, V.inn, us, T9_, Ta_]) (by simp only [go_sem, seval, ar_, a1_, a2_, leV, az_, ay_, V.inn, us, T9_, Ta_] <;> (rw [oe_])))
  ·refine .exit (.seq (.rgn [eg_ [20] [] (xp_ k.2 k.2.length rfl (by omega))] (by simp only [go_sem, seval, ar_, a1_]; rfl) ?_ ?_))
   ·simp [bn_, bt_, ar_]
   refine .frz 20 (by simp only [go_sem, seval, ar_, a1_]; rfl) (by simp only [go_sem, seval, ar_, a1_]) (by simp only [go_sem, seval, ar_, a1_]; rfl) (by simp only [go_sem, seval, ar_, a1_]; rfl) ?_
   refine .ret ⟨.inr rfl, ?_⟩
   exact Out.plainL (by simp only [Tryz.results60]; rfl) (by simp only [ba_, bs_, go_sem, seval, ar_, a1_] <;> (split <;> rfl)) (by simp only [bq_, go_sem, seval, ar_, a1_] <;> (simp only [T4_] at h14; rw [gr_ (by omega), hI.2.2.2, qk_ (by omega)]; simp [T1_, a1_, leV, bh_])) (by simp only [go_sem, seval, ar_, a1_])
end
end Go.Proofs.YtcigkafioinfoaaGreatDoor
