/- What the exact laws do with pages, and lists of them: size, copies, sameness. Conditions: none. -/
import Derived.Test.YtefmbmafdgedmaaGreatDoorK11
import Derived.Test.YtefmbmafdgedmaaGreatDoorK12
set_option linter.unusedVariables false
set_option linter.unusedSimpArgs false
namespace Go.Proofs.YtefmbmafdgedmaaGreatDoor
section
set_option maxRecDepth 100000
set_option maxHeartbeats 4000000
def bdP (p : Pg) : Bool := decide (p.line.length ≤ 9223372036854775807) && decide (p.text.length ≤ 9223372036854775807) && decide (p.frm.length ≤ 9223372036854775807)
theorem adb_ {p : Pg} (h : bdP p = true) : p.line.length ≤ 9223372036854775807 ∧ p.text.length ≤ 9223372036854775807 ∧ p.frm.length ≤ 9223372036854775807 := by
 simp only [bdP, T5_, T3_] at h; exact ⟨h.1.1, h.1.2, h.2⟩
def szI (l : List Int) (q : Int) : Int := if q - l.length < 0 then -1 else q - l.length
theorem agu_ (l : List Int) (hl : l.length ≤ 9223372036854775807) (q : Int) (h1 : 0 ≤ q) (h2 : q ≤ 1048576) : ACall En 128 [.sl false (inR l), .i .i64 q] [] [.i .i64 (szI l q)] [] := by
 have hw : IntKind.i64.wrap (q - l.length) = q - l.length := bx_ (by omega) (by omega)
 refine ao_ (fn := Tryz.f128) [] Tryz.func128 rfl rfl (by simp) fun C => ?_
 rw [bb_]
 simp only [Tryz.ntmps128, T7_, List.length_nil, Nat.reduceAdd, Nat.reduceSub, List.replicate_succ, List.replicate_zero, List.cons_append, List.nil_append, bu_]
 refine .seq (.rgn [] (by simp only [go_sem, seval, hw, ah_, ac_]; rfl) ?_ ?_)
 ·first | trivial | simp
 refine .seq (.rgn [] (by simp only [go_sem, seval, hw, ah_, ac_]; rfl) ?_ ?_)
 ·first | trivial | simp
 refine .seq (.seq (.rgn [] (by simp only [go_sem, seval, hw, ah_, ac_]; rfl) ?_ ?_))
 ·first | trivial | simp
 refine .condB (by simp only [go_sem, seval, hw, ah_, ac_]; rfl) (by simp only [go_sem, seval, hw, ah_, ac_]) (fun h10 => ?_) (fun h10 => ?_)
 ·refine .seq (.rgn [] (by simp only [go_sem, seval, hw, ah_, ac_]; rfl) ?_ ?_)
  ·first | trivial | simp
  refine .ret ⟨.inr rfl, ?_⟩
  exact Out.plain (by simp only [Tryz.results128]; rfl) (by simp only [bd_, bo_, go_sem, seval, hw, ah_, ac_] <;> (split <;> rfl)) (by simp only [bn_, go_sem, seval, hw, ah_, ac_] <;> (simp only [T3_] at *; rw [szI, if_pos (by assumption)])) (by simp only [go_sem, seval, hw, ah_, ac_])
 ·refine .skip (.seq (.rgn [] (by simp only [go_sem, seval, hw, ah_, ac_]; rfl) ?_ ?_))
  ·first | trivial | simp
  refine .ret ⟨.inr rfl, ?_⟩
  exact Out.plain (by simp only [Tryz.results128]; rfl) (by simp only [bd_, bo_, go_sem, seval, hw, ah_, ac_] <;> (split <;> rfl)) (by simp only [bn_, go_sem, seval, hw, ah_, ac_] <;> (simp only [T4_] at *; rw [szI, if_neg (by assumption)])) (by simp only [go_sem, seval, hw, ah_, ac_])
theorem adk_ (l : List Int) (hl : l.length ≤ 1048576) : ACall En 130 [.sl false (inR l)] [] [.sl false (inR l)] [] := by
 have hp : ∀ k, cw_ (dn_ (inR l) [.i .i64 0] k) = true := fun k => gs_ (ac_ _) rfl
 have h1 : ∀ k j, ((dn_ (inR l) [.i .i64 0] k).getD j []).drop 1 = [] := fun k j => mf_ _ _ (fun r hr => pa_ hr) rfl k j
 refine ao_ (fn := Tryz.f130) [] Tryz.func130 rfl rfl (by simp) fun C => ?_
 rw [bb_]
 simp only [Tryz.ntmps130, T7_, List.length_nil, Nat.reduceAdd, Nat.reduceSub, List.replicate_succ, List.replicate_zero, List.cons_append, List.nil_append, bu_]
 refine .seq (.rgn [] (by simp only [go_sem, seval, hp, h1, av_, ah_, ac_]; rfl) ?_ ?_)
 ·first | trivial | simp
 refine .seq (.rgn [] (by simp only [go_sem, seval, hp, h1, av_, ah_, ac_]; rfl) ?_ ?_)
 ·simp; omega
 refine .seq (.seq (.rgn [] (by simp only [go_sem, seval, hp, h1, av_, ah_, ac_]; rfl) ?_ ?_))
 ·first | trivial | simp
 refine .block (.loopK (fun k : Nat => ⟨[.sl false (inR l), .no, .no, .ow 17 1 0 l.length, .i .i64 k, .no, .no, .no, .no, .no, .no, .no, .no, .no, .no, .no, .no, .no, .no, .no, .no, .no], bk_ [(17, ⟨3, 1, dn_ (inR l) [.i .i64 0] k⟩)], us [17]⟩) (fun k : Nat => k ≤ l.length) (fun k : Nat => l.length - k) (0) ?_ ?_ (fun k hI => ?_))
 ·simp
 ·exact Can.weak (Weak.lit (by simp only [go_sem, seval, hp, h1, av_, ah_, ac_, ay_, leV, aw_, ax_, V.inn, us, T9_, Ta_] <;> (simp)) (by simp only [go_sem, seval, hp, h1, av_, ah_, ac_, ay_, leV, aw_, ax_, V.inn, us, T9_, Ta_]) (by simp only [go_sem, seval, hp, h1, av_, ah_, ac_, ay_, leV, aw_, ax_, V.inn, us, T9_, Ta_] <;> (simp [f6_, ah_])))
 refine .seq (.seq (.rgn [] (by simp only [go_sem, seval, hp, h1, av_, ah_, ac_]; rfl) ?_ ?_))
 ·first | trivial | simp
 refine .condB (by simp only [go_sem, seval, hp, h1, av_, ah_, ac_]; rfl) (by simp only [go_sem, seval, hp, h1, av_, ah_, ac_]) (fun h11 => ?_) (fun h11 => ?_)
 ·refine .skip (.seq (.block (.rgn [] (by simp only [go_sem, seval, hp, h1, av_, ah_, ac_, el_ (show k < l.length by simpa using h11)]; rfl) ?_ ?_)))
  ·simp only [T3_] at h11; simp; omega
  refine .rgn [] (by simp only [go_sem, seval, hp, h1, av_, ah_, ac_]; rfl) ?_ ?_
  ·first | trivial | simp
  refine Exists.intro (k + 1) ⟨?_, ?_, ?_⟩
  ·simp at h11; omega
  ·simp at h11; omega
  exact Can.weak (Weak.lit (by simp only [go_sem, seval, hp, h1, av_, ah_, ac_, ay_, leV, aw_, ax_, V.inn, us, T9_, Ta_] <;> (rw [bx_ (by simp at h11; omega) (by simp at h11; omega)]; simp)) (by simp only [go_sem, seval, hp, h1, av_, ah_, ac_, ay_, leV, aw_, ax_, V.inn, us, T9_, Ta_]) (by simp only [go_sem, seval, hp, h1, av_, ah_, ac_, ay_, leV, aw_, ax_, V.inn, us, T9_, Ta_] <;> (rw [← gm_ (by rw [ah_]; simpa using h11), el_ (by simpa using h11)])))
 ·refine .exit (.seq (.rgn [] (by simp only [go_sem, seval, hp, h1, av_, ah_, ac_]; rfl) ?_ ?_))
  ·first | trivial | simp
  refine .frz 17 (by simp only [go_sem, seval, hp, h1, av_, ah_, ac_]; rfl) (by simp only [go_sem, seval, hp, h1, av_, ah_, ac_]) (by simp only [go_sem, seval, hp, h1, av_, ah_, ac_]; rfl) (by simp only [go_sem, seval, hp, h1, av_, ah_, ac_]; rfl) ?_
  refine .ret ⟨.inr rfl, ?_⟩
  exact Out.plain (by simp only [Tryz.results130]; rfl) (by simp only [bd_, bo_, go_sem, seval, hp, h1, av_, ah_, ac_] <;> (split <;> rfl)) (by simp only [bn_, go_sem, seval, hp, h1, av_, ah_, ac_] <;> (simp at h11; rw [g7_ (by simpa [ah_] using h11)]; simp [T1_, peel, ah_])) (by simp only [go_sem, seval, hp, h1, av_, ah_, ac_])
def szP (p : Pg) (l : Int) : Int := if l - p.line.length < 0 then -1 else if l - p.line.length - p.text.length < 0 then -1 else szI p.frm (l - p.line.length - p.text.length)
theorem ag3_ (f : List Int) (l : Int) (h : -1 ≤ l) : -1 ≤ szI f l ∧ szI f l ≤ l := by unfold szI; split <;> omega
theorem ad9_ (p : Pg) (l : Int) (h : -1 ≤ l) : -1 ≤ szP p l ∧ szP p l ≤ l := by
 unfold szP
 split
 ·omega
 ·split
  ·omega
  ·have h1 := ag3_ p.frm (l - p.line.length - p.text.length) (by omega)
   omega
theorem alz_ {p : Pg} {l : Int} (hl : l ≤ 1048576) (h0 : -1 ≤ l) (h : 0 ≤ szP p l) : pgB p ∧ p.frm.length ≤ 1048576 := by
 unfold szP szI at h
 split at h
 ·omega
 ·split at h
  ·omega
  ·split at h
   ·omega
   ·exact ⟨⟨by omega, by omega, by omega⟩, by omega⟩
theorem aek_ (p : Pg) (hb : bdP p = true) (l : Int) (h1 : 0 ≤ l) (h2 : l ≤ 1048576) : ACall En 77 [.ag (pgC p), .i .i64 l] [] [.i .i64 (szP p l)] [] := by
 obtain ⟨b1, b2, b3⟩ := adb_ hb
 have hw : IntKind.i64.wrap (l - p.line.length) = l - p.line.length := bx_ (by omega) (by omega)
 refine ao_ (fn := Tryz.f77) [] Tryz.func77 rfl rfl (by simp) fun C => ?_
 rw [bb_]
 simp only [Tryz.ntmps77, T7_, List.length_nil, Nat.reduceAdd, Nat.reduceSub, List.replicate_succ, List.replicate_zero, List.cons_append, List.nil_append, bu_]
 refine .seq (.rgn [] (by simp only [go_sem, seval, hw, aj_, ac_]; rfl) ?_ ?_)
 ·first | trivial | simp
 refine .seq (.rgn [] (by simp only [go_sem, seval, hw, aj_, ac_]; rfl) ?_ ?_)
 ·first | trivial | simp
 refine .seq (.seq (.rgn [] (by simp only [go_sem, seval, hw, aj_, ac_]; rfl) ?_ ?_))
 ·first | trivial | simp
 refine .condB (by simp only [go_sem, seval, hw, aj_, ac_]; rfl) (by simp only [go_sem, seval, hw, aj_, ac_]) (fun h11 => ?_) (fun h11 => ?_)
 ·refine .seq (.rgn [] (by simp only [go_sem, seval, hw, aj_, ac_]; rfl) ?_ ?_)
  ·first | trivial | simp
  refine .ret ⟨.inr rfl, ?_⟩
  exact Out.plain (by simp only [Tryz.results77]; rfl) (by simp only [bd_, bo_, go_sem, seval, hw, aj_, ac_] <;> (split <;> rfl)) (by simp only [bn_, go_sem, seval, hw, aj_, ac_] <;> (simp only [T3_] at h11; rw [szP, if_pos h11])) (by simp only [go_sem, seval, hw, aj_, ac_])
 ·refine .skip (.seq (.rgn [] (by simp only [go_sem, seval, hw, aj_, ac_, bx_ (show -9223372036854775808 ≤ l - (p.line.length : Int) - p.text.length by simp only [T4_] at h11; omega) (by omega)]; rfl) ?_ ?_))
  ·first | trivial | simp
  refine .seq (.seq (.rgn [] (by simp only [go_sem, seval, hw, aj_, ac_]; rfl) ?_ ?_))
  ·first | trivial | simp
  refine .condB (by simp only [go_sem, seval, hw, aj_, ac_]; rfl) (by simp only [go_sem, seval, hw, aj_, ac_]) (fun h18 => ?_) (fun h18 => ?_)
  ·refine .seq (.rgn [] (by simp only [go_sem, seval, hw, aj_, ac_]; rfl) ?_ ?_)
   ·first | trivial | simp
   refine .ret ⟨.inr rfl, ?_⟩
   exact Out.plain (by simp only [Tryz.results77]; rfl) (by simp only [bd_, bo_, go_sem, seval, hw, aj_, ac_] <;> (split <;> rfl)) (by simp only [bn_, go_sem, seval, hw, aj_, ac_] <;> (simp only [T3_, T4_] at h11 h18; rw [szP, if_neg h11, if_pos h18])) (by simp only [go_sem, seval, hw, aj_, ac_])
  ·refine .skip (.seq (.rgn [dc_ (0 ≤ l - (p.line.length : Int) - p.text.length) (fun h => agu_ p.frm b3 (l - p.line.length - p.text.length) h (by omega))] (by simp only [go_sem, seval, hw, aj_, ac_]; rfl) ?_ ?_))
   ·simp only [T4_] at h11 h18; simp; omega
   refine .seq (.seq (.rgn [] (by simp only [go_sem, seval, hw, aj_, ac_]; rfl) ?_ ?_))
   ·first | trivial | simp
   refine .condB (by simp only [go_sem, seval, hw, aj_, ac_]; rfl) (by simp only [go_sem, seval, hw, aj_, ac_]) (fun h24 => ?_) (fun h24 => ?_)
   ·refine .seq (.rgn [] (by simp only [go_sem, seval, hw, aj_, ac_]; rfl) ?_ ?_)
    ·first | trivial | simp
    refine .ret ⟨.inr rfl, ?_⟩
    exact Out.plain (by simp only [Tryz.results77]; rfl) (by simp only [bd_, bo_, go_sem, seval, hw, aj_, ac_] <;> (split <;> rfl)) (by simp only [bn_, go_sem, seval, hw, aj_, ac_] <;> (simp only [T3_, T4_] at h11 h18 h24; rw [szP, if_neg h11, if_neg h18]; have := ag3_ p.frm (l - p.line.length - p.text.length) (by omega); congr 1; congr 1; omega)) (by simp only [go_sem, seval, hw, aj_, ac_])
   ·refine .skip (.seq (.rgn [] (by simp only [go_sem, seval, hw, aj_, ac_]; rfl) ?_ ?_))
    ·first | trivial | simp
    refine .ret ⟨.inr rfl, ?_⟩
    exact Out.plain (by simp only [Tryz.results77]; rfl) (by simp only [bd_, bo_, go_sem, seval, hw, aj_, ac_] <;> (split <;> rfl)) (by simp only [bn_, go_sem, seval, hw, aj_, ac_] <;> (simp only [T3_, T4_] at h11 h18 h24; rw [szP, if_neg h11, if_neg h18])) (by simp only [go_sem, seval, hw, aj_, ac_])
theorem afy_ (p : Pg) (hs : p.frm.length ≤ 1048576) : ACall En 81 [.ag (pgC p)] [] [.ag (pgC p)] [] := by
 refine ao_ (fn := Tryz.f81) [] Tryz.func81 rfl rfl (by simp) fun C => ?_
 rw [bb_]
 simp only [Tryz.ntmps81, T7_, List.length_nil, Nat.reduceAdd, Nat.reduceSub, List.replicate_succ, List.replicate_zero, List.cons_append, List.nil_append, bu_]
 refine .seq (.rgn [] (by simp only [go_sem, seval, aj_, ac_]; rfl) ?_ ?_)
 ·first | trivial | simp
 refine .seq (.rgn [] (by simp only [go_sem, seval, aj_, ac_]; rfl) ?_ ?_)
 ·first | trivial | simp
 refine .seq (.rgn [] (by simp only [go_sem, seval, aj_, ac_]; rfl) ?_ ?_)
 ·first | trivial | simp
 refine .seq (.rgn [] (by simp only [go_sem, seval, aj_, ac_]; rfl) ?_ ?_)
 ·first | trivial | simp
 refine .seq (.rgn [] (by simp only [go_sem, seval, aj_, ac_]; rfl) ?_ ?_)
 ·first | trivial | simp
 refine .seq (.rgn [bj_ (adk_ p.frm hs)] (by simp only [go_sem, seval, aj_, ac_]; rfl) ?_ ?_)
 ·first | trivial | simp
 refine .seq (.rgn [] (by simp only [go_sem, seval, aj_, ac_]; rfl) ?_ ?_)
 ·first | trivial | simp
 refine .ret ⟨.inr rfl, ?_⟩
 exact Out.plain (by simp only [Tryz.results81]; rfl) (by simp only [bd_, bo_, go_sem, seval, aj_, ac_] <;> (split <;> rfl)) (by simp only [bn_, go_sem, seval, aj_, ac_] <;> (rfl)) (by simp only [go_sem, seval, aj_, ac_])
/-! lists -/
def ow_ : List Pg → Int → Int
 | [], l => l
 | s :: r, l => if szP s l < 0 then -1 else ow_ r (szP s l)
def lt_ (l : List Pg) (q : Int) : Int := if q - l.length < 0 then -1 else ow_ l (q - l.length)
theorem zk_ : ∀ (r : List Pg) (l : Int), -1 ≤ l → l ≤ 1048576 → 0 ≤ ow_ r l → ∀ p ∈ r, pgB p ∧ p.frm.length ≤ 1048576
 | [], _, _, _, _ => fun p hp => by cases hp
 | s :: r, l, h0, hl, h => by
  simp only [ow_] at h
  have h1 := ad9_ s l h0
  split at h
  ·omega
  ·intro p hp
   rcases List.mem_cons.1 hp with rfl | hp
   ·exact alz_ hl h0 (by omega)
   ·exact zk_ r (szP s l) (by omega) (by omega) h p hp
theorem up_ {l : List Pg} (h : 0 ≤ lt_ l 1048576) : (∀ p ∈ l, pgB p ∧ p.frm.length ≤ 1048576) ∧ l.length ≤ 1048576 := by
 unfold lt_ at h
 split at h
 ·omega
 ·exact ⟨zk_ l _ (by omega) (by omega) h, by omega⟩
theorem r8_ {l : List Pg} {k : Nat} (h : k < l.length) (q : Int) : ow_ (l.drop k) q = if szP (l.getD k Pg0) q < 0 then -1 else ow_ (l.drop (k + 1)) (szP (l.getD k Pg0) q) := by
 rw [List.drop_eq_getElem_cons h, T8_, T6_ h]; simp only [ow_, Option.getD_some]
theorem n5_ (l : List Pg) (hb : ∀ s ∈ l, bdP s = true) (hl : l.length ≤ 9223372036854775807) (q : Int) (h1 : 0 ≤ q) (h2 : q ≤ 1048576) : ACall En 29 [.sl false (pgR l), .i .i64 q] [] [.i .i64 (lt_ l q)] [] := by
 have hw : IntKind.i64.wrap (q - l.length) = q - l.length := bx_ (by omega) (by omega)
 refine ao_ (fn := Tryz.f29) [] Tryz.func29 rfl rfl (by simp) fun C => ?_
 rw [bb_]
 simp only [Tryz.ntmps29, T7_, List.length_nil, Nat.reduceAdd, Nat.reduceSub, List.replicate_succ, List.replicate_zero, List.cons_append, List.nil_append, bu_]
 refine .seq (.rgn [] (by simp only [go_sem, seval, hw, ae_, ad_, aj_, ac_]; rfl) ?_ ?_)
 ·first | trivial | simp
 refine .seq (.rgn [] (by simp only [go_sem, seval, hw, ae_, ad_, aj_, ac_]; rfl) ?_ ?_)
 ·first | trivial | simp
 refine .seq (.seq (.rgn [] (by simp only [go_sem, seval, hw, ae_, ad_, aj_, ac_]; rfl) ?_ ?_))
 ·first | trivial | simp
 refine .condB (by simp only [go_sem, seval, hw, ae_, ad_, aj_, ac_]; rfl) (by simp only [go_sem, seval, hw, ae_, ad_, aj_, ac_]) (fun h11 => ?_) (fun h11 => ?_)
 ·refine .seq (.rgn [] (by simp only [go_sem, seval, hw, ae_, ad_, aj_, ac_]; rfl) ?_ ?_)
  ·first | trivial | simp
  refine .ret ⟨.inr rfl, ?_⟩
  exact Out.plain (by simp only [Tryz.results29]; rfl) (by simp only [bd_, bo_, go_sem, seval, hw, ae_, ad_, aj_, ac_] <;> (split <;> rfl)) (by simp only [bn_, go_sem, seval, hw, ae_, ad_, aj_, ac_] <;> (simp at h11; simp [lt_, h11])) (by simp only [go_sem, seval, hw, ae_, ad_, aj_, ac_])
 ·refine .skip (.seq (.seq (.rgn [] (by simp only [go_sem, seval, hw, ae_, ad_, aj_, ac_]; rfl) ?_ ?_)))
  ·first | trivial | simp
  refine .block (.loopK (fun k : Nat × Int => ⟨[.sl false (pgR l), .i .i64 k.2, .no, .no, .no, .i .i64 k.1, .no, .no, .no, .no, .no, .no, .no, .no, .no, .no, .no, .no, .no, .no, .no, .no, .no, .no, .no, .no, .no], bk_ [], us []⟩) (fun k : Nat × Int => k.1 ≤ l.length ∧ 0 ≤ k.2 ∧ k.2 ≤ 1048576 ∧ lt_ l q = ow_ (l.drop k.1) k.2) (fun k : Nat × Int => l.length - k.1) ((0, q - l.length)) ?_ ?_ (fun k hI => ?_))
  ·simp at h11; simp [lt_, show ¬ (q - (l.length : Int) < 0) by omega]; omega
  ·exact Can.weak (Weak.lit (by simp only [go_sem, seval, hw, ae_, ad_, aj_, ac_, ay_, leV, aw_, ax_, V.inn, us, T9_, Ta_] <;> (simp)) (by simp only [go_sem, seval, hw, ae_, ad_, aj_, ac_, ay_, leV, aw_, ax_, V.inn, us, T9_, Ta_]) (by simp only [go_sem, seval, hw, ae_, ad_, aj_, ac_, ay_, leV, aw_, ax_, V.inn, us, T9_, Ta_]))
  refine .seq (.seq (.rgn [] (by simp only [go_sem, seval, hw, ae_, ad_, aj_, ac_]; rfl) ?_ ?_))
  ·first | trivial | simp
  refine .condB (by simp only [go_sem, seval, hw, ae_, ad_, aj_, ac_]; rfl) (by simp only [go_sem, seval, hw, ae_, ad_, aj_, ac_]) (fun h15 => ?_) (fun h15 => ?_)
  ·refine .skip (.seq (.block (.seq (.rgn [dc_ (k.1 < l.length ∧ 0 ≤ k.2 ∧ k.2 ≤ 1048576) (fun h => aek_ (l.getD k.1 Pg0) (hb _ (b3_ h.1)) k.2 h.2.1 h.2.2)] (by simp only [go_sem, seval, hw, ae_, ad_, aj_, ac_, eg_ (show k.1 < l.length by simpa using h15)]; rfl) ?_ ?_))))
   ·simp only [T3_] at h15; simp; omega
   refine .seq (.rgn [] (by simp only [go_sem, seval, hw, ae_, ad_, aj_, ac_]; rfl) ?_ ?_)
   ·first | trivial | simp
   refine .condB (by simp only [go_sem, seval, hw, ae_, ad_, aj_, ac_]; rfl) (by simp only [go_sem, seval, hw, ae_, ad_, aj_, ac_]) (fun h25 => ?_) (fun h25 => ?_)
   ·refine .seq (.rgn [] (by simp only [go_sem, seval, hw, ae_, ad_, aj_, ac_]; rfl) ?_ ?_)
    ·first | trivial | simp
    refine .ret ⟨.inr rfl, ?_⟩
    exact Out.plain (by simp only [Tryz.results29]; rfl) (by simp only [bd_, bo_, go_sem, seval, hw, ae_, ad_, aj_, ac_] <;> (split <;> rfl)) (by simp only [bn_, go_sem, seval, hw, ae_, ad_, aj_, ac_] <;> (simp at h15; simp only [T3_] at h25; have e1 := r8_ h15 k.2; rw [if_pos h25] at e1; rw [hI.2.2.2, e1])) (by simp only [go_sem, seval, hw, ae_, ad_, aj_, ac_])
   ·refine .skip (.rgn [] (by simp only [go_sem, seval, hw, ae_, ad_, aj_, ac_]; rfl) ?_ ?_)
    ·first | trivial | simp
    refine Exists.intro ((k.1 + 1, szP (l.getD k.1 Pg0) k.2)) ⟨?_, ?_, ?_⟩
    ·simp at h15; simp only [T4_] at h25; have e1 := r8_ h15 k.2; have e2 := ad9_ (l.getD k.1 Pg0) k.2 (by omega); rw [if_neg (by omega)] at e1; exact ⟨by dsimp only; omega, by dsimp only; omega, by dsimp only; omega, by rw [hI.2.2.2, e1]⟩
    ·simp at h15; simp; omega
    exact Can.weak (Weak.lit (by simp only [go_sem, seval, hw, ae_, ad_, aj_, ac_, ay_, leV, aw_, ax_, V.inn, us, T9_, Ta_] <;> (rw [bx_ (by simp at h15; omega) (by simp at h15; omega)]; simp)) (by simp only [go_sem, seval, hw, ae_, ad_, aj_, ac_, ay_, leV, aw_, ax_, V.inn, us, T9_, Ta_]) (by simp only [go_sem, seval, hw, ae_, ad_, aj_, ac_, ay_, leV, aw_, ax_, V.inn, us, T9_, Ta_]))
  ·refine .exit (.seq (.rgn [] (by simp only [go_sem, seval, hw, ae_, ad_, aj_, ac_]; rfl) ?_ ?_))
   ·first | trivial | simp
   refine .ret ⟨.inr rfl, ?_⟩
   exact Out.plain (by simp only [Tryz.results29]; rfl) (by simp only [bd_, bo_, go_sem, seval, hw, ae_, ad_, aj_, ac_] <;> (split <;> rfl)) (by simp only [bn_, go_sem, seval, hw, ae_, ad_, aj_, ac_] <;> (simp at h15; rw [hI.2.2.2, List.drop_of_length_le h15]; rfl)) (by simp only [go_sem, seval, hw, ae_, ad_, aj_, ac_])
theorem fk_ (l : List Pg) (hs : ∀ p ∈ l, p.frm.length ≤ 1048576) (hl : l.length ≤ 1048576) : ACall En 31 [.sl false (pgR l)] [] [.sl false (pgR l)] [] := by
 have hp : ∀ k, cw_ (dn_ (pgR l) zPg k) = true := fun k => gs_ (ad_ _) rfl
 have hd : ∀ k j, ((dn_ (pgR l) zPg k).getD j []).drop 4 = [] := fun k j => filP l k j
 refine ao_ (fn := Tryz.f31) [] Tryz.func31 rfl rfl (by simp) fun C => ?_
 rw [bb_]
 simp only [Tryz.ntmps31, T7_, List.length_nil, Nat.reduceAdd, Nat.reduceSub, List.replicate_succ, List.replicate_zero, List.cons_append, List.nil_append, bu_]
 refine .seq (.rgn [] (by simp only [go_sem, seval, hp, hd, av_, ae_, aj_, ad_, ac_]; rfl) ?_ ?_)
 ·first | trivial | simp
 refine .seq (.rgn [] (by simp only [go_sem, seval, hp, hd, av_, ae_, aj_, ad_, ac_]; rfl) ?_ ?_)
 ·simp; omega
 refine .seq (.seq (.rgn [] (by simp only [go_sem, seval, hp, hd, av_, ae_, aj_, ad_, ac_]; rfl) ?_ ?_))
 ·first | trivial | simp
 refine .block (.loopK (fun k : Nat => ⟨[.sl false (pgR l), .no, .no, .ow 17 4 0 l.length, .i .i64 k, .no, .no, .no, .no, .no, .no, .no, .no, .no, .no, .no, .no, .no, .no, .no, .no, .no, .no], bk_ [(17, ⟨99, 4, dn_ (pgR l) zPg k⟩)], us [17]⟩) (fun k : Nat => k ≤ l.length) (fun k : Nat => l.length - k) (0) ?_ ?_ (fun k hI => ?_))
 ·simp
 ·exact Can.weak (Weak.lit (by simp only [go_sem, seval, hp, hd, av_, ae_, aj_, ad_, ac_, ay_, leV, aw_, ax_, V.inn, us, T9_, Ta_] <;> (simp)) (by simp only [go_sem, seval, hp, hd, av_, ae_, aj_, ad_, ac_, ay_, leV, aw_, ax_, V.inn, us, T9_, Ta_]) (by simp only [go_sem, seval, hp, hd, av_, ae_, aj_, ad_, ac_, ay_, leV, aw_, ax_, V.inn, us, T9_, Ta_] <;> (simp [f6_, zPg, ae_])))
 refine .seq (.seq (.rgn [] (by simp only [go_sem, seval, hp, hd, av_, ae_, aj_, ad_, ac_]; rfl) ?_ ?_))
 ·first | trivial | simp
 refine .condB (by simp only [go_sem, seval, hp, hd, av_, ae_, aj_, ad_, ac_]; rfl) (by simp only [go_sem, seval, hp, hd, av_, ae_, aj_, ad_, ac_]) (fun h11 => ?_) (fun h11 => ?_)
 ·refine .skip (.seq (.block (.rgn [dc_ (k < l.length) (fun h => afy_ (l.getD k Pg0) (hs _ (b3_ h)))] (by simp only [go_sem, seval, hp, hd, av_, ae_, aj_, ad_, ac_, eg_ (show k < l.length by simpa using h11)]; rfl) ?_ ?_)))
  ·simp only [T3_] at h11; simp; omega
  refine .rgn [] (by simp only [go_sem, seval, hp, hd, av_, ae_, aj_, ad_, ac_]; rfl) ?_ ?_
  ·first | trivial | simp
  refine Exists.intro (k + 1) ⟨?_, ?_, ?_⟩
  ·simp at h11; omega
  ·simp at h11; omega
  exact Can.weak (Weak.lit (by simp only [go_sem, seval, hp, hd, av_, ae_, aj_, ad_, ac_, ay_, leV, aw_, ax_, V.inn, us, T9_, Ta_] <;> (rw [bx_ (by simp at h11; omega) (by simp at h11; omega)]; simp)) (by simp only [go_sem, seval, hp, hd, av_, ae_, aj_, ad_, ac_, ay_, leV, aw_, ax_, V.inn, us, T9_, Ta_]) (by simp only [go_sem, seval, hp, hd, av_, ae_, aj_, ad_, ac_, ay_, leV, aw_, ax_, V.inn, us, T9_, Ta_] <;> (rw [← gm_ (by rw [ae_]; simpa using h11), eg_ (by simpa using h11), aj_])))
 ·refine .exit (.seq (.rgn [] (by simp only [go_sem, seval, hp, hd, av_, ae_, aj_, ad_, ac_]; rfl) ?_ ?_))
  ·first | trivial | simp
  refine .frz 17 (by simp only [go_sem, seval, hp, hd, av_, ae_, aj_, ad_, ac_]; rfl) (by simp only [go_sem, seval, hp, hd, av_, ae_, aj_, ad_, ac_]) (by simp only [go_sem, seval, hp, hd, av_, ae_, aj_, ad_, ac_]; rfl) (by simp only [go_sem, seval, hp, hd, av_, ae_, aj_, ad_, ac_]; rfl) ?_
  refine .ret ⟨.inr rfl, ?_⟩
  exact Out.plain (by simp only [Tryz.results31]; rfl) (by simp only [bd_, bo_, go_sem, seval, hp, hd, av_, ae_, aj_, ad_, ac_] <;> (split <;> rfl)) (by simp only [bn_, go_sem, seval, hp, hd, av_, ae_, aj_, ad_, ac_] <;> (simp at h11; rw [g7_ (by simpa [ae_] using h11)]; simp [T1_, peel, ae_])) (by simp only [go_sem, seval, hp, hd, av_, ae_, aj_, ad_, ac_])
theorem abi_ (p q : Pg) (hp : p.frm.length ≤ 1000000000000) (hq : q.frm.length ≤ 1000000000000) : ACall En 73 [.ag (pgC p), .ag (pgC q)] [] [.b (decide (p = q))] [] := by
 have T := @ami_ p q
 refine ao_ (fn := Tryz.f73) [] Tryz.func73 rfl rfl (by simp) fun C => ?_
 rw [bb_]
 simp only [Tryz.ntmps73, T7_, List.length_nil, Nat.reduceAdd, Nat.reduceSub, List.replicate_succ, List.replicate_zero, List.cons_append, List.nil_append, bu_]
 refine .seq (.rgn [] (by simp only [go_sem, seval, aj_, ac_, ah_]; rfl) ?_ ?_)
 ·first | trivial | simp
 refine .seq (.seq (.rgn [] (by simp only [go_sem, seval, aj_, ac_, ah_]; rfl) ?_ ?_))
 ·first | trivial | simp
 refine .condB (by simp only [go_sem, seval, aj_, ac_, ah_]; rfl) (by simp only [go_sem, seval, aj_, ac_, ah_]) (fun h9 => ?_) (fun h9 => ?_)
 ·refine .seq (.rgn [] (by simp only [go_sem, seval, aj_, ac_, ah_]; rfl) ?_ ?_)
  ·first | trivial | simp
  refine .ret ⟨.inr rfl, ?_⟩
  exact Out.plain (by simp only [Tryz.results73]; rfl) (by simp only [bd_, bo_, go_sem, seval, aj_, ac_, ah_] <;> (split <;> rfl)) (by simp only [bn_, go_sem, seval, aj_, ac_, ah_] <;> (rw [decide_eq_false (fun e => by rw [e] at h9; simp at h9)])) (by simp only [go_sem, seval, aj_, ac_, ah_])
 ·refine .skip (.seq (.seq (.rgn [] (by simp only [go_sem, seval, aj_, ac_, ah_]; rfl) ?_ ?_)))
  ·first | trivial | simp
  refine .condB (by simp only [go_sem, seval, aj_, ac_, ah_]; rfl) (by simp only [go_sem, seval, aj_, ac_, ah_]) (fun h14 => ?_) (fun h14 => ?_)
  ·refine .seq (.rgn [] (by simp only [go_sem, seval, aj_, ac_, ah_]; rfl) ?_ ?_)
   ·first | trivial | simp
   refine .ret ⟨.inr rfl, ?_⟩
   exact Out.plain (by simp only [Tryz.results73]; rfl) (by simp only [bd_, bo_, go_sem, seval, aj_, ac_, ah_] <;> (split <;> rfl)) (by simp only [bn_, go_sem, seval, aj_, ac_, ah_] <;> (rw [decide_eq_false (fun e => by rw [e] at h14; simp at h14)])) (by simp only [go_sem, seval, aj_, ac_, ah_])
  ·refine .skip (.seq (.seq (.rgn [] (by simp only [go_sem, seval, aj_, ac_, ah_]; rfl) ?_ ?_)))
   ·first | trivial | simp
   refine .condB (by simp only [go_sem, seval, aj_, ac_, ah_]; rfl) (by simp only [go_sem, seval, aj_, ac_, ah_]) (fun h19 => ?_) (fun h19 => ?_)
   ·refine .seq (.rgn [] (by simp only [go_sem, seval, aj_, ac_, ah_]; rfl) ?_ ?_)
    ·first | trivial | simp
    refine .ret ⟨.inr rfl, ?_⟩
    exact Out.plain (by simp only [Tryz.results73]; rfl) (by simp only [bd_, bo_, go_sem, seval, aj_, ac_, ah_] <;> (split <;> rfl)) (by simp only [bn_, go_sem, seval, aj_, ac_, ah_] <;> (rw [decide_eq_false (fun e => by rw [e] at h19; simp at h19)])) (by simp only [go_sem, seval, aj_, ac_, ah_])
   ·refine .skip (.seq (.seq (.rgn [bj_ (agg_ p.frm q.frm (by omega) (by omega))] (by simp only [go_sem, seval, aj_, ac_, ah_]; rfl) ?_ ?_)))
    ·first | trivial | simp
    refine .condB (by simp only [go_sem, seval, aj_, ac_, ah_]; rfl) (by simp only [go_sem, seval, aj_, ac_, ah_]) (fun h25 => ?_) (fun h25 => ?_)
    ·refine .seq (.rgn [] (by simp only [go_sem, seval, aj_, ac_, ah_]; rfl) ?_ ?_)
     ·first | trivial | simp
     refine .ret ⟨.inr rfl, ?_⟩
     exact Out.plain (by simp only [Tryz.results73]; rfl) (by simp only [bd_, bo_, go_sem, seval, aj_, ac_, ah_] <;> (split <;> rfl)) (by simp only [bn_, go_sem, seval, aj_, ac_, ah_] <;> (rw [decide_eq_false (fun e => by rw [e] at h25; simp at h25)])) (by simp only [go_sem, seval, aj_, ac_, ah_])
    ·refine .skip (.seq (.rgn [] (by simp only [go_sem, seval, aj_, ac_, ah_]; rfl) ?_ ?_))
     ·first | trivial | simp
     refine .ret ⟨.inr rfl, ?_⟩
     exact Out.plain (by simp only [Tryz.results73]; rfl) (by simp only [bd_, bo_, go_sem, seval, aj_, ac_, ah_] <;> (split <;> rfl)) (by simp only [bn_, go_sem, seval, aj_, ac_, ah_] <;> (rw [decide_eq_true (T.2 ⟨by simpa using h9, by simpa using h14, by simpa using h19, by simpa using h25⟩)])) (by simp only [go_sem, seval, aj_, ac_, ah_])
theorem aj7_ {a b : List Pg} {k : Nat} (ha : k < a.length) (hb : k < b.length) (h : a.take k = b.take k) (e : a.getD k Pg0 = b.getD k Pg0) : a.take (k + 1) = b.take (k + 1) := mc_ ha hb h e
theorem ec_ (a b : List Pg) (ha : ∀ p ∈ a, p.frm.length ≤ 1000000000000) (hb : ∀ p ∈ b, p.frm.length ≤ 1000000000000) (la : a.length ≤ 1048576) (lb : b.length ≤ 1048576) : ACall En 26 [.sl false (pgR a), .sl false (pgR b)] [] [.b (decide (a = b))] [] := by
 refine ao_ (fn := Tryz.f26) [] Tryz.func26 rfl rfl (by simp) fun C => ?_
 rw [bb_]
 simp only [Tryz.ntmps26, T7_, List.length_nil, Nat.reduceAdd, Nat.reduceSub, List.replicate_succ, List.replicate_zero, List.cons_append, List.nil_append, bu_]
 refine .seq (.rgn [] (by simp only [go_sem, seval, ae_, ad_, aj_, ac_]; rfl) ?_ ?_)
 ·first | trivial | simp
 refine .seq (.seq (.rgn [] (by simp only [go_sem, seval, ae_, ad_, aj_, ac_]; rfl) ?_ ?_))
 ·first | trivial | simp
 refine .condB (by simp only [go_sem, seval, ae_, ad_, aj_, ac_]; rfl) (by simp only [go_sem, seval, ae_, ad_, aj_, ac_]) (fun h10 => ?_) (fun h10 => ?_)
 ·refine .seq (.rgn [] (by simp only [go_sem, seval, ae_, ad_, aj_, ac_]; rfl) ?_ ?_)
  ·first | trivial | simp
  refine .ret ⟨.inr rfl, ?_⟩
  exact Out.plain (by simp only [Tryz.results26]; rfl) (by simp only [bd_, bo_, go_sem, seval, ae_, ad_, aj_, ac_] <;> (split <;> rfl)) (by simp only [bn_, go_sem, seval, ae_, ad_, aj_, ac_] <;> (simp at h10; have h : ¬ a = b := (fun e => h10 (by rw [e])); simp [h])) (by simp only [go_sem, seval, ae_, ad_, aj_, ac_])
 ·refine .skip (.seq (.seq (.rgn [] (by simp only [go_sem, seval, ae_, ad_, aj_, ac_]; rfl) ?_ ?_)))
  ·first | trivial | simp
  refine .block (.loopK (fun k : Nat => ⟨[.sl false (pgR a), .sl false (pgR b), .no, .no, .no, .i .i64 k, .no, .no, .no, .no, .no, .no, .no, .no, .no, .no, .no, .no, .no, .no, .no, .no, .no, .no, .no, .no, .no], bk_ [], us []⟩) (fun k : Nat => k ≤ a.length ∧ a.take k = b.take k) (fun k : Nat => a.length - k) (0) ?_ ?_ (fun k hI => ?_))
  ·simp
  ·exact Can.weak (Weak.lit (by simp only [go_sem, seval, ae_, ad_, aj_, ac_, ay_, leV, aw_, ax_, V.inn, us, T9_, Ta_] <;> (simp)) (by simp only [go_sem, seval, ae_, ad_, aj_, ac_, ay_, leV, aw_, ax_, V.inn, us, T9_, Ta_]) (by simp only [go_sem, seval, ae_, ad_, aj_, ac_, ay_, leV, aw_, ax_, V.inn, us, T9_, Ta_]))
  refine .seq (.seq (.rgn [] (by simp only [go_sem, seval, ae_, ad_, aj_, ac_]; rfl) ?_ ?_))
  ·first | trivial | simp
  refine .condB (by simp only [go_sem, seval, ae_, ad_, aj_, ac_]; rfl) (by simp only [go_sem, seval, ae_, ad_, aj_, ac_]) (fun h14 => ?_) (fun h14 => ?_)
  ·refine .skip (.seq (.block (.seq (.rgnD [dc_ (k < a.length ∧ k < b.length) (fun h => abi_ (a.getD k Pg0) (b.getD k Pg0) (ha _ (b3_ h.1)) (hb _ (b3_ h.2)))] enM (by simp only [go_sem, seval, ae_, ad_, aj_, ac_, eg_ (show k < a.length by simpa using h14), eg_ (show k < b.length by simp at h14 h10; omega)]; rfl) (by rfl) ?_ ?_))))
   ·simp at h14 h10; simp; omega
   refine .condB (by simp only [go_sem, seval, ae_, ad_, aj_, ac_]; rfl) (by simp only [go_sem, seval, ae_, ad_, aj_, ac_]) (fun h26 => ?_) (fun h26 => ?_)
   ·refine .seq (.rgn [] (by simp only [go_sem, seval, ae_, ad_, aj_, ac_]; rfl) ?_ ?_)
    ·first | trivial | simp
    refine .ret ⟨.inr rfl, ?_⟩
    exact Out.plain (by simp only [Tryz.results26]; rfl) (by simp only [bd_, bo_, go_sem, seval, ae_, ad_, aj_, ac_] <;> (split <;> rfl)) (by simp only [bn_, go_sem, seval, ae_, ad_, aj_, ac_] <;> (simp at h14 h10; have h : ¬ a = b := (fun e => by rw [e] at h26; simp at h26); simp [h])) (by simp only [go_sem, seval, ae_, ad_, aj_, ac_])
   ·refine .skip (.rgn [] (by simp only [go_sem, seval, ae_, ad_, aj_, ac_]; rfl) ?_ ?_)
    ·first | trivial | simp
    refine Exists.intro (k + 1) ⟨?_, ?_, ?_⟩
    ·simp at h14 h10; exact ⟨by omega, aj7_ h14 (by omega) hI.2 (by simpa using h26)⟩
    ·simp at h14; omega
    exact Can.weak (Weak.lit (by simp only [go_sem, seval, ae_, ad_, aj_, ac_, ay_, leV, aw_, ax_, V.inn, us, T9_, Ta_] <;> (rw [bx_ (by simp at h14; omega) (by simp at h14; omega)]; simp)) (by simp only [go_sem, seval, ae_, ad_, aj_, ac_, ay_, leV, aw_, ax_, V.inn, us, T9_, Ta_]) (by simp only [go_sem, seval, ae_, ad_, aj_, ac_, ay_, leV, aw_, ax_, V.inn, us, T9_, Ta_]))
  ·refine .exit (.seq (.rgn [] (by simp only [go_sem, seval, ae_, ad_, aj_, ac_]; rfl) ?_ ?_))
   ·first | trivial | simp
   refine .ret ⟨.inr rfl, ?_⟩
   exact Out.plain (by simp only [Tryz.results26]; rfl) (by simp only [bd_, bo_, go_sem, seval, ae_, ad_, aj_, ac_] <;> (split <;> rfl)) (by simp only [bn_, go_sem, seval, ae_, ad_, aj_, ac_] <;> (simp at h14 h10; have q := hI.2; rw [T1_ (by omega), T1_ (by omega)] at q; simp [q])) (by simp only [go_sem, seval, ae_, ad_, aj_, ac_])
end
end Go.Proofs.YtefmbmafdgedmaaGreatDoor
