/- What the exact laws do with pages, and lists of them: size, copies, sameness. Conditions: none. -/
import Derived.Test.YtpikbndepapbhabGreatDoorK11
import Derived.Test.YtpikbndepapbhabGreatDoorK12
import Derived.Test.YtpikbndepapbhabGreatDoorKm
set_option linter.unusedVariables false
set_option linter.unusedSimpArgs false
namespace Go.Proofs.YtpikbndepapbhabGreatDoor
section
set_option maxRecDepth 100000
set_option maxHeartbeats 4000000
def bdP (p : Pg) : Bool := decide (p.line.length ≤ 9223372036854775807) && decide (p.text.length ≤ 9223372036854775807) && decide (p.frm.length ≤ 9223372036854775807)
theorem acp_ {p : Pg} (h : bdP p = true) : p.line.length ≤ 9223372036854775807 ∧ p.text.length ≤ 9223372036854775807 ∧ p.frm.length ≤ 9223372036854775807 := by
 simp only [bdP, T5_, T3_] at h; exact ⟨h.1.1, h.1.2, h.2⟩
def szI (l : List Int) (q : Int) : Int := if q - l.length < 0 then -1 else q - l.length
theorem acg_ (l : List Int) (hl : l.length ≤ 9223372036854775807) (q : Int) (h1 : 0 ≤ q) (h2 : q ≤ 1048576) : ACall En 148 [.sl false (inR l), .i .i64 q] [] [.i .i64 (szI l q)] [] := by
 have hw : IntKind.i64.wrap (q - l.length) = q - l.length := bg_ (by omega) (by omega)
 refine ak_ (fn := Tryz.f148) [] Tryz.func148 rfl rfl (by simp) fun C => ?_
 rw [aw_]
 simp only [Tryz.ntmps148, T7_, List.length_nil, Nat.reduceAdd, Nat.reduceSub, List.replicate_succ, List.replicate_zero, List.cons_append, List.nil_append, bk_]
 refine .seq (.rgn [] (by simp only [go_sem, seval, hw, ad_, ab_]; rfl) ?_ ?_)
 ·first | trivial | simp
 refine .seq (.rgn [] (by simp only [go_sem, seval, hw, ad_, ab_]; rfl) ?_ ?_)
 ·first | trivial | simp
 refine .seq (.seq (.rgn [] (by simp only [go_sem, seval, hw, ad_, ab_]; rfl) ?_ ?_))
 ·first | trivial | simp
 refine .condB (by simp only [go_sem, seval, hw, ad_, ab_]; rfl) (by simp only [go_sem, seval, hw, ad_, ab_]) (fun h10 => ?_) (fun h10 => ?_)
 ·refine .seq (.rgn [] (by simp only [go_sem, seval, hw, ad_, ab_]; rfl) ?_ ?_)
  ·first | trivial | simp
  refine .ret ⟨.inr rfl, ?_⟩
  exact Out.plain (by simp only [Tryz.results148]; rfl) (by simp only [av_, a5_, go_sem, seval, hw, ad_, ab_] <;> (split <;> rfl)) (by simp only [a2_, go_sem, seval, hw, ad_, ab_] <;> (simp only [T3_] at *; rw [szI, if_pos (by assumption)])) (by simp only [go_sem, seval, hw, ad_, ab_])
 ·refine .skip (.seq (.rgn [] (by simp only [go_sem, seval, hw, ad_, ab_]; rfl) ?_ ?_))
  ·first | trivial | simp
  refine .ret ⟨.inr rfl, ?_⟩
  exact Out.plain (by simp only [Tryz.results148]; rfl) (by simp only [av_, a5_, go_sem, seval, hw, ad_, ab_] <;> (split <;> rfl)) (by simp only [a2_, go_sem, seval, hw, ad_, ab_] <;> (simp only [T4_] at *; rw [szI, if_neg (by assumption)])) (by simp only [go_sem, seval, hw, ad_, ab_])
theorem afg_ (l : List Int) (hl : l.length ≤ 1048576) : ACall En 149 [.sl false (inR l)] [] [.sl false (inR l)] [] := by
 have hp : ∀ k, b3_ (ds_ (inR l) [.i .i64 0] k) = true := fun k => fn_ (ab_ _) rfl
 have h1 : ∀ k j, ((ds_ (inR l) [.i .i64 0] k).getD j []).drop 1 = [] := fun k j => px_ _ _ (fun r hr => rt_ hr) rfl k j
 refine ak_ (fn := Tryz.f149) [] Tryz.func149 rfl rfl (by simp) fun C => ?_
 rw [aw_]
 simp only [Tryz.ntmps149, T7_, List.length_nil, Nat.reduceAdd, Nat.reduceSub, List.replicate_succ, List.replicate_zero, List.cons_append, List.nil_append, bk_]
 refine .seq (.rgn [] (by simp only [go_sem, seval, hp, h1, at_, ad_, ab_]; rfl) ?_ ?_)
 ·first | trivial | simp
 refine .seq (.rgn [] (by simp only [go_sem, seval, hp, h1, at_, ad_, ab_]; rfl) ?_ ?_)
 ·simp; omega
 refine .seq (.seq (.rgn [] (by simp only [go_sem, seval, hp, h1, at_, ad_, ab_]; rfl) ?_ ?_))
 ·first | trivial | simp
 refine .block (.loopK (fun k : Nat => ⟨[.sl false (inR l), .no, .no, .ow 17 1 0 l.length, .i .i64 k, .no, .no, .no, .no, .no, .no, .no, .no, .no, .no, .no, .no, .no, .no, .no, .no, .no], be_ [(17, ⟨3, 1, ds_ (inR l) [.i .i64 0] k⟩)], us [17]⟩) (fun k : Nat => k ≤ l.length) (fun k : Nat => l.length - k) (0) ?_ ?_ (fun k hI => ?_))
 ·simp
 ·exact Can.weak (Weak.lit (by simp only [go_sem, seval, hp, h1, at_, ad_, ab_, as_, leV, aq_, ar_, V.inn, us, T9_, Ta_] <;> (simp)) (by simp only [go_sem, seval, hp, h1, at_, ad_, ab_, as_, leV, aq_, ar_, V.inn, us, T9_, Ta_]) (by simp only [go_sem, seval, hp, h1, at_, ad_, ab_, as_, leV, aq_, ar_, V.inn, us, T9_, Ta_] <;> (simp [fp_, ad_])))
 refine .seq (.seq (.rgn [] (by simp only [go_sem, seval, hp, h1, at_, ad_, ab_]; rfl) ?_ ?_))
 ·first | trivial | simp
 refine .condB (by simp only [go_sem, seval, hp, h1, at_, ad_, ab_]; rfl) (by simp only [go_sem, seval, hp, h1, at_, ad_, ab_]) (fun h11 => ?_) (fun h11 => ?_)
 ·refine .skip (.seq (.block (.rgn [] (by simp only [go_sem, seval, hp, h1, at_, ad_, ab_, dj_ (show k < l.length by simpa using h11)]; rfl) ?_ ?_)))
  ·simp only [T3_] at h11; simp; omega
  refine .rgn [] (by simp only [go_sem, seval, hp, h1, at_, ad_, ab_]; rfl) ?_ ?_
  ·first | trivial | simp
  refine Exists.intro (k + 1) ⟨?_, ?_, ?_⟩
  ·simp at h11; omega
  ·simp at h11; omega
  exact Can.weak (Weak.lit (by simp only [go_sem, seval, hp, h1, at_, ad_, ab_, as_, leV, aq_, ar_, V.inn, us, T9_, Ta_] <;> (rw [bg_ (by simp at h11; omega) (by simp at h11; omega)]; simp)) (by simp only [go_sem, seval, hp, h1, at_, ad_, ab_, as_, leV, aq_, ar_, V.inn, us, T9_, Ta_]) (by simp only [go_sem, seval, hp, h1, at_, ad_, ab_, as_, leV, aq_, ar_, V.inn, us, T9_, Ta_] <;> (rw [← f4_ (by rw [ad_]; simpa using h11), dj_ (by simpa using h11)])))
 ·refine .exit (.seq (.rgn [] (by simp only [go_sem, seval, hp, h1, at_, ad_, ab_]; rfl) ?_ ?_))
  ·first | trivial | simp
  refine .frz 17 (by simp only [go_sem, seval, hp, h1, at_, ad_, ab_]; rfl) (by simp only [go_sem, seval, hp, h1, at_, ad_, ab_]) (by simp only [go_sem, seval, hp, h1, at_, ad_, ab_]; rfl) (by simp only [go_sem, seval, hp, h1, at_, ad_, ab_]; rfl) ?_
  refine .ret ⟨.inr rfl, ?_⟩
  exact Out.plain (by simp only [Tryz.results149]; rfl) (by simp only [av_, a5_, go_sem, seval, hp, h1, at_, ad_, ab_] <;> (split <;> rfl)) (by simp only [a2_, go_sem, seval, hp, h1, at_, ad_, ab_] <;> (simp at h11; rw [gu_ (by simpa [ad_] using h11)]; simp [T1_, peel, ad_])) (by simp only [go_sem, seval, hp, h1, at_, ad_, ab_])
def szP (p : Pg) (l : Int) : Int := if l - p.line.length < 0 then -1 else if l - p.line.length - p.text.length < 0 then -1 else szI p.frm (l - p.line.length - p.text.length)
theorem abc_ (f : List Int) (l : Int) (h : -1 ≤ l) : -1 ≤ szI f l ∧ szI f l ≤ l := by unfold szI; split <;> omega
theorem aeb_ (p : Pg) (l : Int) (h : -1 ≤ l) : -1 ≤ szP p l ∧ szP p l ≤ l := by
 unfold szP
 split
 ·omega
 ·split
  ·omega
  ·have h1 := abc_ p.frm (l - p.line.length - p.text.length) (by omega)
   omega
theorem aj0_ {p : Pg} {l : Int} (hl : l ≤ 1048576) (h0 : -1 ≤ l) (h : 0 ≤ szP p l) : pgB p ∧ p.frm.length ≤ 1048576 := by
 unfold szP szI at h
 split at h
 ·omega
 ·split at h
  ·omega
  ·split at h
   ·omega
   ·exact ⟨⟨by omega, by omega, by omega⟩, by omega⟩
theorem adf_ (p : Pg) (hb : bdP p = true) (l : Int) (h1 : 0 ≤ l) (h2 : l ≤ 1048576) : ACall En 95 [.ag (pgC p), .i .i64 l] [] [.i .i64 (szP p l)] [] := by
 obtain ⟨b1, b2, b3⟩ := acp_ hb
 have hw : IntKind.i64.wrap (l - p.line.length) = l - p.line.length := bg_ (by omega) (by omega)
 refine ak_ (fn := Tryz.f95) [] Tryz.func95 rfl rfl (by simp) fun C => ?_
 rw [aw_]
 simp only [Tryz.ntmps95, T7_, List.length_nil, Nat.reduceAdd, Nat.reduceSub, List.replicate_succ, List.replicate_zero, List.cons_append, List.nil_append, bk_]
 refine .seq (.rgn [] (by simp only [go_sem, seval, hw, ag_, ab_]; rfl) ?_ ?_)
 ·first | trivial | simp
 refine .seq (.rgn [] (by simp only [go_sem, seval, hw, ag_, ab_]; rfl) ?_ ?_)
 ·first | trivial | simp
 refine .seq (.seq (.rgn [] (by simp only [go_sem, seval, hw, ag_, ab_]; rfl) ?_ ?_))
 ·first | trivial | simp
 refine .condB (by simp only [go_sem, seval, hw, ag_, ab_]; rfl) (by simp only [go_sem, seval, hw, ag_, ab_]) (fun h11 => ?_) (fun h11 => ?_)
 ·refine .seq (.rgn [] (by simp only [go_sem, seval, hw, ag_, ab_]; rfl) ?_ ?_)
  ·first | trivial | simp
  refine .ret ⟨.inr rfl, ?_⟩
  exact Out.plain (by simp only [Tryz.results95]; rfl) (by simp only [av_, a5_, go_sem, seval, hw, ag_, ab_] <;> (split <;> rfl)) (by simp only [a2_, go_sem, seval, hw, ag_, ab_] <;> (simp only [T3_] at h11; rw [szP, if_pos h11])) (by simp only [go_sem, seval, hw, ag_, ab_])
 ·refine .skip (.seq (.rgn [] (by simp only [go_sem, seval, hw, ag_, ab_, bg_ (show -9223372036854775808 ≤ l - (p.line.length : Int) - p.text.length by simp only [T4_] at h11; omega) (by omega)]; rfl) ?_ ?_))
  ·first | trivial | simp
  refine .seq (.seq (.rgn [] (by simp only [go_sem, seval, hw, ag_, ab_]; rfl) ?_ ?_))
  ·first | trivial | simp
  refine .condB (by simp only [go_sem, seval, hw, ag_, ab_]; rfl) (by simp only [go_sem, seval, hw, ag_, ab_]) (fun h18 => ?_) (fun h18 => ?_)
  ·refine .seq (.rgn [] (by simp only [go_sem, seval, hw, ag_, ab_]; rfl) ?_ ?_)
   ·first | trivial | simp
   refine .ret ⟨.inr rfl, ?_⟩
   exact Out.plain (by simp only [Tryz.results95]; rfl) (by simp only [av_, a5_, go_sem, seval, hw, ag_, ab_] <;> (split <;> rfl)) (by simp only [a2_, go_sem, seval, hw, ag_, ab_] <;> (simp only [T3_, T4_] at h11 h18; rw [szP, if_neg h11, if_pos h18])) (by simp only [go_sem, seval, hw, ag_, ab_])
  ·refine .skip (.seq (.rgn [by_ (0 ≤ l - (p.line.length : Int) - p.text.length) (fun h => acg_ p.frm b3 (l - p.line.length - p.text.length) h (by omega))] (by simp only [go_sem, seval, hw, ag_, ab_]; rfl) ?_ ?_))
   ·simp only [T4_] at h11 h18; simp; omega
   refine .seq (.seq (.rgn [] (by simp only [go_sem, seval, hw, ag_, ab_]; rfl) ?_ ?_))
   ·first | trivial | simp
   refine .condB (by simp only [go_sem, seval, hw, ag_, ab_]; rfl) (by simp only [go_sem, seval, hw, ag_, ab_]) (fun h24 => ?_) (fun h24 => ?_)
   ·refine .seq (.rgn [] (by simp only [go_sem, seval, hw, ag_, ab_]; rfl) ?_ ?_)
    ·first | trivial | simp
    refine .ret ⟨.inr rfl, ?_⟩
    exact Out.plain (by simp only [Tryz.results95]; rfl) (by simp only [av_, a5_, go_sem, seval, hw, ag_, ab_] <;> (split <;> rfl)) (by simp only [a2_, go_sem, seval, hw, ag_, ab_] <;> (simp only [T3_, T4_] at h11 h18 h24; rw [szP, if_neg h11, if_neg h18]; have := abc_ p.frm (l - p.line.length - p.text.length) (by omega); congr 1; congr 1; omega)) (by simp only [go_sem, seval, hw, ag_, ab_])
   ·refine .skip (.seq (.rgn [] (by simp only [go_sem, seval, hw, ag_, ab_]; rfl) ?_ ?_))
    ·first | trivial | simp
    refine .ret ⟨.inr rfl, ?_⟩
    exact Out.plain (by simp only [Tryz.results95]; rfl) (by simp only [av_, a5_, go_sem, seval, hw, ag_, ab_] <;> (split <;> rfl)) (by simp only [a2_, go_sem, seval, hw, ag_, ab_] <;> (simp only [T3_, T4_] at h11 h18 h24; rw [szP, if_neg h11, if_neg h18])) (by simp only [go_sem, seval, hw, ag_, ab_])
theorem adc_ (p : Pg) (hs : p.frm.length ≤ 1048576) : ACall En 97 [.ag (pgC p)] [] [.ag (pgC p)] [] := by
 refine ak_ (fn := Tryz.f97) [] Tryz.func97 rfl rfl (by simp) fun C => ?_
 rw [aw_]
 simp only [Tryz.ntmps97, T7_, List.length_nil, Nat.reduceAdd, Nat.reduceSub, List.replicate_succ, List.replicate_zero, List.cons_append, List.nil_append, bk_]
 refine .seq (.rgn [] (by simp only [go_sem, seval, ag_, ab_]; rfl) ?_ ?_)
 ·first | trivial | simp
 refine .seq (.rgn [] (by simp only [go_sem, seval, ag_, ab_]; rfl) ?_ ?_)
 ·first | trivial | simp
 refine .seq (.rgn [] (by simp only [go_sem, seval, ag_, ab_]; rfl) ?_ ?_)
 ·first | trivial | simp
 refine .seq (.rgn [] (by simp only [go_sem, seval, ag_, ab_]; rfl) ?_ ?_)
 ·first | trivial | simp
 refine .seq (.rgn [] (by simp only [go_sem, seval, ag_, ab_]; rfl) ?_ ?_)
 ·first | trivial | simp
 refine .seq (.rgn [a3_ (afg_ p.frm hs)] (by simp only [go_sem, seval, ag_, ab_]; rfl) ?_ ?_)
 ·first | trivial | simp
 refine .seq (.rgn [] (by simp only [go_sem, seval, ag_, ab_]; rfl) ?_ ?_)
 ·first | trivial | simp
 refine .ret ⟨.inr rfl, ?_⟩
 exact Out.plain (by simp only [Tryz.results97]; rfl) (by simp only [av_, a5_, go_sem, seval, ag_, ab_] <;> (split <;> rfl)) (by simp only [a2_, go_sem, seval, ag_, ab_] <;> (rfl)) (by simp only [go_sem, seval, ag_, ab_])
/-! lists -/
def s4_ : List Pg → Int → Int
 | [], l => l
 | s :: r, l => if szP s l < 0 then -1 else s4_ r (szP s l)
def fm_ (l : List Pg) (q : Int) : Int := if q - l.length < 0 then -1 else s4_ l (q - l.length)
theorem x7_ : ∀ (r : List Pg) (l : Int), -1 ≤ l → l ≤ 1048576 → 0 ≤ s4_ r l → ∀ p ∈ r, pgB p ∧ p.frm.length ≤ 1048576
 | [], _, _, _, _ => fun p hp => by cases hp
 | s :: r, l, h0, hl, h => by
  simp only [s4_] at h
  have h1 := aeb_ s l h0
  split at h
  ·omega
  ·intro p hp
   rcases List.mem_cons.1 hp with rfl | hp
   ·exact aj0_ hl h0 (by omega)
   ·exact x7_ r (szP s l) (by omega) (by omega) h p hp
theorem r8_ {l : List Pg} (h : 0 ≤ fm_ l 1048576) : (∀ p ∈ l, pgB p ∧ p.frm.length ≤ 1048576) ∧ l.length ≤ 1048576 := by
 unfold fm_ at h
 split at h
 ·omega
 ·exact ⟨x7_ l _ (by omega) (by omega) h, by omega⟩
theorem ra_ {l : List Pg} {k : Nat} (h : k < l.length) (q : Int) : s4_ (l.drop k) q = if szP (l.getD k Pg0) q < 0 then -1 else s4_ (l.drop (k + 1)) (szP (l.getD k Pg0) q) := by
 rw [List.drop_eq_getElem_cons h, T8_, T6_ h]; simp only [s4_, Option.getD_some]
theorem mv_ (l : List Pg) (hb : ∀ s ∈ l, bdP s = true) (hl : l.length ≤ 9223372036854775807) (q : Int) (h1 : 0 ≤ q) (h2 : q ≤ 1048576) : ACall En 42 [.sl false (pgR l), .i .i64 q] [] [.i .i64 (fm_ l q)] [] := by
 have hw : IntKind.i64.wrap (q - l.length) = q - l.length := bg_ (by omega) (by omega)
 refine ak_ (fn := Tryz.f42) [] Tryz.func42 rfl rfl (by simp) fun C => ?_
 rw [aw_]
 simp only [Tryz.ntmps42, T7_, List.length_nil, Nat.reduceAdd, Nat.reduceSub, List.replicate_succ, List.replicate_zero, List.cons_append, List.nil_append, bk_]
 refine .seq (.rgn [] (by simp only [go_sem, seval, hw, al_, ah_, ag_, ab_]; rfl) ?_ ?_)
 ·first | trivial | simp
 refine .seq (.rgn [] (by simp only [go_sem, seval, hw, al_, ah_, ag_, ab_]; rfl) ?_ ?_)
 ·first | trivial | simp
 refine .seq (.seq (.rgn [] (by simp only [go_sem, seval, hw, al_, ah_, ag_, ab_]; rfl) ?_ ?_))
 ·first | trivial | simp
 refine .condB (by simp only [go_sem, seval, hw, al_, ah_, ag_, ab_]; rfl) (by simp only [go_sem, seval, hw, al_, ah_, ag_, ab_]) (fun h11 => ?_) (fun h11 => ?_)
 ·refine .seq (.rgn [] (by simp only [go_sem, seval, hw, al_, ah_, ag_, ab_]; rfl) ?_ ?_)
  ·first | trivial | simp
  refine .ret ⟨.inr rfl, ?_⟩
  exact Out.plain (by simp only [Tryz.results42]; rfl) (by simp only [av_, a5_, go_sem, seval, hw, al_, ah_, ag_, ab_] <;> (split <;> rfl)) (by simp only [a2_, go_sem, seval, hw, al_, ah_, ag_, ab_] <;> (simp at h11; simp [fm_, h11])) (by simp only [go_sem, seval, hw, al_, ah_, ag_, ab_])
 ·refine .skip (.seq (.seq (.rgn [] (by simp only [go_sem, seval, hw, al_, ah_, ag_, ab_]; rfl) ?_ ?_)))
  ·first | trivial | simp
  refine .block (.loopK (fun k : Nat × Int => ⟨[.sl false (pgR l), .i .i64 k.2, .no, .no, .no, .i .i64 k.1, .no, .no, .no, .no, .no, .no, .no, .no, .no, .no, .no, .no, .no, .no, .no, .no, .no, .no, .no, .no, .no], be_ [], us []⟩) (fun k : Nat × Int => k.1 ≤ l.length ∧ 0 ≤ k.2 ∧ k.2 ≤ 1048576 ∧ fm_ l q = s4_ (l.drop k.1) k.2) (fun k : Nat × Int => l.length - k.1) ((0, q - l.length)) ?_ ?_ (fun k hI => ?_))
  ·simp at h11; simp [fm_, show ¬ (q - (l.length : Int) < 0) by omega]; omega
  ·exact Can.weak (Weak.lit (by simp only [go_sem, seval, hw, al_, ah_, ag_, ab_, as_, leV, aq_, ar_, V.inn, us, T9_, Ta_] <;> (simp)) (by simp only [go_sem, seval, hw, al_, ah_, ag_, ab_, as_, leV, aq_, ar_, V.inn, us, T9_, Ta_]) (by simp only [go_sem, seval, hw, al_, ah_, ag_, ab_, as_, leV, aq_, ar_, V.inn, us, T9_, Ta_]))
  refine .seq (.seq (.rgn [] (by simp only [go_sem, seval, hw, al_, ah_, ag_, ab_]; rfl) ?_ ?_))
  ·first | trivial | simp
  refine .condB (by simp only [go_sem, seval, hw, al_, ah_, ag_, ab_]; rfl) (by simp only [go_sem, seval, hw, al_, ah_, ag_, ab_]) (fun h15 => ?_) (fun h15 => ?_)
  ·refine .skip (.seq (.block (.seq (.rgn [by_ (k.1 < l.length ∧ 0 ≤ k.2 ∧ k.2 ≤ 1048576) (fun h => adf_ (l.getD k.1 Pg0) (hb _ (bo_ h.1)) k.2 h.2.1 h.2.2)] (by simp only [go_sem, seval, hw, al_, ah_, ag_, ab_, dt_ (show k.1 < l.length by simpa using h15)]; rfl) ?_ ?_))))
   ·simp only [T3_] at h15; simp; omega
   refine .seq (.rgn [] (by simp only [go_sem, seval, hw, al_, ah_, ag_, ab_]; rfl) ?_ ?_)
   ·first | trivial | simp
   refine .condB (by simp only [go_sem, seval, hw, al_, ah_, ag_, ab_]; rfl) (by simp only [go_sem, seval, hw, al_, ah_, ag_, ab_]) (fun h25 => ?_) (fun h25 => ?_)
   ·refine .seq (.rgn [] (by simp only [go_sem, seval, hw, al_, ah_, ag_, ab_]; rfl) ?_ ?_)
    ·first | trivial | simp
    refine .ret ⟨.inr rfl, ?_⟩
    exact Out.plain (by simp only [Tryz.results42]; rfl) (by simp only [av_, a5_, go_sem, seval, hw, al_, ah_, ag_, ab_] <;> (split <;> rfl)) (by simp only [a2_, go_sem, seval, hw, al_, ah_, ag_, ab_] <;> (simp at h15; simp only [T3_] at h25; have e1 := ra_ h15 k.2; rw [if_pos h25] at e1; rw [hI.2.2.2, e1])) (by simp only [go_sem, seval, hw, al_, ah_, ag_, ab_])
   ·refine .skip (.rgn [] (by simp only [go_sem, seval, hw, al_, ah_, ag_, ab_]; rfl) ?_ ?_)
    ·first | trivial | simp
    refine Exists.intro ((k.1 + 1, szP (l.getD k.1 Pg0) k.2)) ⟨?_, ?_, ?_⟩
    ·simp at h15; simp only [T4_] at h25; have e1 := ra_ h15 k.2; have e2 := aeb_ (l.getD k.1 Pg0) k.2 (by omega); rw [if_neg (by omega)] at e1; exact ⟨by dsimp only; omega, by dsimp only; omega, by dsimp only; omega, by rw [hI.2.2.2, e1]⟩
    ·simp at h15; simp; omega
    exact Can.weak (Weak.lit (by simp only [go_sem, seval, hw, al_, ah_, ag_, ab_, as_, leV, aq_, ar_, V.inn, us, T9_, Ta_] <;> (rw [bg_ (by simp at h15; omega) (by simp at h15; omega)]; simp)) (by simp only [go_sem, seval, hw, al_, ah_, ag_, ab_, as_, leV, aq_, ar_, V.inn, us, T9_, Ta_]) (by simp only [go_sem, seval, hw, al_, ah_, ag_, ab_, as_, leV, aq_, ar_, V.inn, us, T9_, Ta_]))
  ·refine .exit (.seq (.rgn [] (by simp only [go_sem, seval, hw, al_, ah_, ag_, ab_]; rfl) ?_ ?_))
   ·first | trivial | simp
   refine .ret ⟨.inr rfl, ?_⟩
   exact Out.plain (by simp only [Tryz.results42]; rfl) (by simp only [av_, a5_, go_sem, seval, hw, al_, ah_, ag_, ab_] <;> (split <;> rfl)) (by simp only [a2_, go_sem, seval, hw, al_, ah_, ag_, ab_] <;> (simp at h15; rw [hI.2.2.2, List.drop_of_length_le h15]; rfl)) (by simp only [go_sem, seval, hw, al_, ah_, ag_, ab_])
theorem ei_ (l : List Pg) (hs : ∀ p ∈ l, p.frm.length ≤ 1048576) (hl : l.length ≤ 1048576) : ACall En 44 [.sl false (pgR l)] [] [.sl false (pgR l)] [] := by
 have hp : ∀ k, b3_ (ds_ (pgR l) zPg k) = true := fun k => fn_ (ah_ _) rfl
 have hd : ∀ k j, ((ds_ (pgR l) zPg k).getD j []).drop 4 = [] := fun k j => filP l k j
 refine ak_ (fn := Tryz.f44) [] Tryz.func44 rfl rfl (by simp) fun C => ?_
 rw [aw_]
 simp only [Tryz.ntmps44, T7_, List.length_nil, Nat.reduceAdd, Nat.reduceSub, List.replicate_succ, List.replicate_zero, List.cons_append, List.nil_append, bk_]
 refine .seq (.rgn [] (by simp only [go_sem, seval, hp, hd, at_, al_, ag_, ah_, ab_]; rfl) ?_ ?_)
 ·first | trivial | simp
 refine .seq (.rgn [] (by simp only [go_sem, seval, hp, hd, at_, al_, ag_, ah_, ab_]; rfl) ?_ ?_)
 ·simp; omega
 refine .seq (.seq (.rgn [] (by simp only [go_sem, seval, hp, hd, at_, al_, ag_, ah_, ab_]; rfl) ?_ ?_))
 ·first | trivial | simp
 refine .block (.loopK (fun k : Nat => ⟨[.sl false (pgR l), .no, .no, .ow 17 4 0 l.length, .i .i64 k, .no, .no, .no, .no, .no, .no, .no, .no, .no, .no, .no, .no, .no, .no, .no, .no, .no, .no], be_ [(17, ⟨48, 4, ds_ (pgR l) zPg k⟩)], us [17]⟩) (fun k : Nat => k ≤ l.length) (fun k : Nat => l.length - k) (0) ?_ ?_ (fun k hI => ?_))
 ·simp
 ·exact Can.weak (Weak.lit (by simp only [go_sem, seval, hp, hd, at_, al_, ag_, ah_, ab_, as_, leV, aq_, ar_, V.inn, us, T9_, Ta_] <;> (simp)) (by simp only [go_sem, seval, hp, hd, at_, al_, ag_, ah_, ab_, as_, leV, aq_, ar_, V.inn, us, T9_, Ta_]) (by simp only [go_sem, seval, hp, hd, at_, al_, ag_, ah_, ab_, as_, leV, aq_, ar_, V.inn, us, T9_, Ta_] <;> (simp [fp_, zPg, al_])))
 refine .seq (.seq (.rgn [] (by simp only [go_sem, seval, hp, hd, at_, al_, ag_, ah_, ab_]; rfl) ?_ ?_))
 ·first | trivial | simp
 refine .condB (by simp only [go_sem, seval, hp, hd, at_, al_, ag_, ah_, ab_]; rfl) (by simp only [go_sem, seval, hp, hd, at_, al_, ag_, ah_, ab_]) (fun h11 => ?_) (fun h11 => ?_)
 ·refine .skip (.seq (.block (.rgn [by_ (k < l.length) (fun h => adc_ (l.getD k Pg0) (hs _ (bo_ h)))] (by simp only [go_sem, seval, hp, hd, at_, al_, ag_, ah_, ab_, dt_ (show k < l.length by simpa using h11)]; rfl) ?_ ?_)))
  ·simp only [T3_] at h11; simp; omega
  refine .rgn [] (by simp only [go_sem, seval, hp, hd, at_, al_, ag_, ah_, ab_]; rfl) ?_ ?_
  ·first | trivial | simp
  refine Exists.intro (k + 1) ⟨?_, ?_, ?_⟩
  ·simp at h11; omega
  ·simp at h11; omega
  exact Can.weak (Weak.lit (by simp only [go_sem, seval, hp, hd, at_, al_, ag_, ah_, ab_, as_, leV, aq_, ar_, V.inn, us, T9_, Ta_] <;> (rw [bg_ (by simp at h11; omega) (by simp at h11; omega)]; simp)) (by simp only [go_sem, seval, hp, hd, at_, al_, ag_, ah_, ab_, as_, leV, aq_, ar_, V.inn, us, T9_, Ta_]) (by simp only [go_sem, seval, hp, hd, at_, al_, ag_, ah_, ab_, as_, leV, aq_, ar_, V.inn, us, T9_, Ta_] <;> (rw [← f4_ (by rw [al_]; simpa using h11), dt_ (by simpa using h11), ag_])))
 ·refine .exit (.seq (.rgn [] (by simp only [go_sem, seval, hp, hd, at_, al_, ag_, ah_, ab_]; rfl) ?_ ?_))
  ·first | trivial | simp
  refine .frz 17 (by simp only [go_sem, seval, hp, hd, at_, al_, ag_, ah_, ab_]; rfl) (by simp only [go_sem, seval, hp, hd, at_, al_, ag_, ah_, ab_]) (by simp only [go_sem, seval, hp, hd, at_, al_, ag_, ah_, ab_]; rfl) (by simp only [go_sem, seval, hp, hd, at_, al_, ag_, ah_, ab_]; rfl) ?_
  refine .ret ⟨.inr rfl, ?_⟩
  exact Out.plain (by simp only [Tryz.results44]; rfl) (by simp only [av_, a5_, go_sem, seval, hp, hd, at_, al_, ag_, ah_, ab_] <;> (split <;> rfl)) (by simp only [a2_, go_sem, seval, hp, hd, at_, al_, ag_, ah_, ab_] <;> (simp at h11; rw [gu_ (by simpa [al_] using h11)]; simp [T1_, peel, al_])) (by simp only [go_sem, seval, hp, hd, at_, al_, ag_, ah_, ab_])
theorem zc_ (p q : Pg) (hp : p.frm.length ≤ 1000000000000) (hq : q.frm.length ≤ 1000000000000) : ACall En 34 [.ag (pgC p), .ag (pgC q)] [] [.b (decide (p = q))] [] := by
 have T := @ws_ p q
 refine ak_ (fn := Tryz.f34) [] Tryz.func34 rfl rfl (by simp) fun C => ?_
 rw [aw_]
 simp only [Tryz.ntmps34, T7_, List.length_nil, Nat.reduceAdd, Nat.reduceSub, List.replicate_succ, List.replicate_zero, List.cons_append, List.nil_append, bk_]
 refine .seq (.rgn [] (by simp only [go_sem, seval, ag_, ab_, ad_]; rfl) ?_ ?_)
 ·first | trivial | simp
 refine .seq (.seq (.rgn [] (by simp only [go_sem, seval, ag_, ab_, ad_]; rfl) ?_ ?_))
 ·first | trivial | simp
 refine .condB (by simp only [go_sem, seval, ag_, ab_, ad_]; rfl) (by simp only [go_sem, seval, ag_, ab_, ad_]) (fun h9 => ?_) (fun h9 => ?_)
 ·refine .seq (.rgn [] (by simp only [go_sem, seval, ag_, ab_, ad_]; rfl) ?_ ?_)
  ·first | trivial | simp
  refine .ret ⟨.inr rfl, ?_⟩
  exact Out.plain (by simp only [Tryz.results34]; rfl) (by simp only [av_, a5_, go_sem, seval, ag_, ab_, ad_] <;> (split <;> rfl)) (by simp only [a2_, go_sem, seval, ag_, ab_, ad_] <;> (rw [decide_eq_false (fun e => by rw [e] at h9; simp at h9)])) (by simp only [go_sem, seval, ag_, ab_, ad_])
 ·refine .skip (.seq (.seq (.rgn [] (by simp only [go_sem, seval, ag_, ab_, ad_]; rfl) ?_ ?_)))
  ·first | trivial | simp
  refine .condB (by simp only [go_sem, seval, ag_, ab_, ad_]; rfl) (by simp only [go_sem, seval, ag_, ab_, ad_]) (fun h14 => ?_) (fun h14 => ?_)
  ·refine .seq (.rgn [] (by simp only [go_sem, seval, ag_, ab_, ad_]; rfl) ?_ ?_)
   ·first | trivial | simp
   refine .ret ⟨.inr rfl, ?_⟩
   exact Out.plain (by simp only [Tryz.results34]; rfl) (by simp only [av_, a5_, go_sem, seval, ag_, ab_, ad_] <;> (split <;> rfl)) (by simp only [a2_, go_sem, seval, ag_, ab_, ad_] <;> (rw [decide_eq_false (fun e => by rw [e] at h14; simp at h14)])) (by simp only [go_sem, seval, ag_, ab_, ad_])
  ·refine .skip (.seq (.seq (.rgn [] (by simp only [go_sem, seval, ag_, ab_, ad_]; rfl) ?_ ?_)))
   ·first | trivial | simp
   refine .condB (by simp only [go_sem, seval, ag_, ab_, ad_]; rfl) (by simp only [go_sem, seval, ag_, ab_, ad_]) (fun h19 => ?_) (fun h19 => ?_)
   ·refine .seq (.rgn [] (by simp only [go_sem, seval, ag_, ab_, ad_]; rfl) ?_ ?_)
    ·first | trivial | simp
    refine .ret ⟨.inr rfl, ?_⟩
    exact Out.plain (by simp only [Tryz.results34]; rfl) (by simp only [av_, a5_, go_sem, seval, ag_, ab_, ad_] <;> (split <;> rfl)) (by simp only [a2_, go_sem, seval, ag_, ab_, ad_] <;> (rw [decide_eq_false (fun e => by rw [e] at h19; simp at h19)])) (by simp only [go_sem, seval, ag_, ab_, ad_])
   ·refine .skip (.seq (.seq (.rgn [a3_ (or_ p.frm q.frm (by omega) (by omega))] (by simp only [go_sem, seval, ag_, ab_, ad_]; rfl) ?_ ?_)))
    ·first | trivial | simp
    refine .condB (by simp only [go_sem, seval, ag_, ab_, ad_]; rfl) (by simp only [go_sem, seval, ag_, ab_, ad_]) (fun h25 => ?_) (fun h25 => ?_)
    ·refine .seq (.rgn [] (by simp only [go_sem, seval, ag_, ab_, ad_]; rfl) ?_ ?_)
     ·first | trivial | simp
     refine .ret ⟨.inr rfl, ?_⟩
     exact Out.plain (by simp only [Tryz.results34]; rfl) (by simp only [av_, a5_, go_sem, seval, ag_, ab_, ad_] <;> (split <;> rfl)) (by simp only [a2_, go_sem, seval, ag_, ab_, ad_] <;> (rw [decide_eq_false (fun e => by rw [e] at h25; simp at h25)])) (by simp only [go_sem, seval, ag_, ab_, ad_])
    ·refine .skip (.seq (.rgn [] (by simp only [go_sem, seval, ag_, ab_, ad_]; rfl) ?_ ?_))
     ·first | trivial | simp
     refine .ret ⟨.inr rfl, ?_⟩
     exact Out.plain (by simp only [Tryz.results34]; rfl) (by simp only [av_, a5_, go_sem, seval, ag_, ab_, ad_] <;> (split <;> rfl)) (by simp only [a2_, go_sem, seval, ag_, ab_, ad_] <;> (rw [decide_eq_true (T.2 ⟨by simpa using h9, by simpa using h14, by simpa using h19, by simpa using h25⟩)])) (by simp only [go_sem, seval, ag_, ab_, ad_])
theorem ahk_ {a b : List Pg} {k : Nat} (ha : k < a.length) (hb : k < b.length) (h : a.take k = b.take k) (e : a.getD k Pg0 = b.getD k Pg0) : a.take (k + 1) = b.take (k + 1) := h7_ ha hb h e
theorem mn_ (a b : List Pg) (ha : ∀ p ∈ a, p.frm.length ≤ 1000000000000) (hb : ∀ p ∈ b, p.frm.length ≤ 1000000000000) (la : a.length ≤ 1048576) (lb : b.length ≤ 1048576) : ACall En 46 [.sl false (pgR a), .sl false (pgR b)] [] [.b (decide (a = b))] [] := by
 refine ak_ (fn := Tryz.f46) [] Tryz.func46 rfl rfl (by simp) fun C => ?_
 rw [aw_]
 simp only [Tryz.ntmps46, T7_, List.length_nil, Nat.reduceAdd, Nat.reduceSub, List.replicate_succ, List.replicate_zero, List.cons_append, List.nil_append, bk_]
 refine .seq (.rgn [] (by simp only [go_sem, seval, al_, ah_, ag_, ab_]; rfl) ?_ ?_)
 ·first | trivial | simp
 refine .seq (.seq (.rgn [] (by simp only [go_sem, seval, al_, ah_, ag_, ab_]; rfl) ?_ ?_))
 ·first | trivial | simp
 refine .condB (by simp only [go_sem, seval, al_, ah_, ag_, ab_]; rfl) (by simp only [go_sem, seval, al_, ah_, ag_, ab_]) (fun h10 => ?_) (fun h10 => ?_)
 ·refine .seq (.rgn [] (by simp only [go_sem, seval, al_, ah_, ag_, ab_]; rfl) ?_ ?_)
  ·first | trivial | simp
  refine .ret ⟨.inr rfl, ?_⟩
  exact Out.plain (by simp only [Tryz.results46]; rfl) (by simp only [av_, a5_, go_sem, seval, al_, ah_, ag_, ab_] <;> (split <;> rfl)) (by simp only [a2_, go_sem, seval, al_, ah_, ag_, ab_] <;> (simp at h10; have h : ¬ a = b := (fun e => h10 (by rw [e])); simp [h])) (by simp only [go_sem, seval, al_, ah_, ag_, ab_])
 ·refine .skip (.seq (.seq (.rgn [] (by simp only [go_sem, seval, al_, ah_, ag_, ab_]; rfl) ?_ ?_)))
  ·first | trivial | simp
  refine .block (.loopK (fun k : Nat => ⟨[.sl false (pgR a), .sl false (pgR b), .no, .no, .no, .i .i64 k, .no, .no, .no, .no, .no, .no, .no, .no, .no, .no, .no, .no, .no, .no, .no, .no, .no, .no, .no, .no, .no], be_ [], us []⟩) (fun k : Nat => k ≤ a.length ∧ a.take k = b.take k) (fun k : Nat => a.length - k) (0) ?_ ?_ (fun k hI => ?_))
  ·simp
  ·exact Can.weak (Weak.lit (by simp only [go_sem, seval, al_, ah_, ag_, ab_, as_, leV, aq_, ar_, V.inn, us, T9_, Ta_] <;> (simp)) (by simp only [go_sem, seval, al_, ah_, ag_, ab_, as_, leV, aq_, ar_, V.inn, us, T9_, Ta_]) (by simp only [go_sem, seval, al_, ah_, ag_, ab_, as_, leV, aq_, ar_, V.inn, us, T9_, Ta_]))
  refine .seq (.seq (.rgn [] (by simp only [go_sem, seval, al_, ah_, ag_, ab_]; rfl) ?_ ?_))
  ·first | trivial | simp
  refine .condB (by simp only [go_sem, seval, al_, ah_, ag_, ab_]; rfl) (by simp only [go_sem, seval, al_, ah_, ag_, ab_]) (fun h14 => ?_) (fun h14 => ?_)
  ·refine .skip (.seq (.block (.seq (.rgnD [by_ (k < a.length ∧ k < b.length) (fun h => zc_ (a.getD k Pg0) (b.getD k Pg0) (ha _ (bo_ h.1)) (hb _ (bo_ h.2)))] enM (by simp only [go_sem, seval, al_, ah_, ag_, ab_, dt_ (show k < a.length by simpa using h14), dt_ (show k < b.length by simp at h14 h10; omega)]; rfl) (by rfl) ?_ ?_))))
   ·simp at h14 h10; simp; omega
   refine .condB (by simp only [go_sem, seval, al_, ah_, ag_, ab_]; rfl) (by simp only [go_sem, seval, al_, ah_, ag_, ab_]) (fun h26 => ?_) (fun h26 => ?_)
   ·refine .seq (.rgn [] (by simp only [go_sem, seval, al_, ah_, ag_, ab_]; rfl) ?_ ?_)
    ·first | trivial | simp
    refine .ret ⟨.inr rfl, ?_⟩
    exact Out.plain (by simp only [Tryz.results46]; rfl) (by simp only [av_, a5_, go_sem, seval, al_, ah_, ag_, ab_] <;> (split <;> rfl)) (by simp only [a2_, go_sem, seval, al_, ah_, ag_, ab_] <;> (simp at h14 h10; have h : ¬ a = b := (fun e => by rw [e] at h26; simp at h26); simp [h])) (by simp only [go_sem, seval, al_, ah_, ag_, ab_])
   ·refine .skip (.rgn [] (by simp only [go_sem, seval, al_, ah_, ag_, ab_]; rfl) ?_ ?_)
    ·first | trivial | simp
    refine Exists.intro (k + 1) ⟨?_, ?_, ?_⟩
    ·simp at h14 h10; exact ⟨by omega, ahk_ h14 (by omega) hI.2 (by simpa using h26)⟩
    ·simp at h14; omega
    exact Can.weak (Weak.lit (by simp only [go_sem, seval, al_, ah_, ag_, ab_, as_, leV, aq_, ar_, V.inn, us, T9_, Ta_] <;> (rw [bg_ (by simp at h14; omega) (by simp at h14; omega)]; simp)) (by simp only [go_sem, seval, al_, ah_, ag_, ab_, as_, leV, aq_, ar_, V.inn, us, T9_, Ta_]) (by simp only [go_sem, seval, al_, ah_, ag_, ab_, as_, leV, aq_, ar_, V.inn, us, T9_, Ta_]))
  ·refine .exit (.seq (.rgn [] (by simp only [go_sem, seval, al_, ah_, ag_, ab_]; rfl) ?_ ?_))
   ·first | trivial | simp
   refine .ret ⟨.inr rfl, ?_⟩
   exact Out.plain (by simp only [Tryz.results46]; rfl) (by simp only [av_, a5_, go_sem, seval, al_, ah_, ag_, ab_] <;> (split <;> rfl)) (by simp only [a2_, go_sem, seval, al_, ah_, ag_, ab_] <;> (simp at h14 h10; have q := hI.2; rw [T1_ (by omega), T1_ (by omega)] at q; simp [q])) (by simp only [go_sem, seval, al_, ah_, ag_, ab_])
end
section
open Go.ChangeShapes Go.WideShapes Go.ChangeAt Go.RowKit
set_option maxRecDepth 100000
section
variable {H : Type} {enc : TypeId × Value → H} {W : World}
theorem xk_ : Tryz.prog.cellsOf 100 = 4 := by kernel_rfl
theorem ahn_ : Tryz.prog.cellsOf 4 = 1 := by kernel_rfl
theorem ad0_ : Tryz.prog.cellsOf 25 = 1 := by kernel_rfl
theorem abf_ (s : Pg) : (pgC s).all V.one = true := by rw [ag_]; rfl
theorem abk_ : ∀ fuel, Opn enc Tryz.prog W fuel 25 fun vs => ∃ l : List Int, vs = [.sl false (inR l)] ∧ l.length ≤ maxLen := by
 intro fuel cs x h
 obtain ⟨vs, ⟨l, rfl, h1, _⟩, h2, h3⟩ := qm_ (fun n : Int => [V.i .i64 n]) (fun _ => True) Tryz.underlying25 ab5_ (by decide) (fun n _ cs x h => by
  obtain ⟨vs, ⟨n, rfl, _⟩, k⟩ := ahx_ Tryz.underlying3 cs x h
  exact ⟨_, ⟨n, rfl, trivial⟩, k⟩) cs x h
 exact ⟨_, ⟨l, rfl, h1⟩, h2, h3⟩
theorem adt_ : ∀ fuel, Opn enc Tryz.prog W fuel 100 fun vs => ∃ s, vs = pgC s ∧ bdP s = true := by
 intro fuel cs x h
 obtain ⟨hl, _, ⟨k, rfl, hk⟩, u0, o0⟩ := jm_ Tryz.underlying100 h (i := 0) rfl rfl uv_ fun n _ => st_ Tryz.underlying9
 obtain ⟨_, _, ⟨g, rfl⟩, u1, o1⟩ := jm_ Tryz.underlying100 h (i := 1) rfl rfl ahn_ fun n _ => ael_ Tryz.underlying4
 obtain ⟨_, _, ⟨t, rfl, ht⟩, u2, o2⟩ := jm_ Tryz.underlying100 h (i := 2) rfl rfl uv_ fun n _ => st_ Tryz.underlying9
 obtain ⟨_, _, ⟨f, rfl, hf⟩, u3, o3⟩ := jm_ Tryz.underlying100 h (i := 3) rfl rfl ad0_ fun n _ => abk_ n
 rw [xk_] at hl
 have hm : maxLen = 9223372036854775807 := by decide
 refine ⟨_, ⟨⟨k, g, t, f⟩, rfl, by simp only [bdP, T5_, T3_]; omega⟩, ?_, abf_ _⟩
 have := mk_ u0 rfl (mk_ u1 rfl (mk_ u2 rfl (ac5_ u3 hl)))
 simpa [pgC] using this
theorem mg_ {r : Reach} {base : Nat} {v0 : Value} {d0 : DataW H} {p : List MemPlace} (hv : Value.okWide Tryz.prog W r base 62 v0) (h0 : DataW.Trod enc Tryz.prog W 0 (fun _ => true) true 62 v0 d0 p) :
  ∃ l : List Pg, ((∀ s ∈ l, bdP s = true) ∧ l.length ≤ 9223372036854775807) ∧ VR (fun _ => none) (fun _ => True) W (.sl false (pgR l)) v0 := by
 obtain ⟨a0, len, cap, rfl⟩ := okWide_slice Tryz.underlying62 hv
 obtain ⟨fuel, h⟩ := h0
 obtain ⟨_, ⟨l, rfl, hlen, hg⟩, hr, _⟩ := qm_ pgC (fun s => bdP s = true) Tryz.underlying62 xk_ (by decide) (fun n _ => adt_ n) _ _ h
 have hm : maxLen = 9223372036854775807 := by decide
 refine ⟨l, ⟨hg, by omega⟩, ?_⟩
 simp only [VRs] at hr
 obtain ⟨x, q, e1, hx, rfl⟩ := hr
 simp [Value.cells] at e1
 rw [e1]; exact hx
end
end
end Go.Proofs.YtpikbndepapbhabGreatDoor
