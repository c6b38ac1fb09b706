/- What the exact laws do with lists of lines without types. Conditions: none. -/
import Derived.Test.YtcigkafioinfoaaGreatDoorKm
import Derived.Test.YtcigkafioinfoaaGreatDoorKr
import Derived.Test.YtcigkafioinfoaaGreatDoorKq2
set_option linter.unusedVariables false
set_option linter.unusedSimpArgs false
namespace Go.Proofs.YtcigkafioinfoaaGreatDoor
section
set_option maxRecDepth 100000
set_option maxHeartbeats 4000000
/-! lists -/
def kz_ : List Bl → Int → Int
 | [], l => l
 | s :: r, l => if szB s l < 0 then -1 else kz_ r (szB s l)
def nb_ (l : List Bl) (q : Int) : Int := if q - l.length < 0 then -1 else kz_ l (q - l.length)
theorem tm_ : ∀ (r : List Bl) (l : Int), -1 ≤ l → l ≤ 1048576 → 0 ≤ kz_ r l → h4_ r = true
 | [], _, _, _, _ => rfl
 | s :: r, l, h0, hl, h => by
  simp only [kz_] at h
  have h1 := w8_ s l h0
  split at h
  ·omega
  ·have h2 := ace_ hl h0 (show 0 ≤ szB s l by omega)
   have h3 := tm_ r (szB s l) (by omega) (by omega) h
   simp only [h4_, List.all_cons, h2, Bool.true_and]; exact h3
theorem aaf_ {l : List Bl} (h : 0 ≤ nb_ l 1048576) : h4_ l = true ∧ l.length ≤ 1048576 := by
 unfold nb_ at h
 split at h
 ·omega
 ·exact ⟨tm_ l _ (by omega) (by omega) h, by omega⟩
theorem n4_ {l : List Bl} {k : Nat} (h : k < l.length) (q : Int) : kz_ (l.drop k) q = if szB (l.getD k B0) q < 0 then -1 else kz_ (l.drop (k + 1)) (szB (l.getD k B0) q) := by
 rw [List.drop_eq_getElem_cons h, T8_, T6_ h]; simp only [kz_, Option.getD_some]
theorem vc_ (l : List Bl) (hb : ∀ s ∈ l, bdB s = true) (hl : l.length ≤ 9223372036854775807) (q : Int) (h1 : 0 ≤ q) (h2 : q ≤ 1048576) : ACall En 27 [.sl false (bLR l), .i .i64 q] [] [.i .i64 (nb_ l q)] [] := by
 have hw : IntKind.i64.wrap (q - l.length) = q - l.length := bm_ (by omega) (by omega)
 refine am_ (fn := Tryz.f27) [] Tryz.func27 rfl rfl (by simp) fun C => ?_
 rw [a2_]
 simp only [Tryz.ntmps27, T7_, List.length_nil, Nat.reduceAdd, Nat.reduceSub, List.replicate_succ, List.replicate_zero, List.cons_append, List.nil_append, bn_]
 refine .seq (.rgn [] (by simp only [go_sem, seval, hw, aj_, ah_, ai_]; rfl) ?_ ?_)
 ·first | trivial | simp
 refine .seq (.rgn [] (by simp only [go_sem, seval, hw, aj_, ah_, ai_]; rfl) ?_ ?_)
 ·first | trivial | simp
 refine .seq (.seq (.rgn [] (by simp only [go_sem, seval, hw, aj_, ah_, ai_]; rfl) ?_ ?_))
 ·first | trivial | simp
 refine .condB (by simp only [go_sem, seval, hw, aj_, ah_, ai_]; rfl) (by simp only [go_sem, seval, hw, aj_, ah_, ai_]) (fun h11 => ?_) (fun h11 => ?_)
 ·refine .seq (.rgn [] (by simp only [go_sem, seval, hw, aj_, ah_, ai_]; rfl) ?_ ?_)
  ·first | trivial | simp
  refine .ret ⟨.inr rfl, ?_⟩
  exact Out.plain (by simp only [Tryz.results27]; rfl) (by simp only [ax_, bj_, go_sem, seval, hw, aj_, ah_, ai_] <;> (split <;> rfl)) (by simp only [bi_, go_sem, seval, hw, aj_, ah_, ai_] <;> (simp at h11; simp [nb_, h11])) (by simp only [go_sem, seval, hw, aj_, ah_, ai_])
 ·refine .skip (.seq (.seq (.rgn [] (by simp only [go_sem, seval, hw, aj_, ah_, ai_]; rfl) ?_ ?_)))
  ·first | trivial | simp
  refine .block (.loopK (fun k : Nat × Int => ⟨[.sl false (bLR l), .i .i64 k.2, .no, .no, .no, .i .i64 k.1, .no, .no, .no, .no, .no, .no, .no, .no, .no, .no, .no, .no, .no, .no, .no, .no, .no, .no, .no, .no, .no], be_ [], us []⟩) (fun k : Nat × Int => k.1 ≤ l.length ∧ 0 ≤ k.2 ∧ k.2 ≤ 1048576 ∧ nb_ l q = kz_ (l.drop k.1) k.2) (fun k : Nat × Int => l.length - k.1) ((0, q - l.length)) ?_ ?_ (fun k hI => ?_))
  ·simp at h11; simp [nb_, show ¬ (q - (l.length : Int) < 0) by omega]; omega
  ·exact Can.weak (Weak.lit (by simp only [go_sem, seval, hw, aj_, ah_, ai_, at_, leV, as_, ar_, V.inn, us, T9_, Ta_] <;> (simp)) (by simp only [go_sem, seval, hw, aj_, ah_, ai_, at_, leV, as_, ar_, V.inn, us, T9_, Ta_]) (by simp only [go_sem, seval, hw, aj_, ah_, ai_, at_, leV, as_, ar_, V.inn, us, T9_, Ta_]))
  refine .seq (.seq (.rgn [] (by simp only [go_sem, seval, hw, aj_, ah_, ai_]; rfl) ?_ ?_))
  ·first | trivial | simp
  refine .condB (by simp only [go_sem, seval, hw, aj_, ah_, ai_]; rfl) (by simp only [go_sem, seval, hw, aj_, ah_, ai_]) (fun h15 => ?_) (fun h15 => ?_)
  ·refine .skip (.seq (.block (.seq (.rgn [c9_ (k.1 < l.length ∧ 0 ≤ k.2 ∧ k.2 ≤ 1048576) (fun h => wk_ (l.getD k.1 B0) (hb _ (bw_ h.1)) k.2 h.2.1 h.2.2)] (by simp only [go_sem, seval, hw, aj_, ah_, ai_, et_ (show k.1 < l.length by simpa using h15)]; rfl) ?_ ?_))))
   ·simp only [T3_] at h15; simp; omega
   refine .seq (.rgn [] (by simp only [go_sem, seval, hw, aj_, ah_, ai_]; rfl) ?_ ?_)
   ·first | trivial | simp
   refine .condB (by simp only [go_sem, seval, hw, aj_, ah_, ai_]; rfl) (by simp only [go_sem, seval, hw, aj_, ah_, ai_]) (fun h25 => ?_) (fun h25 => ?_)
   ·refine .seq (.rgn [] (by simp only [go_sem, seval, hw, aj_, ah_, ai_]; rfl) ?_ ?_)
    ·first | trivial | simp
    refine .ret ⟨.inr rfl, ?_⟩
    exact Out.plain (by simp only [Tryz.results27]; rfl) (by simp only [ax_, bj_, go_sem, seval, hw, aj_, ah_, ai_] <;> (split <;> rfl)) (by simp only [bi_, go_sem, seval, hw, aj_, ah_, ai_] <;> (simp at h15; simp only [T3_] at h25; have e1 := n4_ h15 k.2; rw [if_pos h25] at e1; rw [hI.2.2.2, e1])) (by simp only [go_sem, seval, hw, aj_, ah_, ai_])
   ·refine .skip (.rgn [] (by simp only [go_sem, seval, hw, aj_, ah_, ai_]; rfl) ?_ ?_)
    ·first | trivial | simp
    refine Exists.intro ((k.1 + 1, szB (l.getD k.1 B0) k.2)) ⟨?_, ?_, ?_⟩
    ·simp at h15; simp only [T4_] at h25; have e1 := n4_ h15 k.2; have e2 := w8_ (l.getD k.1 B0) k.2 (by omega); rw [if_neg (by omega)] at e1; exact ⟨by dsimp only; omega, by dsimp only; omega, by dsimp only; omega, by rw [hI.2.2.2, e1]⟩
    ·simp at h15; simp; omega
    exact Can.weak (Weak.lit (by simp only [go_sem, seval, hw, aj_, ah_, ai_, at_, leV, as_, ar_, V.inn, us, T9_, Ta_] <;> (rw [bm_ (by simp at h15; omega) (by simp at h15; omega)]; simp)) (by simp only [go_sem, seval, hw, aj_, ah_, ai_, at_, leV, as_, ar_, V.inn, us, T9_, Ta_]) (by simp only [go_sem, seval, hw, aj_, ah_, ai_, at_, leV, as_, ar_, V.inn, us, T9_, Ta_]))
  ·refine .exit (.seq (.rgn [] (by simp only [go_sem, seval, hw, aj_, ah_, ai_]; rfl) ?_ ?_))
   ·first | trivial | simp
   refine .ret ⟨.inr rfl, ?_⟩
   exact Out.plain (by simp only [Tryz.results27]; rfl) (by simp only [ax_, bj_, go_sem, seval, hw, aj_, ah_, ai_] <;> (split <;> rfl)) (by simp only [bi_, go_sem, seval, hw, aj_, ah_, ai_] <;> (simp at h15; rw [hI.2.2.2, List.drop_of_length_le h15]; rfl)) (by simp only [go_sem, seval, hw, aj_, ah_, ai_])
def z10 : List V := [.i .i64 0, .s [], .i .i64 0, .i .i64 0, .s [], .sl true [], .i .i64 0, .i .i64 0, .s [], .sl true []]
theorem dt_ (l : List Bl) (k j : Nat) : ((cr_ (bLR l) z10 k).getD j []).drop 10 = [] := by
 rw [T8_]
 cases h : (cr_ (bLR l) z10 k)[j]? with
 | none => rfl
 | some r =>
  have hm := List.mem_of_getElem? h
  have : r.length = 10 := by
   rcases gs_ hm with hm | rfl
   ·obtain ⟨s, _, rfl⟩ := List.mem_map.1 hm; exact acf_ s
   ·rfl
  simp only [Option.getD_some]; exact List.drop_of_length_le (by omega)
theorem kb_ (l : List Bl) (hs : h4_ l = true) (hl : l.length ≤ 1048576) : ACall En 29 [.sl false (bLR l)] [] [.sl false (bLR l)] [] := by
 have hp : ∀ k, cf_ (cr_ (bLR l) z10 k) = true := fun k => gk_ (ah_ _) rfl
 refine am_ (fn := Tryz.f29) [] Tryz.func29 rfl rfl (by simp) fun C => ?_
 rw [a2_]
 simp only [Tryz.ntmps29, T7_, List.length_nil, Nat.reduceAdd, Nat.reduceSub, List.replicate_succ, List.replicate_zero, List.cons_append, List.nil_append, bn_]
 refine .seq (.rgn [] (by simp only [go_sem, seval, hp, dt_, aq_, aj_, ai_, ah_]; rfl) ?_ ?_)
 ·first | trivial | simp
 refine .seq (.rgn [] (by simp only [go_sem, seval, hp, dt_, aq_, aj_, ai_, ah_]; rfl) ?_ ?_)
 ·simp; omega
 refine .seq (.seq (.rgn [] (by simp only [go_sem, seval, hp, dt_, aq_, aj_, ai_, ah_]; rfl) ?_ ?_))
 ·first | trivial | simp
 refine .block (.loopK (fun k : Nat => ⟨[.sl false (bLR l), .no, .no, .ow 17 10 0 l.length, .i .i64 k, .no, .no, .no, .no, .no, .no, .no, .no, .no, .no, .no, .no, .no, .no, .no, .no, .no, .no], be_ [(17, ⟨83, 10, cr_ (bLR l) z10 k⟩)], us [17]⟩) (fun k : Nat => k ≤ l.length) (fun k : Nat => l.length - k) (0) ?_ ?_ (fun k hI => ?_))
 ·simp
 ·exact Can.weak (Weak.lit (by simp only [go_sem, seval, hp, dt_, aq_, aj_, ai_, ah_, at_, leV, as_, ar_, V.inn, us, T9_, Ta_] <;> (simp)) (by simp only [go_sem, seval, hp, dt_, aq_, aj_, ai_, ah_, at_, leV, as_, ar_, V.inn, us, T9_, Ta_]) (by simp only [go_sem, seval, hp, dt_, aq_, aj_, ai_, ah_, at_, leV, as_, ar_, V.inn, us, T9_, Ta_] <;> (simp [fp_, z10, aj_])))
 refine .seq (.seq (.rgn [] (by simp only [go_sem, seval, hp, dt_, aq_, aj_, ai_, ah_]; rfl) ?_ ?_))
 ·first | trivial | simp
 refine .condB (by simp only [go_sem, seval, hp, dt_, aq_, aj_, ai_, ah_]; rfl) (by simp only [go_sem, seval, hp, dt_, aq_, aj_, ai_, ah_]) (fun h11 => ?_) (fun h11 => ?_)
 ·refine .skip (.seq (.block (.rgn [c9_ (k < l.length) (fun h => yu_ (l.getD k B0) (hv_ hs h))] (by simp only [go_sem, seval, hp, dt_, aq_, aj_, ai_, ah_, et_ (show k < l.length by simpa using h11)]; rfl) ?_ ?_)))
  ·simp only [T3_] at h11; simp; omega
  refine .rgn [] (by simp only [go_sem, seval, hp, dt_, aq_, aj_, ai_, ah_]; rfl) ?_ ?_
  ·first | trivial | simp
  refine Exists.intro (k + 1) ⟨?_, ?_, ?_⟩
  ·simp at h11; omega
  ·simp at h11; omega
  exact Can.weak (Weak.lit (by simp only [go_sem, seval, hp, dt_, aq_, aj_, ai_, ah_, at_, leV, as_, ar_, V.inn, us, T9_, Ta_] <;> (rw [bm_ (by simp at h11; omega) (by simp at h11; omega)]; simp)) (by simp only [go_sem, seval, hp, dt_, aq_, aj_, ai_, ah_, at_, leV, as_, ar_, V.inn, us, T9_, Ta_]) (by simp only [go_sem, seval, hp, dt_, aq_, aj_, ai_, ah_, at_, leV, as_, ar_, V.inn, us, T9_, Ta_] <;> (rw [← fu_ (by rw [aj_]; simpa using h11), et_ (by simpa using h11), ai_])))
 ·refine .exit (.seq (.rgn [] (by simp only [go_sem, seval, hp, dt_, aq_, aj_, ai_, ah_]; rfl) ?_ ?_))
  ·first | trivial | simp
  refine .frz 17 (by simp only [go_sem, seval, hp, dt_, aq_, aj_, ai_, ah_]; rfl) (by simp only [go_sem, seval, hp, dt_, aq_, aj_, ai_, ah_]) (by simp only [go_sem, seval, hp, dt_, aq_, aj_, ai_, ah_]; rfl) (by simp only [go_sem, seval, hp, dt_, aq_, aj_, ai_, ah_]; rfl) ?_
  refine .ret ⟨.inr rfl, ?_⟩
  exact Out.plain (by simp only [Tryz.results29]; rfl) (by simp only [ax_, bj_, go_sem, seval, hp, dt_, aq_, aj_, ai_, ah_] <;> (split <;> rfl)) (by simp only [bi_, go_sem, seval, hp, dt_, aq_, aj_, ai_, ah_] <;> (simp at h11; rw [fx_ (by simpa [aj_] using h11)]; simp [T1_, peel, aj_])) (by simp only [go_sem, seval, hp, dt_, aq_, aj_, ai_, ah_])
theorem x0_ (a : Bl) : gc_ a a = true := (vk_ a a).2 rfl
def j4_ (a b : List Bl) : Bool := decide (a.length = b.length) && (a.zip b).all fun q => gc_ q.1 q.2
theorem qn_ (a : List Bl) : j4_ a a = true := by
 simp only [j4_, decide_true, Bool.true_and, List.all_eq_true]
 intro q hq
 obtain ⟨j, hj⟩ := List.mem_iff_getElem?.1 hq
 rw [List.getElem?_zip_eq_some] at hj
 have : q.1 = q.2 := by rw [hj.1] at hj; exact Option.some.inj hj.2
 rw [this]; exact x0_ _
theorem vw_ {a b : List Bl} {k : Nat} (f : Bl × Bl → Bool) (ha : k < a.length) (hb : k < b.length) : ((a.zip b).take (k + 1)).all f = (((a.zip b).take k).all f && f (a.getD k B0, b.getD k B0)) := by
 have h : k < (a.zip b).length := by rw [List.length_zip]; omega
 rw [List.take_add_one, T6_ h, List.all_append]
 simp [T8_, T6_ ha, T6_ hb]
theorem wc_ {a b : List Bl} {k : Nat} (f : Bl × Bl → Bool) (ha : k < a.length) (hb : k < b.length) (h : f (a.getD k B0, b.getD k B0) = false) : (a.zip b).all f = false := by
 rw [List.all_eq_false]
 refine ⟨(a.getD k B0, b.getD k B0), ?_, by rw [h]; simp⟩
 refine List.mem_iff_getElem?.2 ⟨k, ?_⟩
 rw [List.getElem?_zip_eq_some]
 simp [T8_, T6_ ha, T6_ hb]
theorem u6_ (a b : List Bl) (ha : h4_ a = true) (hb : h4_ b = true) (la : a.length ≤ 1048576) (lb : b.length ≤ 1048576) : ACall En 31 [.sl false (bLR a), .sl false (bLR b)] [] [.b (j4_ a b)] [] := by
 refine am_ (fn := Tryz.f31) [] Tryz.func31 rfl rfl (by simp) fun C => ?_
 rw [a2_]
 simp only [Tryz.ntmps31, T7_, List.length_nil, Nat.reduceAdd, Nat.reduceSub, List.replicate_succ, List.replicate_zero, List.cons_append, List.nil_append, bn_]
 refine .seq (.rgn [] (by simp only [go_sem, seval, aj_, ah_, ai_]; rfl) ?_ ?_)
 ·first | trivial | simp
 refine .seq (.seq (.rgn [] (by simp only [go_sem, seval, aj_, ah_, ai_]; rfl) ?_ ?_))
 ·first | trivial | simp
 refine .condB (by simp only [go_sem, seval, aj_, ah_, ai_]; rfl) (by simp only [go_sem, seval, aj_, ah_, ai_]) (fun h10 => ?_) (fun h10 => ?_)
 ·refine .seq (.rgn [] (by simp only [go_sem, seval, aj_, ah_, ai_]; rfl) ?_ ?_)
  ·first | trivial | simp
  refine .ret ⟨.inr rfl, ?_⟩
  exact Out.plain (by simp only [Tryz.results31]; rfl) (by simp only [ax_, bj_, go_sem, seval, aj_, ah_, ai_] <;> (split <;> rfl)) (by simp only [bi_, go_sem, seval, aj_, ah_, ai_] <;> (simp at h10; have h : ¬ a.length = b.length := (by omega); simp [j4_, h])) (by simp only [go_sem, seval, aj_, ah_, ai_])
 ·refine .skip (.seq (.seq (.rgn [] (by simp only [go_sem, seval, aj_, ah_, ai_]; rfl) ?_ ?_)))
  ·first | trivial | simp
  refine .block (.loopK (fun k : Nat => ⟨[.sl false (bLR a), .sl false (bLR b), .no, .no, .no, .i .i64 k, .no, .no, .no, .no, .no, .no, .no, .no, .no, .no, .no, .no, .no, .no, .no, .no, .no, .no, .no, .no, .no], be_ [], us []⟩) (fun k : Nat => k ≤ a.length ∧ ((a.zip b).take k).all (fun q => gc_ q.1 q.2) = true) (fun k : Nat => a.length - k) (0) ?_ ?_ (fun k hI => ?_))
  ·simp
  ·exact Can.weak (Weak.lit (by simp only [go_sem, seval, aj_, ah_, ai_, at_, leV, as_, ar_, V.inn, us, T9_, Ta_] <;> (simp)) (by simp only [go_sem, seval, aj_, ah_, ai_, at_, leV, as_, ar_, V.inn, us, T9_, Ta_]) (by simp only [go_sem, seval, aj_, ah_, ai_, at_, leV, as_, ar_, V.inn, us, T9_, Ta_]))
  refine .seq (.seq (.rgn [] (by simp only [go_sem, seval, aj_, ah_, ai_]; rfl) ?_ ?_))
  ·first | trivial | simp
  refine .condB (by simp only [go_sem, seval, aj_, ah_, ai_]; rfl) (by simp only [go_sem, seval, aj_, ah_, ai_]) (fun h14 => ?_) (fun h14 => ?_)
  ·refine .skip (.seq (.block (.seq (.rgnD [c9_ (k < a.length ∧ k < b.length) (fun h => x9_ (a.getD k B0) (b.getD k B0) (hv_ ha h.1) (hv_ hb h.2))] enM (by simp only [go_sem, seval, aj_, ah_, ai_, et_ (show k < a.length by simpa using h14), et_ (show k < b.length by simp at h14 h10; omega)]; rfl) (by rfl) ?_ ?_))))
   ·simp at h14 h10; simp; omega
   refine .condB (by simp only [go_sem, seval, aj_, ah_, ai_]; rfl) (by simp only [go_sem, seval, aj_, ah_, ai_]) (fun h26 => ?_) (fun h26 => ?_)
   ·refine .seq (.rgn [] (by simp only [go_sem, seval, aj_, ah_, ai_]; rfl) ?_ ?_)
    ·first | trivial | simp
    refine .ret ⟨.inr rfl, ?_⟩
    exact Out.plain (by simp only [Tryz.results31]; rfl) (by simp only [ax_, bj_, go_sem, seval, aj_, ah_, ai_] <;> (split <;> rfl)) (by simp only [bi_, go_sem, seval, aj_, ah_, ai_] <;> (simp at h14 h10; simp only [Bool.not_eq_true'] at h26; have := wc_ (fun q => gc_ q.1 q.2) h14 (show k < b.length by omega) h26; simp [j4_, this])) (by simp only [go_sem, seval, aj_, ah_, ai_])
   ·refine .skip (.rgn [] (by simp only [go_sem, seval, aj_, ah_, ai_]; rfl) ?_ ?_)
    ·first | trivial | simp
    refine Exists.intro (k + 1) ⟨?_, ?_, ?_⟩
    ·simp at h14 h10; have hb := vw_ (fun q => gc_ q.1 q.2) h14 (show k < b.length by omega); simp only [Bool.not_eq_false'] at h26; exact ⟨by omega, by rw [hb, hI.2, h26]; rfl⟩
    ·simp at h14; omega
    exact Can.weak (Weak.lit (by simp only [go_sem, seval, aj_, ah_, ai_, at_, leV, as_, ar_, V.inn, us, T9_, Ta_] <;> (rw [bm_ (by simp at h14; omega) (by simp at h14; omega)]; simp)) (by simp only [go_sem, seval, aj_, ah_, ai_, at_, leV, as_, ar_, V.inn, us, T9_, Ta_]) (by simp only [go_sem, seval, aj_, ah_, ai_, at_, leV, as_, ar_, V.inn, us, T9_, Ta_]))
  ·refine .exit (.seq (.rgn [] (by simp only [go_sem, seval, aj_, ah_, ai_]; rfl) ?_ ?_))
   ·first | trivial | simp
   refine .ret ⟨.inr rfl, ?_⟩
   exact Out.plain (by simp only [Tryz.results31]; rfl) (by simp only [ax_, bj_, go_sem, seval, aj_, ah_, ai_] <;> (split <;> rfl)) (by simp only [bi_, go_sem, seval, aj_, ah_, ai_] <;> (simp at h14 h10; have h0 := hI.2; rw [T1_ (by rw [List.length_zip]; omega)] at h0; have h : a.length = b.length := (by omega); simp [j4_, h, h0])) (by simp only [go_sem, seval, aj_, ah_, ai_])
end
end Go.Proofs.YtcigkafioinfoaaGreatDoor
