/- What the exact laws do with pages, and lists of them: size, copies, sameness. Conditions: none. -/
import Derived.Test.YtcigkafioinfoaaGreatDoorK11
import Derived.Test.YtcigkafioinfoaaGreatDoorK12
set_option linter.unusedVariables false
set_option linter.unusedSimpArgs false
namespace Go.Proofs.YtcigkafioinfoaaGreatDoor
section
set_option maxRecDepth 100000
set_option maxHeartbeats 4000000
def bdP (p : Pg) : Bool := decide (p.line.length ≤ 9223372036854775807) && decide (p.text.length ≤ 9223372036854775807) && decide (p.frm.length ≤ 9223372036854775807)
theorem agf_ {p : Pg} (h : bdP p = true) : p.line.length ≤ 9223372036854775807 ∧ p.text.length ≤ 9223372036854775807 ∧ p.frm.length ≤ 9223372036854775807 := by
 simp only [bdP, T5_, T3_] at h; exact ⟨h.1.1, h.1.2, h.2⟩
def szI (l : List Int) (q : Int) : Int := if q - l.length < 0 then -1 else q - l.length
theorem acj_ (l : List Int) (hl : l.length ≤ 9223372036854775807) (q : Int) (h1 : 0 ≤ q) (h2 : q ≤ 1048576) : ACall En 162 [.sl false (inR l), .i .i64 q] [] [.i .i64 (szI l q)] [] := by
 have hw : IntKind.i64.wrap (q - l.length) = q - l.length := bp_ (by omega) (by omega)
 refine al_ (fn := Tryz.f162) [] Tryz.func162 rfl rfl (by simp) fun C => ?_
 rw [ay_]
 simp only [Tryz.ntmps162, T7_, List.length_nil, Nat.reduceAdd, Nat.reduceSub, List.replicate_succ, List.replicate_zero, List.cons_append, List.nil_append, bs_]
 refine .seq (.rgn [] (by simp only [go_sem, seval, hw, ad_, aa_]; rfl) ?_ ?_)
 ·first | trivial | simp
 refine .seq (.rgn [] (by simp only [go_sem, seval, hw, ad_, aa_]; rfl) ?_ ?_)
 ·first | trivial | simp
 refine .seq (.seq (.rgn [] (by simp only [go_sem, seval, hw, ad_, aa_]; rfl) ?_ ?_))
 ·first | trivial | simp
 refine .condB (by simp only [go_sem, seval, hw, ad_, aa_]; rfl) (by simp only [go_sem, seval, hw, ad_, aa_]) (fun h10 => ?_) (fun h10 => ?_)
 ·refine .seq (.rgn [] (by simp only [go_sem, seval, hw, ad_, aa_]; rfl) ?_ ?_)
  ·first | trivial | simp
  refine .ret ⟨.inr rfl, ?_⟩
  exact Out.plain (by simp only [Tryz.results162]; rfl) (by simp only [az_, bj_, go_sem, seval, hw, ad_, aa_] <;> (split <;> rfl)) (by simp only [bg_, go_sem, seval, hw, ad_, aa_] <;> (simp only [T3_] at *; rw [szI, if_pos (by assumption)])) (by simp only [go_sem, seval, hw, ad_, aa_])
 ·refine .skip (.seq (.rgn [] (by simp only [go_sem, seval, hw, ad_, aa_]; rfl) ?_ ?_))
  ·first | trivial | simp
  refine .ret ⟨.inr rfl, ?_⟩
  exact Out.plain (by simp only [Tryz.results162]; rfl) (by simp only [az_, bj_, go_sem, seval, hw, ad_, aa_] <;> (split <;> rfl)) (by simp only [bg_, go_sem, seval, hw, ad_, aa_] <;> (simp only [T4_] at *; rw [szI, if_neg (by assumption)])) (by simp only [go_sem, seval, hw, ad_, aa_])
theorem ac8_ (l : List Int) (hl : l.length ≤ 1048576) : ACall En 163 [.sl false (inR l)] [] [.sl false (inR l)] [] := by
 have hp : ∀ k, cj_ (c3_ (inR l) [.i .i64 0] k) = true := fun k => ga_ (aa_ _) rfl
 have h1 : ∀ k j, ((c3_ (inR l) [.i .i64 0] k).getD j []).drop 1 = [] := fun k j => lj_ _ _ (fun r hr => n3_ hr) rfl k j
 refine al_ (fn := Tryz.f163) [] Tryz.func163 rfl rfl (by simp) fun C => ?_
 rw [ay_]
 simp only [Tryz.ntmps163, T7_, List.length_nil, Nat.reduceAdd, Nat.reduceSub, List.replicate_succ, List.replicate_zero, List.cons_append, List.nil_append, bs_]
 refine .seq (.rgn [] (by simp only [go_sem, seval, hp, h1, au_, ad_, aa_]; rfl) ?_ ?_)
 ·first | trivial | simp
 refine .seq (.rgn [] (by simp only [go_sem, seval, hp, h1, au_, ad_, aa_]; rfl) ?_ ?_)
 ·simp; omega
 refine .seq (.seq (.rgn [] (by simp only [go_sem, seval, hp, h1, au_, ad_, aa_]; rfl) ?_ ?_))
 ·first | trivial | simp
 refine .block (.loopK (fun k : Nat => ⟨[.sl false (inR l), .no, .no, .ow 17 1 0 l.length, .i .i64 k, .no, .no, .no, .no, .no, .no, .no, .no, .no, .no, .no, .no, .no, .no, .no, .no, .no], a7_ [(17, ⟨3, 1, c3_ (inR l) [.i .i64 0] k⟩)], us [17]⟩) (fun k : Nat => k ≤ l.length) (fun k : Nat => l.length - k) (0) ?_ ?_ (fun k hI => ?_))
 ·simp
 ·exact Can.weak (Weak.lit (by simp only [go_sem, seval, hp, h1, au_, ad_, aa_, at_, leV, aq_, ar_, V.inn, us, T9_, Ta_] <;> (simp)) (by simp only [go_sem, seval, hp, h1, au_, ad_, aa_, at_, leV, aq_, ar_, V.inn, us, T9_, Ta_]) (by simp only [go_sem, seval, hp, h1, au_, ad_, aa_, at_, leV, aq_, ar_, V.inn, us, T9_, Ta_] <;> (simp [fp_, ad_])))
 refine .seq (.seq (.rgn [] (by simp only [go_sem, seval, hp, h1, au_, ad_, aa_]; rfl) ?_ ?_))
 ·first | trivial | simp
 refine .condB (by simp only [go_sem, seval, hp, h1, au_, ad_, aa_]; rfl) (by simp only [go_sem, seval, hp, h1, au_, ad_, aa_]) (fun h11 => ?_) (fun h11 => ?_)
 ·refine .skip (.seq (.block (.rgn [] (by simp only [go_sem, seval, hp, h1, au_, ad_, aa_, dj_ (show k < l.length by simpa using h11)]; rfl) ?_ ?_)))
  ·simp only [T3_] at h11; simp; omega
  refine .rgn [] (by simp only [go_sem, seval, hp, h1, au_, ad_, aa_]; rfl) ?_ ?_
  ·first | trivial | simp
  refine Exists.intro (k + 1) ⟨?_, ?_, ?_⟩
  ·simp at h11; omega
  ·simp at h11; omega
  exact Can.weak (Weak.lit (by simp only [go_sem, seval, hp, h1, au_, ad_, aa_, at_, leV, aq_, ar_, V.inn, us, T9_, Ta_] <;> (rw [bp_ (by simp at h11; omega) (by simp at h11; omega)]; simp)) (by simp only [go_sem, seval, hp, h1, au_, ad_, aa_, at_, leV, aq_, ar_, V.inn, us, T9_, Ta_]) (by simp only [go_sem, seval, hp, h1, au_, ad_, aa_, at_, leV, aq_, ar_, V.inn, us, T9_, Ta_] <;> (rw [← fx_ (by rw [ad_]; simpa using h11), dj_ (by simpa using h11)])))
 ·refine .exit (.seq (.rgn [] (by simp only [go_sem, seval, hp, h1, au_, ad_, aa_]; rfl) ?_ ?_))
  ·first | trivial | simp
  refine .frz 17 (by simp only [go_sem, seval, hp, h1, au_, ad_, aa_]; rfl) (by simp only [go_sem, seval, hp, h1, au_, ad_, aa_]) (by simp only [go_sem, seval, hp, h1, au_, ad_, aa_]; rfl) (by simp only [go_sem, seval, hp, h1, au_, ad_, aa_]; rfl) ?_
  refine .ret ⟨.inr rfl, ?_⟩
  exact Out.plain (by simp only [Tryz.results163]; rfl) (by simp only [az_, bj_, go_sem, seval, hp, h1, au_, ad_, aa_] <;> (split <;> rfl)) (by simp only [bg_, go_sem, seval, hp, h1, au_, ad_, aa_] <;> (simp at h11; rw [gk_ (by simpa [ad_] using h11)]; simp [T1_, peel, ad_])) (by simp only [go_sem, seval, hp, h1, au_, ad_, aa_])
def szP (p : Pg) (l : Int) : Int := if l - p.line.length < 0 then -1 else if l - p.line.length - p.text.length < 0 then -1 else szI p.frm (l - p.line.length - p.text.length)
theorem acf_ (f : List Int) (l : Int) (h : -1 ≤ l) : -1 ≤ szI f l ∧ szI f l ≤ l := by unfold szI; split <;> omega
theorem ack_ (p : Pg) (l : Int) (h : -1 ≤ l) : -1 ≤ szP p l ∧ szP p l ≤ l := by
 unfold szP
 split
 ·omega
 ·split
  ·omega
  ·have h1 := acf_ p.frm (l - p.line.length - p.text.length) (by omega)
   omega
theorem akb_ {p : Pg} {l : Int} (hl : l ≤ 1048576) (h0 : -1 ≤ l) (h : 0 ≤ szP p l) : pgB p ∧ p.frm.length ≤ 1048576 := by
 unfold szP szI at h
 split at h
 ·omega
 ·split at h
  ·omega
  ·split at h
   ·omega
   ·exact ⟨⟨by omega, by omega, by omega⟩, by omega⟩
theorem aby_ (p : Pg) (hb : bdP p = true) (l : Int) (h1 : 0 ≤ l) (h2 : l ≤ 1048576) : ACall En 104 [.ag (pgC p), .i .i64 l] [] [.i .i64 (szP p l)] [] := by
 obtain ⟨b1, b2, b3⟩ := agf_ hb
 have hw : IntKind.i64.wrap (l - p.line.length) = l - p.line.length := bp_ (by omega) (by omega)
 refine al_ (fn := Tryz.f104) [] Tryz.func104 rfl rfl (by simp) fun C => ?_
 rw [ay_]
 simp only [Tryz.ntmps104, T7_, List.length_nil, Nat.reduceAdd, Nat.reduceSub, List.replicate_succ, List.replicate_zero, List.cons_append, List.nil_append, bs_]
 refine .seq (.rgn [] (by simp only [go_sem, seval, hw, ai_, aa_]; rfl) ?_ ?_)
 ·first | trivial | simp
 refine .seq (.rgn [] (by simp only [go_sem, seval, hw, ai_, aa_]; rfl) ?_ ?_)
 ·first | trivial | simp
 refine .seq (.seq (.rgn [] (by simp only [go_sem, seval, hw, ai_, aa_]; rfl) ?_ ?_))
 ·first | trivial | simp
 refine .condB (by simp only [go_sem, seval, hw, ai_, aa_]; rfl) (by simp only [go_sem, seval, hw, ai_, aa_]) (fun h11 => ?_) (fun h11 => ?_)
 ·refine .seq (.rgn [] (by simp only [go_sem, seval, hw, ai_, aa_]; rfl) ?_ ?_)
  ·first | trivial | simp
  refine .ret ⟨.inr rfl, ?_⟩
  exact Out.plain (by simp only [Tryz.results104]; rfl) (by simp only [az_, bj_, go_sem, seval, hw, ai_, aa_] <;> (split <;> rfl)) (by simp only [bg_, go_sem, seval, hw, ai_, aa_] <;> (simp only [T3_] at h11; rw [szP, if_pos h11])) (by simp only [go_sem, seval, hw, ai_, aa_])
 ·refine .skip (.seq (.rgn [] (by simp only [go_sem, seval, hw, ai_, aa_, bp_ (show -9223372036854775808 ≤ l - (p.line.length : Int) - p.text.length by simp only [T4_] at h11; omega) (by omega)]; rfl) ?_ ?_))
  ·first | trivial | simp
  refine .seq (.seq (.rgn [] (by simp only [go_sem, seval, hw, ai_, aa_]; rfl) ?_ ?_))
  ·first | trivial | simp
  refine .condB (by simp only [go_sem, seval, hw, ai_, aa_]; rfl) (by simp only [go_sem, seval, hw, ai_, aa_]) (fun h18 => ?_) (fun h18 => ?_)
  ·refine .seq (.rgn [] (by simp only [go_sem, seval, hw, ai_, aa_]; rfl) ?_ ?_)
   ·first | trivial | simp
   refine .ret ⟨.inr rfl, ?_⟩
   exact Out.plain (by simp only [Tryz.results104]; rfl) (by simp only [az_, bj_, go_sem, seval, hw, ai_, aa_] <;> (split <;> rfl)) (by simp only [bg_, go_sem, seval, hw, ai_, aa_] <;> (simp only [T3_, T4_] at h11 h18; rw [szP, if_neg h11, if_pos h18])) (by simp only [go_sem, seval, hw, ai_, aa_])
  ·refine .skip (.seq (.rgn [cw_ (0 ≤ l - (p.line.length : Int) - p.text.length) (fun h => acj_ p.frm b3 (l - p.line.length - p.text.length) h (by omega))] (by simp only [go_sem, seval, hw, ai_, aa_]; rfl) ?_ ?_))
   ·simp only [T4_] at h11 h18; simp; omega
   refine .seq (.seq (.rgn [] (by simp only [go_sem, seval, hw, ai_, aa_]; rfl) ?_ ?_))
   ·first | trivial | simp
   refine .condB (by simp only [go_sem, seval, hw, ai_, aa_]; rfl) (by simp only [go_sem, seval, hw, ai_, aa_]) (fun h24 => ?_) (fun h24 => ?_)
   ·refine .seq (.rgn [] (by simp only [go_sem, seval, hw, ai_, aa_]; rfl) ?_ ?_)
    ·first | trivial | simp
    refine .ret ⟨.inr rfl, ?_⟩
    exact Out.plain (by simp only [Tryz.results104]; rfl) (by simp only [az_, bj_, go_sem, seval, hw, ai_, aa_] <;> (split <;> rfl)) (by simp only [bg_, go_sem, seval, hw, ai_, aa_] <;> (simp only [T3_, T4_] at h11 h18 h24; rw [szP, if_neg h11, if_neg h18]; have := acf_ p.frm (l - p.line.length - p.text.length) (by omega); congr 1; congr 1; omega)) (by simp only [go_sem, seval, hw, ai_, aa_])
   ·refine .skip (.seq (.rgn [] (by simp only [go_sem, seval, hw, ai_, aa_]; rfl) ?_ ?_))
    ·first | trivial | simp
    refine .ret ⟨.inr rfl, ?_⟩
    exact Out.plain (by simp only [Tryz.results104]; rfl) (by simp only [az_, bj_, go_sem, seval, hw, ai_, aa_] <;> (split <;> rfl)) (by simp only [bg_, go_sem, seval, hw, ai_, aa_] <;> (simp only [T3_, T4_] at h11 h18 h24; rw [szP, if_neg h11, if_neg h18])) (by simp only [go_sem, seval, hw, ai_, aa_])
theorem aec_ (p : Pg) (hs : p.frm.length ≤ 1048576) : ACall En 105 [.ag (pgC p)] [] [.ag (pgC p)] [] := by
 refine al_ (fn := Tryz.f105) [] Tryz.func105 rfl rfl (by simp) fun C => ?_
 rw [ay_]
 simp only [Tryz.ntmps105, T7_, List.length_nil, Nat.reduceAdd, Nat.reduceSub, List.replicate_succ, List.replicate_zero, List.cons_append, List.nil_append, bs_]
 refine .seq (.rgn [] (by simp only [go_sem, seval, ai_, aa_]; rfl) ?_ ?_)
 ·first | trivial | simp
 refine .seq (.rgn [] (by simp only [go_sem, seval, ai_, aa_]; rfl) ?_ ?_)
 ·first | trivial | simp
 refine .seq (.rgn [] (by simp only [go_sem, seval, ai_, aa_]; rfl) ?_ ?_)
 ·first | trivial | simp
 refine .seq (.rgn [] (by simp only [go_sem, seval, ai_, aa_]; rfl) ?_ ?_)
 ·first | trivial | simp
 refine .seq (.rgn [] (by simp only [go_sem, seval, ai_, aa_]; rfl) ?_ ?_)
 ·first | trivial | simp
 refine .seq (.rgn [a9_ (ac8_ p.frm hs)] (by simp only [go_sem, seval, ai_, aa_]; rfl) ?_ ?_)
 ·first | trivial | simp
 refine .seq (.rgn [] (by simp only [go_sem, seval, ai_, aa_]; rfl) ?_ ?_)
 ·first | trivial | simp
 refine .ret ⟨.inr rfl, ?_⟩
 exact Out.plain (by simp only [Tryz.results105]; rfl) (by simp only [az_, bj_, go_sem, seval, ai_, aa_] <;> (split <;> rfl)) (by simp only [bg_, go_sem, seval, ai_, aa_] <;> (rfl)) (by simp only [go_sem, seval, ai_, aa_])
/-! lists -/
def nu_ : List Pg → Int → Int
 | [], l => l
 | s :: r, l => if szP s l < 0 then -1 else nu_ r (szP s l)
def np_ (l : List Pg) (q : Int) : Int := if q - l.length < 0 then -1 else nu_ l (q - l.length)
theorem y2_ : ∀ (r : List Pg) (l : Int), -1 ≤ l → l ≤ 1048576 → 0 ≤ nu_ r l → ∀ p ∈ r, pgB p ∧ p.frm.length ≤ 1048576
 | [], _, _, _, _ => fun p hp => by cases hp
 | s :: r, l, h0, hl, h => by
  simp only [nu_] at h
  have h1 := ack_ s l h0
  split at h
  ·omega
  ·intro p hp
   rcases List.mem_cons.1 hp with rfl | hp
   ·exact akb_ hl h0 (by omega)
   ·exact y2_ r (szP s l) (by omega) (by omega) h p hp
theorem ym_ {l : List Pg} (h : 0 ≤ np_ l 1048576) : (∀ p ∈ l, pgB p ∧ p.frm.length ≤ 1048576) ∧ l.length ≤ 1048576 := by
 unfold np_ at h
 split at h
 ·omega
 ·exact ⟨y2_ l _ (by omega) (by omega) h, by omega⟩
theorem sc_ {l : List Pg} {k : Nat} (h : k < l.length) (q : Int) : nu_ (l.drop k) q = if szP (l.getD k Pg0) q < 0 then -1 else nu_ (l.drop (k + 1)) (szP (l.getD k Pg0) q) := by
 rw [List.drop_eq_getElem_cons h, T8_, T6_ h]; simp only [nu_, Option.getD_some]
theorem ru_ (l : List Pg) (hb : ∀ s ∈ l, bdP s = true) (hl : l.length ≤ 9223372036854775807) (q : Int) (h1 : 0 ≤ q) (h2 : q ≤ 1048576) : ACall En 42 [.sl false (pgR l), .i .i64 q] [] [.i .i64 (np_ l q)] [] := by
 have hw : IntKind.i64.wrap (q - l.length) = q - l.length := bp_ (by omega) (by omega)
 refine al_ (fn := Tryz.f42) [] Tryz.func42 rfl rfl (by simp) fun C => ?_
 rw [ay_]
 simp only [Tryz.ntmps42, T7_, List.length_nil, Nat.reduceAdd, Nat.reduceSub, List.replicate_succ, List.replicate_zero, List.cons_append, List.nil_append, bs_]
 refine .seq (.rgn [] (by simp only [go_sem, seval, hw, ag_, ae_, ai_, aa_]; rfl) ?_ ?_)
 ·first | trivial | simp
 refine .seq (.rgn [] (by simp only [go_sem, seval, hw, ag_, ae_, ai_, aa_]; rfl) ?_ ?_)
 ·first | trivial | simp
 refine .seq (.seq (.rgn [] (by simp only [go_sem, seval, hw, ag_, ae_, ai_, aa_]; rfl) ?_ ?_))
 ·first | trivial | simp
 refine .condB (by simp only [go_sem, seval, hw, ag_, ae_, ai_, aa_]; rfl) (by simp only [go_sem, seval, hw, ag_, ae_, ai_, aa_]) (fun h11 => ?_) (fun h11 => ?_)
 ·refine .seq (.rgn [] (by simp only [go_sem, seval, hw, ag_, ae_, ai_, aa_]; rfl) ?_ ?_)
  ·first | trivial | simp
  refine .ret ⟨.inr rfl, ?_⟩
  exact Out.plain (by simp only [Tryz.results42]; rfl) (by simp only [az_, bj_, go_sem, seval, hw, ag_, ae_, ai_, aa_] <;> (split <;> rfl)) (by simp only [bg_, go_sem, seval, hw, ag_, ae_, ai_, aa_] <;> (simp at h11; simp [np_, h11])) (by simp only [go_sem, seval, hw, ag_, ae_, ai_, aa_])
 ·refine .skip (.seq (.seq (.rgn [] (by simp only [go_sem, seval, hw, ag_, ae_, ai_, aa_]; rfl) ?_ ?_)))
  ·first | trivial | simp
  refine .block (.loopK (fun k : Nat × Int => ⟨[.sl false (pgR l), .i .i64 k.2, .no, .no, .no, .i .i64 k.1, .no, .no, .no, .no, .no, .no, .no, .no, .no, .no, .no, .no, .no, .no, .no, .no, .no, .no, .no, .no, .no], a7_ [], us []⟩) (fun k : Nat × Int => k.1 ≤ l.length ∧ 0 ≤ k.2 ∧ k.2 ≤ 1048576 ∧ np_ l q = nu_ (l.drop k.1) k.2) (fun k : Nat × Int => l.length - k.1) ((0, q - l.length)) ?_ ?_ (fun k hI => ?_))
  ·simp at h11; simp [np_, show ¬ (q - (l.length : Int) < 0) by omega]; omega
  ·exact Can.weak (Weak.lit (by simp only [go_sem, seval, hw, ag_, ae_, ai_, aa_, at_, leV, aq_, ar_, V.inn, us, T9_, Ta_] <;> (simp)) (by simp only [go_sem, seval, hw, ag_, ae_, ai_, aa_, at_, leV, aq_, ar_, V.inn, us, T9_, Ta_]) (by simp only [go_sem, seval, hw, ag_, ae_, ai_, aa_, at_, leV, aq_, ar_, V.inn, us, T9_, Ta_]))
  refine .seq (.seq (.rgn [] (by simp only [go_sem, seval, hw, ag_, ae_, ai_, aa_]; rfl) ?_ ?_))
  ·first | trivial | simp
  refine .condB (by simp only [go_sem, seval, hw, ag_, ae_, ai_, aa_]; rfl) (by simp only [go_sem, seval, hw, ag_, ae_, ai_, aa_]) (fun h15 => ?_) (fun h15 => ?_)
  ·refine .skip (.seq (.block (.seq (.rgn [cw_ (k.1 < l.length ∧ 0 ≤ k.2 ∧ k.2 ≤ 1048576) (fun h => aby_ (l.getD k.1 Pg0) (hb _ (bt_ h.1)) k.2 h.2.1 h.2.2)] (by simp only [go_sem, seval, hw, ag_, ae_, ai_, aa_, d0_ (show k.1 < l.length by simpa using h15)]; rfl) ?_ ?_))))
   ·simp only [T3_] at h15; simp; omega
   refine .seq (.rgn [] (by simp only [go_sem, seval, hw, ag_, ae_, ai_, aa_]; rfl) ?_ ?_)
   ·first | trivial | simp
   refine .condB (by simp only [go_sem, seval, hw, ag_, ae_, ai_, aa_]; rfl) (by simp only [go_sem, seval, hw, ag_, ae_, ai_, aa_]) (fun h25 => ?_) (fun h25 => ?_)
   ·refine .seq (.rgn [] (by simp only [go_sem, seval, hw, ag_, ae_, ai_, aa_]; rfl) ?_ ?_)
    ·first | trivial | simp
    refine .ret ⟨.inr rfl, ?_⟩
    exact Out.plain (by simp only [Tryz.results42]; rfl) (by simp only [az_, bj_, go_sem, seval, hw, ag_, ae_, ai_, aa_] <;> (split <;> rfl)) (by simp only [bg_, go_sem, seval, hw, ag_, ae_, ai_, aa_] <;> (simp at h15; simp only [T3_] at h25; have e1 := sc_ h15 k.2; rw [if_pos h25] at e1; rw [hI.2.2.2, e1])) (by simp only [go_sem, seval, hw, ag_, ae_, ai_, aa_])
   ·refine .skip (.rgn [] (by simp only [go_sem, seval, hw, ag_, ae_, ai_, aa_]; rfl) ?_ ?_)
    ·first | trivial | simp
    refine Exists.intro ((k.1 + 1, szP (l.getD k.1 Pg0) k.2)) ⟨?_, ?_, ?_⟩
    ·simp at h15; simp only [T4_] at h25; have e1 := sc_ h15 k.2; have e2 := ack_ (l.getD k.1 Pg0) k.2 (by omega); rw [if_neg (by omega)] at e1; exact ⟨by dsimp only; omega, by dsimp only; omega, by dsimp only; omega, by rw [hI.2.2.2, e1]⟩
    ·simp at h15; simp; omega
    exact Can.weak (Weak.lit (by simp only [go_sem, seval, hw, ag_, ae_, ai_, aa_, at_, leV, aq_, ar_, V.inn, us, T9_, Ta_] <;> (rw [bp_ (by simp at h15; omega) (by simp at h15; omega)]; simp)) (by simp only [go_sem, seval, hw, ag_, ae_, ai_, aa_, at_, leV, aq_, ar_, V.inn, us, T9_, Ta_]) (by simp only [go_sem, seval, hw, ag_, ae_, ai_, aa_, at_, leV, aq_, ar_, V.inn, us, T9_, Ta_]))
  ·refine .exit (.seq (.rgn [] (by simp only [go_sem, seval, hw, ag_, ae_, ai_, aa_]; rfl) ?_ ?_))
   ·first | trivial | simp
   refine .ret ⟨.inr rfl, ?_⟩
   exact Out.plain (by simp only [Tryz.results42]; rfl) (by simp only [az_, bj_, go_sem, seval, hw, ag_, ae_, ai_, aa_] <;> (split <;> rfl)) (by simp only [bg_, go_sem, seval, hw, ag_, ae_, ai_, aa_] <;> (simp at h15; rw [hI.2.2.2, List.drop_of_length_le h15]; rfl)) (by simp only [go_sem, seval, hw, ag_, ae_, ai_, aa_])
theorem g5_ (l : List Pg) (hs : ∀ p ∈ l, p.frm.length ≤ 1048576) (hl : l.length ≤ 1048576) : ACall En 44 [.sl false (pgR l)] [] [.sl false (pgR l)] [] := by
 have hp : ∀ k, cj_ (c3_ (pgR l) zPg k) = true := fun k => ga_ (ae_ _) rfl
 have hd : ∀ k j, ((c3_ (pgR l) zPg k).getD j []).drop 4 = [] := fun k j => filP l k j
 refine al_ (fn := Tryz.f44) [] Tryz.func44 rfl rfl (by simp) fun C => ?_
 rw [ay_]
 simp only [Tryz.ntmps44, T7_, List.length_nil, Nat.reduceAdd, Nat.reduceSub, List.replicate_succ, List.replicate_zero, List.cons_append, List.nil_append, bs_]
 refine .seq (.rgn [] (by simp only [go_sem, seval, hp, hd, au_, ag_, ai_, ae_, aa_]; rfl) ?_ ?_)
 ·first | trivial | simp
 refine .seq (.rgn [] (by simp only [go_sem, seval, hp, hd, au_, ag_, ai_, ae_, aa_]; rfl) ?_ ?_)
 ·simp; omega
 refine .seq (.seq (.rgn [] (by simp only [go_sem, seval, hp, hd, au_, ag_, ai_, ae_, aa_]; rfl) ?_ ?_))
 ·first | trivial | simp
 refine .block (.loopK (fun k : Nat => ⟨[.sl false (pgR l), .no, .no, .ow 17 4 0 l.length, .i .i64 k, .no, .no, .no, .no, .no, .no, .no, .no, .no, .no, .no, .no, .no, .no, .no, .no, .no, .no], a7_ [(17, ⟨39, 4, c3_ (pgR l) zPg k⟩)], us [17]⟩) (fun k : Nat => k ≤ l.length) (fun k : Nat => l.length - k) (0) ?_ ?_ (fun k hI => ?_))
 ·simp
 ·exact Can.weak (Weak.lit (by simp only [go_sem, seval, hp, hd, au_, ag_, ai_, ae_, aa_, at_, leV, aq_, ar_, V.inn, us, T9_, Ta_] <;> (simp)) (by simp only [go_sem, seval, hp, hd, au_, ag_, ai_, ae_, aa_, at_, leV, aq_, ar_, V.inn, us, T9_, Ta_]) (by simp only [go_sem, seval, hp, hd, au_, ag_, ai_, ae_, aa_, at_, leV, aq_, ar_, V.inn, us, T9_, Ta_] <;> (simp [fp_, zPg, ag_])))
 refine .seq (.seq (.rgn [] (by simp only [go_sem, seval, hp, hd, au_, ag_, ai_, ae_, aa_]; rfl) ?_ ?_))
 ·first | trivial | simp
 refine .condB (by simp only [go_sem, seval, hp, hd, au_, ag_, ai_, ae_, aa_]; rfl) (by simp only [go_sem, seval, hp, hd, au_, ag_, ai_, ae_, aa_]) (fun h11 => ?_) (fun h11 => ?_)
 ·refine .skip (.seq (.block (.rgn [cw_ (k < l.length) (fun h => aec_ (l.getD k Pg0) (hs _ (bt_ h)))] (by simp only [go_sem, seval, hp, hd, au_, ag_, ai_, ae_, aa_, d0_ (show k < l.length by simpa using h11)]; rfl) ?_ ?_)))
  ·simp only [T3_] at h11; simp; omega
  refine .rgn [] (by simp only [go_sem, seval, hp, hd, au_, ag_, ai_, ae_, aa_]; rfl) ?_ ?_
  ·first | trivial | simp
  refine Exists.intro (k + 1) ⟨?_, ?_, ?_⟩
  ·simp at h11; omega
  ·simp at h11; omega
  exact Can.weak (Weak.lit (by simp only [go_sem, seval, hp, hd, au_, ag_, ai_, ae_, aa_, at_, leV, aq_, ar_, V.inn, us, T9_, Ta_] <;> (rw [bp_ (by simp at h11; omega) (by simp at h11; omega)]; simp)) (by simp only [go_sem, seval, hp, hd, au_, ag_, ai_, ae_, aa_, at_, leV, aq_, ar_, V.inn, us, T9_, Ta_]) (by simp only [go_sem, seval, hp, hd, au_, ag_, ai_, ae_, aa_, at_, leV, aq_, ar_, V.inn, us, T9_, Ta_] <;> (rw [← fx_ (by rw [ag_]; simpa using h11), d0_ (by simpa using h11), ai_])))
 ·refine .exit (.seq (.rgn [] (by simp only [go_sem, seval, hp, hd, au_, ag_, ai_, ae_, aa_]; rfl) ?_ ?_))
  ·first | trivial | simp
  refine .frz 17 (by simp only [go_sem, seval, hp, hd, au_, ag_, ai_, ae_, aa_]; rfl) (by simp only [go_sem, seval, hp, hd, au_, ag_, ai_, ae_, aa_]) (by simp only [go_sem, seval, hp, hd, au_, ag_, ai_, ae_, aa_]; rfl) (by simp only [go_sem, seval, hp, hd, au_, ag_, ai_, ae_, aa_]; rfl) ?_
  refine .ret ⟨.inr rfl, ?_⟩
  exact Out.plain (by simp only [Tryz.results44]; rfl) (by simp only [az_, bj_, go_sem, seval, hp, hd, au_, ag_, ai_, ae_, aa_] <;> (split <;> rfl)) (by simp only [bg_, go_sem, seval, hp, hd, au_, ag_, ai_, ae_, aa_] <;> (simp at h11; rw [gk_ (by simpa [ag_] using h11)]; simp [T1_, peel, ag_])) (by simp only [go_sem, seval, hp, hd, au_, ag_, ai_, ae_, aa_])
theorem aa3_ (p q : Pg) (hp : p.frm.length ≤ 1000000000000) (hq : q.frm.length ≤ 1000000000000) : ACall En 107 [.ag (pgC p), .ag (pgC q)] [] [.b (decide (p = q))] [] := by
 have T := @aj9_ p q
 refine al_ (fn := Tryz.f107) [] Tryz.func107 rfl rfl (by simp) fun C => ?_
 rw [ay_]
 simp only [Tryz.ntmps107, T7_, List.length_nil, Nat.reduceAdd, Nat.reduceSub, List.replicate_succ, List.replicate_zero, List.cons_append, List.nil_append, bs_]
 refine .seq (.rgn [] (by simp only [go_sem, seval, ai_, aa_, ad_]; rfl) ?_ ?_)
 ·first | trivial | simp
 refine .seq (.seq (.rgn [] (by simp only [go_sem, seval, ai_, aa_, ad_]; rfl) ?_ ?_))
 ·first | trivial | simp
 refine .condB (by simp only [go_sem, seval, ai_, aa_, ad_]; rfl) (by simp only [go_sem, seval, ai_, aa_, ad_]) (fun h9 => ?_) (fun h9 => ?_)
 ·refine .seq (.rgn [] (by simp only [go_sem, seval, ai_, aa_, ad_]; rfl) ?_ ?_)
  ·first | trivial | simp
  refine .ret ⟨.inr rfl, ?_⟩
  exact Out.plain (by simp only [Tryz.results107]; rfl) (by simp only [az_, bj_, go_sem, seval, ai_, aa_, ad_] <;> (split <;> rfl)) (by simp only [bg_, go_sem, seval, ai_, aa_, ad_] <;> (rw [decide_eq_false (fun e => by rw [e] at h9; simp at h9)])) (by simp only [go_sem, seval, ai_, aa_, ad_])
 ·refine .skip (.seq (.seq (.rgn [] (by simp only [go_sem, seval, ai_, aa_, ad_]; rfl) ?_ ?_)))
  ·first | trivial | simp
  refine .condB (by simp only [go_sem, seval, ai_, aa_, ad_]; rfl) (by simp only [go_sem, seval, ai_, aa_, ad_]) (fun h14 => ?_) (fun h14 => ?_)
  ·refine .seq (.rgn [] (by simp only [go_sem, seval, ai_, aa_, ad_]; rfl) ?_ ?_)
   ·first | trivial | simp
   refine .ret ⟨.inr rfl, ?_⟩
   exact Out.plain (by simp only [Tryz.results107]; rfl) (by simp only [az_, bj_, go_sem, seval, ai_, aa_, ad_] <;> (split <;> rfl)) (by simp only [bg_, go_sem, seval, ai_, aa_, ad_] <;> (rw [decide_eq_false (fun e => by rw [e] at h14; simp at h14)])) (by simp only [go_sem, seval, ai_, aa_, ad_])
  ·refine .skip (.seq (.seq (.rgn [] (by simp only [go_sem, seval, ai_, aa_, ad_]; rfl) ?_ ?_)))
   ·first | trivial | simp
   refine .condB (by simp only [go_sem, seval, ai_, aa_, ad_]; rfl) (by simp only [go_sem, seval, ai_, aa_, ad_]) (fun h19 => ?_) (fun h19 => ?_)
   ·refine .seq (.rgn [] (by simp only [go_sem, seval, ai_, aa_, ad_]; rfl) ?_ ?_)
    ·first | trivial | simp
    refine .ret ⟨.inr rfl, ?_⟩
    exact Out.plain (by simp only [Tryz.results107]; rfl) (by simp only [az_, bj_, go_sem, seval, ai_, aa_, ad_] <;> (split <;> rfl)) (by simp only [bg_, go_sem, seval, ai_, aa_, ad_] <;> (rw [decide_eq_false (fun e => by rw [e] at h19; simp at h19)])) (by simp only [go_sem, seval, ai_, aa_, ad_])
   ·refine .skip (.seq (.seq (.rgn [a9_ (lf_ p.frm q.frm (by omega) (by omega))] (by simp only [go_sem, seval, ai_, aa_, ad_]; rfl) ?_ ?_)))
    ·first | trivial | simp
    refine .condB (by simp only [go_sem, seval, ai_, aa_, ad_]; rfl) (by simp only [go_sem, seval, ai_, aa_, ad_]) (fun h25 => ?_) (fun h25 => ?_)
    ·refine .seq (.rgn [] (by simp only [go_sem, seval, ai_, aa_, ad_]; rfl) ?_ ?_)
     ·first | trivial | simp
     refine .ret ⟨.inr rfl, ?_⟩
     exact Out.plain (by simp only [Tryz.results107]; rfl) (by simp only [az_, bj_, go_sem, seval, ai_, aa_, ad_] <;> (split <;> rfl)) (by simp only [bg_, go_sem, seval, ai_, aa_, ad_] <;> (rw [decide_eq_false (fun e => by rw [e] at h25; simp at h25)])) (by simp only [go_sem, seval, ai_, aa_, ad_])
    ·refine .skip (.seq (.rgn [] (by simp only [go_sem, seval, ai_, aa_, ad_]; rfl) ?_ ?_))
     ·first | trivial | simp
     refine .ret ⟨.inr rfl, ?_⟩
     exact Out.plain (by simp only [Tryz.results107]; rfl) (by simp only [az_, bj_, go_sem, seval, ai_, aa_, ad_] <;> (split <;> rfl)) (by simp only [bg_, go_sem, seval, ai_, aa_, ad_] <;> (rw [decide_eq_true (T.2 ⟨by simpa using h9, by simpa using h14, by simpa using h19, by simpa using h25⟩)])) (by simp only [go_sem, seval, ai_, aa_, ad_])
theorem aiq_ {a b : List Pg} {k : Nat} (ha : k < a.length) (hb : k < b.length) (h : a.take k = b.take k) (e : a.getD k Pg0 = b.getD k Pg0) : a.take (k + 1) = b.take (k + 1) := i3_ ha hb h e
theorem rd_ (a b : List Pg) (ha : ∀ p ∈ a, p.frm.length ≤ 1000000000000) (hb : ∀ p ∈ b, p.frm.length ≤ 1000000000000) (la : a.length ≤ 1048576) (lb : b.length ≤ 1048576) : ACall En 46 [.sl false (pgR a), .sl false (pgR b)] [] [.b (decide (a = b))] [] := by
 refine al_ (fn := Tryz.f46) [] Tryz.func46 rfl rfl (by simp) fun C => ?_
 rw [ay_]
 simp only [Tryz.ntmps46, T7_, List.length_nil, Nat.reduceAdd, Nat.reduceSub, List.replicate_succ, List.replicate_zero, List.cons_append, List.nil_append, bs_]
 refine .seq (.rgn [] (by simp only [go_sem, seval, ag_, ae_, ai_, aa_]; rfl) ?_ ?_)
 ·first | trivial | simp
 refine .seq (.seq (.rgn [] (by simp only [go_sem, seval, ag_, ae_, ai_, aa_]; rfl) ?_ ?_))
 ·first | trivial | simp
 refine .condB (by simp only [go_sem, seval, ag_, ae_, ai_, aa_]; rfl) (by simp only [go_sem, seval, ag_, ae_, ai_, aa_]) (fun h10 => ?_) (fun h10 => ?_)
 ·refine .seq (.rgn [] (by simp only [go_sem, seval, ag_, ae_, ai_, aa_]; rfl) ?_ ?_)
  ·first | trivial | simp
  refine .ret ⟨.inr rfl, ?_⟩
  exact Out.plain (by simp only [Tryz.results46]; rfl) (by simp only [az_, bj_, go_sem, seval, ag_, ae_, ai_, aa_] <;> (split <;> rfl)) (by simp only [bg_, go_sem, seval, ag_, ae_, ai_, aa_] <;> (simp at h10; have h : ¬ a = b := (fun e => h10 (by rw [e])); simp [h])) (by simp only [go_sem, seval, ag_, ae_, ai_, aa_])
 ·refine .skip (.seq (.seq (.rgn [] (by simp only [go_sem, seval, ag_, ae_, ai_, aa_]; rfl) ?_ ?_)))
  ·first | trivial | simp
  refine .block (.loopK (fun k : Nat => ⟨[.sl false (pgR a), .sl false (pgR b), .no, .no, .no, .i .i64 k, .no, .no, .no, .no, .no, .no, .no, .no, .no, .no, .no, .no, .no, .no, .no, .no, .no, .no, .no, .no, .no], a7_ [], us []⟩) (fun k : Nat => k ≤ a.length ∧ a.take k = b.take k) (fun k : Nat => a.length - k) (0) ?_ ?_ (fun k hI => ?_))
  ·simp
  ·exact Can.weak (Weak.lit (by simp only [go_sem, seval, ag_, ae_, ai_, aa_, at_, leV, aq_, ar_, V.inn, us, T9_, Ta_] <;> (simp)) (by simp only [go_sem, seval, ag_, ae_, ai_, aa_, at_, leV, aq_, ar_, V.inn, us, T9_, Ta_]) (by simp only [go_sem, seval, ag_, ae_, ai_, aa_, at_, leV, aq_, ar_, V.inn, us, T9_, Ta_]))
  refine .seq (.seq (.rgn [] (by simp only [go_sem, seval, ag_, ae_, ai_, aa_]; rfl) ?_ ?_))
  ·first | trivial | simp
  refine .condB (by simp only [go_sem, seval, ag_, ae_, ai_, aa_]; rfl) (by simp only [go_sem, seval, ag_, ae_, ai_, aa_]) (fun h14 => ?_) (fun h14 => ?_)
  ·refine .skip (.seq (.block (.seq (.rgnD [cw_ (k < a.length ∧ k < b.length) (fun h => aa3_ (a.getD k Pg0) (b.getD k Pg0) (ha _ (bt_ h.1)) (hb _ (bt_ h.2)))] enM (by simp only [go_sem, seval, ag_, ae_, ai_, aa_, d0_ (show k < a.length by simpa using h14), d0_ (show k < b.length by simp at h14 h10; omega)]; rfl) (by rfl) ?_ ?_))))
   ·simp at h14 h10; simp; omega
   refine .condB (by simp only [go_sem, seval, ag_, ae_, ai_, aa_]; rfl) (by simp only [go_sem, seval, ag_, ae_, ai_, aa_]) (fun h26 => ?_) (fun h26 => ?_)
   ·refine .seq (.rgn [] (by simp only [go_sem, seval, ag_, ae_, ai_, aa_]; rfl) ?_ ?_)
    ·first | trivial | simp
    refine .ret ⟨.inr rfl, ?_⟩
    exact Out.plain (by simp only [Tryz.results46]; rfl) (by simp only [az_, bj_, go_sem, seval, ag_, ae_, ai_, aa_] <;> (split <;> rfl)) (by simp only [bg_, go_sem, seval, ag_, ae_, ai_, aa_] <;> (simp at h14 h10; have h : ¬ a = b := (fun e => by rw [e] at h26; simp at h26); simp [h])) (by simp only [go_sem, seval, ag_, ae_, ai_, aa_])
   ·refine .skip (.rgn [] (by simp only [go_sem, seval, ag_, ae_, ai_, aa_]; rfl) ?_ ?_)
    ·first | trivial | simp
    refine Exists.intro (k + 1) ⟨?_, ?_, ?_⟩
    ·simp at h14 h10; exact ⟨by omega, aiq_ h14 (by omega) hI.2 (by simpa using h26)⟩
    ·simp at h14; omega
    exact Can.weak (Weak.lit (by simp only [go_sem, seval, ag_, ae_, ai_, aa_, at_, leV, aq_, ar_, V.inn, us, T9_, Ta_] <;> (rw [bp_ (by simp at h14; omega) (by simp at h14; omega)]; simp)) (by simp only [go_sem, seval, ag_, ae_, ai_, aa_, at_, leV, aq_, ar_, V.inn, us, T9_, Ta_]) (by simp only [go_sem, seval, ag_, ae_, ai_, aa_, at_, leV, aq_, ar_, V.inn, us, T9_, Ta_]))
  ·refine .exit (.seq (.rgn [] (by simp only [go_sem, seval, ag_, ae_, ai_, aa_]; rfl) ?_ ?_))
   ·first | trivial | simp
   refine .ret ⟨.inr rfl, ?_⟩
   exact Out.plain (by simp only [Tryz.results46]; rfl) (by simp only [az_, bj_, go_sem, seval, ag_, ae_, ai_, aa_] <;> (split <;> rfl)) (by simp only [bg_, go_sem, seval, ag_, ae_, ai_, aa_] <;> (simp at h14 h10; have q := hI.2; rw [T1_ (by omega), T1_ (by omega)] at q; simp [q])) (by simp only [go_sem, seval, ag_, ae_, ai_, aa_])
end
end Go.Proofs.YtcigkafioinfoaaGreatDoor
