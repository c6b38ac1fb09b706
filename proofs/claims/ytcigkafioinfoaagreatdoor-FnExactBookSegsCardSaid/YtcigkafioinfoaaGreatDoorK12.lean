/- Books: lines with what they are turned into, plainly. Conditions: none. -/
import Derived.Test.YtcigkafioinfoaaGreatDoorK11
import Derived.Test.YtcigkafioinfoaaGreatDoorK3
import Derived.Test.YtcigkafioinfoaaGreatDoorKr
set_option linter.unusedVariables false
set_option linter.unusedSimpArgs false
namespace Go.Proofs.YtcigkafioinfoaaGreatDoor
section
set_option maxRecDepth 100000
def okP (p : Pg) : Bool := qp_ p.line && decide (p = ka_ p.line)
def ea_ (l : List Pg) : Bool := decide (1 ≤ l.length) && decide (l.length ≤ 16) && l.all okP
def td_ (s : Str) : Sl := (dm_ s).getD S0
def i7_ (l : List Pg) : List Sl := l.map fun p => td_ p.line
def ds_ (l : List Pg) : Nat → List Sg
 | 0 => []
 | k + 1 => ds_ l k ++ (if (l.getD k Pg0).good then sgs k ((b1_ (l.getD k Pg0).text).getD []) (l.getD k Pg0).frm else [])
def ez_ (l : List Pg) : List Sg := if ea_ l then ds_ l l.length else []
def ev_ (l : List Pg) : Nat → List Int
 | 0 => []
 | k + 1 => ev_ l k ++ (if (l.getD k Pg0).good then [] else [(k : Int)])
def hd_ (l : List Pg) : List Int := if ea_ l then ev_ l l.length else []
theorem eq_ {l : List Pg} (h : ea_ l = true) : 1 ≤ l.length ∧ l.length ≤ 16 ∧ ∀ k, k < l.length → okP (l.getD k Pg0) = true := by
 simp only [ea_, T5_, T3_] at h
 exact ⟨h.1.1, h.1.2, fun k hk => List.all_eq_true.1 h.2 _ (bt_ hk)⟩
theorem ae1_ {p : Pg} (h : okP p = true) : qp_ p.line = true ∧ p = ka_ p.line := by
 simp only [okP, T5_, T3_] at h; exact h
theorem l5_ (s : Str) : sok (td_ s) = true := by
 unfold td_
 cases h : dm_ s with
 | none => exact xt_
 | some x => exact (mv_.1 h).1
theorem emT_S0' : emT S0 = [] := by unfold emT; rw [if_pos xt_]; decide
theorem j4_ {p : Pg} (h : okP p = true) : p.text = emT (td_ p.line) ∧ p.frm = emF (td_ p.line) ∧ p.good = (dm_ p.line).isSome := by
 obtain ⟨h1, h2⟩ := ae1_ h
 unfold td_
 cases hx : dm_ p.line with
 | none => rw [h2, pf_ h1 (by rw [hx]; rfl)]; exact ⟨emT_S0'.symm, emF_S0.symm, rfl⟩
 | some x => rw [h2, ss_ h1 (by rw [hx]; rfl), hx]; exact ⟨rfl, rfl, rfl⟩
theorem x9_ {l : List Pg} {k : Nat} (h : k < l.length) : (i7_ l).getD k S0 = td_ (l.getD k Pg0).line := by
 simp [i7_, T8_, T6_ h]
theorem hf_ (l : List Pg) : (i7_ l).length = l.length := by simp [i7_]
theorem sq_ {l : List Pg} (h : ea_ l = true) : pok (i7_ l) = true := by
 obtain ⟨h1, h2, _⟩ := eq_ h
 simp only [pok, hf_, T5_, T3_]
 refine ⟨⟨h1, h2⟩, List.all_eq_true.2 fun x hx => ?_⟩
 obtain ⟨p, _, rfl⟩ := List.mem_map.1 hx
 exact l5_ _
theorem ad2_ {p : Pg} (h : okP p = true) (hg : p.good = false) : td_ p.line = S0 := by
 have := (j4_ h).2.2
 unfold td_
 cases hx : dm_ p.line with
 | none => rfl
 | some x => rw [hg, hx] at this; cases this
theorem qk_ {l : List Pg} (h : ea_ l = true) : ∀ k, k ≤ l.length → ds_ l k = sgN (i7_ l) k
 | 0, _ => rfl
 | k + 1, hk => by
  have ho := (eq_ h).2.2 k (by omega)
  rw [ds_, sgN, qk_ h k (by omega), x9_ (by omega)]
  congr 1
  cases hg : (l.getD k Pg0).good with
  | true => obtain ⟨q1, q2, _⟩ := j4_ ho; rw [q1, q2]; rfl
  | false => rw [ad2_ ho hg, aj2_]; rfl
theorem aew_ {l : List Pg} (h : ea_ l = true) : ez_ l = sgP (i7_ l) := by
 unfold ez_ sgP
 rw [if_pos h, if_pos (sq_ h), qk_ h _ (Nat.le_refl _), hf_]
theorem aex_ (s : Sl) : lnOk (emT s) := by
 by_cases h : sok s = true
 ·rw [sd_ h]; exact x5_ (tq_ h)
 ·unfold emT; rw [if_neg h]; exact ⟨rfl, by simp⟩
end
section
set_option maxRecDepth 100000
theorem jq_ (l : List Pg) : ∀ k, (ev_ l k).length ≤ k
 | 0 => by simp [ev_]
 | k + 1 => by
  have := jq_ l k
  rw [ev_, T2_]; split <;> simp <;> omega
theorem ic_ {l : List Pg} {i n : Nat} (h : (l.getD i Pg0).good = false) : (ev_ l (i + 1)).length = (ev_ l i).length + 1 := by rw [ev_, h]; simp
theorem dx_ {l : List Pg} {i : Nat} (h : (l.getD i Pg0).good = true) : ev_ l (i + 1) = ev_ l i := by rw [ev_, h]; simp
theorem aa5_ (l : List Pg) : (ez_ l).length ≤ 2000 := by
 cases h : ea_ l with
 | true => rw [aew_ h]; have := akh_ (i7_ l); omega
 | false => unfold ez_; rw [h]; simp
theorem af8_ (l : List Pg) : (hd_ l).length ≤ 16 := by
 unfold hd_; split
 ·rename_i h; have := jq_ l l.length; have := (eq_ h).2.1; omega
 ·simp
end
section
set_option maxRecDepth 100000
def pgB (p : Pg) : Prop := p.line.length ≤ 2000000 ∧ p.text.length ≤ 2000000 ∧ p.frm.length ≤ 2000000
theorem akc_ (s : Sl) : (emF s).length ≤ 1000 := by
 by_cases h : sok s = true
 ·have := p6_ h; omega
 ·unfold emF; rw [if_neg h]; simp
theorem aem_ {s : Str} (h : s.length ≤ 2000000) : pgB (ka_ s) := by
 unfold ka_
 split
 ·cases hx : dm_ s with
  | none => exact ⟨h, by simp, by simp⟩
  | some x => exact ⟨h, by have := (aex_ x).2; dsimp only; omega, by have := akc_ x; dsimp only; omega⟩
 ·exact ⟨by simp [Pg0], by simp [Pg0], by simp [Pg0]⟩
end
section
set_option maxRecDepth 100000
set_option maxHeartbeats 4000000
theorem ac2_ (a b : List Int) (ha : a.length ≤ 1000000000) (hb : b.length ≤ 1000000000) : ACall En 210 [.sl false (inR a), .sl false (inR b)] [] [.b (a == b)] [] := by
 refine al_ (fn := Tryz.f210) [] Tryz.func210 rfl rfl (by simp) fun C => ?_
 rw [ay_]
 simp only [Tryz.ntmps210, T7_, List.length_nil, Nat.reduceAdd, Nat.reduceSub, List.replicate_succ, List.replicate_zero, List.cons_append, List.nil_append, bs_]
 refine .seq (.rgn [] (by simp only [go_sem, seval, ad_, aa_]; rfl) ?_ ?_)
 ·first | trivial | simp
 refine .seq (.seq (.rgn [] (by simp only [go_sem, seval, ad_, aa_]; rfl) ?_ ?_))
 ·first | trivial | simp
 refine .condB (by simp only [go_sem, seval, ad_, aa_]; rfl) (by simp only [go_sem, seval, ad_, aa_]) (fun h10 => ?_) (fun h10 => ?_)
 ·refine .seq (.rgn [] (by simp only [go_sem, seval, ad_, aa_]; rfl) ?_ ?_)
  ·first | trivial | simp
  refine .ret ⟨.inr rfl, ?_⟩
  exact Out.plain (by simp only [Tryz.results210]; rfl) (by simp only [az_, bj_, go_sem, seval, ad_, aa_] <;> (split <;> rfl)) (by simp only [bg_, go_sem, seval, ad_, aa_] <;> (have : a ≠ b := (fun e => by simp [e] at h10); simp [this])) (by simp only [go_sem, seval, ad_, aa_])
 ·refine .skip (.seq (.seq (.rgn [] (by simp only [go_sem, seval, ad_, aa_]; rfl) ?_ ?_)))
  ·first | trivial | simp
  refine .block (.loopK (fun k : Nat => ⟨[.sl false (inR a), .sl false (inR b), .no, .no, .no, .no, .no, .no, .no, .no, .no, .no, .i .i64 a.length, .i .i64 k, .no, .no, .no, .no, .no, .no, .no, .no, .no, .no, .no, .no], a7_ [], us []⟩) (fun k : Nat => k ≤ a.length ∧ a.take k = b.take k) (fun k : Nat => a.length - k) (0) ?_ ?_ (fun k hI => ?_))
  ·exact ⟨Nat.zero_le _, rfl⟩
  ·exact Can.weak (Weak.lit (by simp only [go_sem, seval, ad_, aa_, at_, leV, aq_, ar_, V.inn, us, T9_, Ta_] <;> (simp)) (by simp only [go_sem, seval, ad_, aa_, at_, leV, aq_, ar_, V.inn, us, T9_, Ta_]) (by simp only [go_sem, seval, ad_, aa_, at_, leV, aq_, ar_, V.inn, us, T9_, Ta_]))
  refine .seq (.rgn [] (by simp only [go_sem, seval, ad_, aa_]; rfl) ?_ ?_)
  ·first | trivial | simp
  refine .seq (.condB (by simp only [go_sem, seval, ad_, aa_]; rfl) (by simp only [go_sem, seval, ad_, aa_]) (fun h14 => ?_) (fun h14 => ?_))
  ·refine .skip (.seq (.block (.seq (.rgn [] (by simp only [go_sem, seval, ad_, aa_]; rfl) ?_ ?_))))
   ·first | trivial | simp
   refine .seq (.rgnD [] enM (by simp only [go_sem, seval, ad_, aa_, dj_ (show k < a.length by simpa using h14), dj_ (show k < b.length by simp at h14 h10; omega)]; rfl) (by rfl) ?_ ?_)
   ·simp at h14 h10; simp; omega
   refine .condB (by simp only [go_sem, seval, ad_, aa_]; rfl) (by simp only [go_sem, seval, ad_, aa_]) (fun h24 => ?_) (fun h24 => ?_)
   ·refine .seq (.rgn [] (by simp only [go_sem, seval, ad_, aa_]; rfl) ?_ ?_)
    ·first | trivial | simp
    refine .ret ⟨.inr rfl, ?_⟩
    exact Out.plain (by simp only [Tryz.results210]; rfl) (by simp only [az_, bj_, go_sem, seval, ad_, aa_] <;> (split <;> rfl)) (by simp only [bg_, go_sem, seval, ad_, aa_] <;> (have h2 : a.getD k 0 ≠ b.getD k 0 := bne_iff_ne.1 h24; have : a ≠ b := (fun e => h2 (by rw [e])); simp [this])) (by simp only [go_sem, seval, ad_, aa_])
   ·refine .skip (.rgn [] (by simp only [go_sem, seval, ad_, aa_]; rfl) ?_ ?_)
    ·first | trivial | simp
    refine Exists.intro (k + 1) ⟨?_, ?_, ?_⟩
    ·simp only [T3_] at h14; simp at h10; exact ⟨by omega, i3_ (d := 0) (by omega) (by omega) hI.2 (by simpa using h24)⟩
    ·simp at h14; omega
    exact Can.weak (Weak.lit (by simp only [go_sem, seval, ad_, aa_, at_, leV, aq_, ar_, V.inn, us, T9_, Ta_] <;> (rw [bp_ (by simp at h14; omega) (by simp at h14; omega)]; simp)) (by simp only [go_sem, seval, ad_, aa_, at_, leV, aq_, ar_, V.inn, us, T9_, Ta_]) (by simp only [go_sem, seval, ad_, aa_, at_, leV, aq_, ar_, V.inn, us, T9_, Ta_]))
  ·refine .exit (.seq (.rgn [] (by simp only [go_sem, seval, ad_, aa_]; rfl) ?_ ?_))
   ·first | trivial | simp
   refine .ret ⟨.inr rfl, ?_⟩
   exact Out.plain (by simp only [Tryz.results210]; rfl) (by simp only [az_, bj_, go_sem, seval, ad_, aa_] <;> (split <;> rfl)) (by simp only [bg_, go_sem, seval, ad_, aa_] <;> (simp only [T4_] at h14; simp at h10; have q := hI.2; rw [T1_ (by omega), T1_ (by omega)] at q; simp [q])) (by simp only [go_sem, seval, ad_, aa_])
theorem uf_ {p q : Pg} : (p = q) ↔ (((p.line = q.line ∧ p.good = q.good) ∧ p.text = q.text) ∧ p.frm = q.frm) := by
 constructor
 ·rintro rfl; exact ⟨⟨⟨rfl, rfl⟩, rfl⟩, rfl⟩
 ·intro h; obtain ⟨a, b, c, d⟩ := p; obtain ⟨a2, b2, c2, d2⟩ := q; simp_all
theorem aku_ (p q : Pg) (hp : pgB p) (hq : pgB q) : ACall En 167 [.ag (pgC p), .ag (pgC q)] [] [.b (decide (p = q))] [] := by
 have h1 := hp.2.2
 have h2 := hq.2.2
 have T := @uf_ p q
 refine al_ (fn := Tryz.f167) [] Tryz.func167 rfl rfl (by simp) fun C => ?_
 rw [ay_]
 simp only [Tryz.ntmps167, T7_, List.length_nil, Nat.reduceAdd, Nat.reduceSub, List.replicate_succ, List.replicate_zero, List.cons_append, List.nil_append, bs_]
 refine .seq (.rgn [] (by simp only [go_sem, seval, ai_, aa_]; rfl) ?_ ?_)
 ·first | trivial | simp
 refine .seq (.rgn [a9_ (ac2_ p.frm q.frm (by omega) (by omega))] (by simp only [go_sem, seval, ai_, aa_]; rfl) ?_ ?_)
 ·first | trivial | simp
 refine .ret ⟨.inr rfl, ?_⟩
 exact Out.plain (by simp only [Tryz.results167]; rfl) (by simp only [az_, bj_, go_sem, seval, ai_, aa_] <;> (split <;> rfl)) (by simp only [bg_, go_sem, seval, ai_, aa_] <;> (have e : (p.line == q.line && p.good == q.good && p.text == q.text && p.frm == q.frm) = decide (p = q) := (by rw [Bool.eq_iff_iff]; simp only [T5_, beq_iff_eq, T3_]; exact T.symm); rw [e])) (by simp only [go_sem, seval, ai_, aa_])
theorem abp_ (p : Pg) (hp : pgB p) : ACall En 165 [.ag (pgC p)] [] [.b (!okP p)] [] := by
 have P := abq_ p.line (by have := hp.1; omega)
 have B := aem_ hp.1
 refine al_ (fn := Tryz.f165) [] Tryz.func165 rfl rfl (by simp) fun C => ?_
 rw [ay_]
 simp only [Tryz.ntmps165, T7_, List.length_nil, Nat.reduceAdd, Nat.reduceSub, List.replicate_succ, List.replicate_zero, List.cons_append, List.nil_append, bs_]
 refine .seq (.rgn [] (by simp only [go_sem, seval, ai_, aa_]; rfl) ?_ ?_)
 ·first | trivial | simp
 refine .seq (.rgnD [a9_ (ul_ p.line (by have := hp.1; omega)), a9_ P, a9_ (aku_ p (ka_ p.line) hp B)] enM (by simp only [go_sem, seval, ai_, aa_]; rfl) (by rfl) ?_ ?_)
 ·first | trivial | simp
 refine .ret ⟨.inr rfl, ?_⟩
 exact Out.plain (by simp only [Tryz.results165]; rfl) (by simp only [az_, bj_, go_sem, seval, ai_, aa_] <;> (split <;> rfl)) (by simp only [bg_, go_sem, seval, ai_, aa_] <;> (rw [okP, Bool.not_and])) (by simp only [go_sem, seval, ai_, aa_])
theorem aht_ (l : List Pg) (hs : ∀ p ∈ l, pgB p) (hl : l.length ≤ 2000000) : ACall En 208 [.sl false (pgR l), .fn (.func 165) [] []] [] [.i .i64 (xf_ (fun p => !okP p) l)] [] := by
 refine al_ (fn := Tryz.f208) [] Tryz.func208 rfl rfl (by simp) fun C => ?_
 rw [ay_]
 simp only [Tryz.ntmps208, T7_, List.length_nil, Nat.reduceAdd, Nat.reduceSub, List.replicate_succ, List.replicate_zero, List.cons_append, List.nil_append, bs_]
 refine .seq (.rgn [] (by simp only [go_sem, seval, ag_, ae_, ai_]; rfl) ?_ ?_)
 ·first | trivial | simp
 refine .seq (.seq (.rgn [] (by simp only [go_sem, seval, ag_, ae_, ai_]; rfl) ?_ ?_))
 ·first | trivial | simp
 refine .block (.loopK (fun k : Nat => ⟨[.sl false (pgR l), .fn (.func 165) [] [], .no, .no, .no, .no, .no, .i .i64 l.length, .i .i64 k, .no, .no, .no, .no, .no, .no, .no, .no, .no, .no], a7_ [], us []⟩) (fun k : Nat => k ≤ l.length ∧ (l.take k).any (fun p => !okP p) = false) (fun k : Nat => l.length - k) (0) ?_ ?_ (fun k hI => ?_))
 ·simp
 ·exact Can.weak (Weak.lit (by simp only [go_sem, seval, ag_, ae_, ai_, at_, leV, aq_, ar_, V.inn, us, T9_, Ta_] <;> (simp)) (by simp only [go_sem, seval, ag_, ae_, ai_, at_, leV, aq_, ar_, V.inn, us, T9_, Ta_]) (by simp only [go_sem, seval, ag_, ae_, ai_, at_, leV, aq_, ar_, V.inn, us, T9_, Ta_]))
 refine .seq (.rgn [] (by simp only [go_sem, seval, ag_, ae_, ai_]; rfl) ?_ ?_)
 ·first | trivial | simp
 refine .seq (.condB (by simp only [go_sem, seval, ag_, ae_, ai_]; rfl) (by simp only [go_sem, seval, ag_, ae_, ai_]) (fun h9 => ?_) (fun h9 => ?_))
 ·refine .skip (.seq (.block (.seq (.rgn [] (by simp only [go_sem, seval, ag_, ae_, ai_]; rfl) ?_ ?_))))
  ·first | trivial | simp
  refine .seq (.rgn [cw_ (k < l.length) (fun h => abp_ (l.getD k Pg0) (hs _ (bt_ h)))] (by simp only [go_sem, seval, ag_, ae_, ai_, d0_ (show k < l.length by simpa using h9)]; rfl) ?_ ?_)
  ·simp only [T3_] at h9; simp only [ab1_, aa_, cq_, V.pure, Bool.and_true, true_and]; and_intros <;> first | omega | (simp; done) | trivial
  refine .condB (by simp only [go_sem, seval, ag_, ae_, ai_]; rfl) (by simp only [go_sem, seval, ag_, ae_, ai_]) (fun h16 => ?_) (fun h16 => ?_)
  ·refine .seq (.rgn [] (by simp only [go_sem, seval, ag_, ae_, ai_]; rfl) ?_ ?_)
   ·first | trivial | simp
   refine .ret ⟨.inr rfl, ?_⟩
   exact Out.plain (by simp only [Tryz.results208]; rfl) (by simp only [az_, bj_, go_sem, seval, ag_, ae_, ai_] <;> (split <;> rfl)) (by simp only [bg_, go_sem, seval, ag_, ae_, ai_] <;> (simp at h9; rw [ait_ (d := Pg0) h9 hI.2 h16])) (by simp only [go_sem, seval, ag_, ae_, ai_])
  ·refine .skip (.rgn [] (by simp only [go_sem, seval, ag_, ae_, ai_]; rfl) ?_ ?_)
   ·first | trivial | simp
   refine Exists.intro (k + 1) ⟨?_, ?_, ?_⟩
   ·simp at h9; refine ⟨by omega, ?_⟩; rw [agg_ (d := Pg0) h9, hI.2, h16]; rfl
   ·simp at h9; omega
   exact Can.weak (Weak.lit (by simp only [go_sem, seval, ag_, ae_, ai_, at_, leV, aq_, ar_, V.inn, us, T9_, Ta_] <;> (rw [bp_ (by omega) (by omega)]; simp)) (by simp only [go_sem, seval, ag_, ae_, ai_, at_, leV, aq_, ar_, V.inn, us, T9_, Ta_]) (by simp only [go_sem, seval, ag_, ae_, ai_, at_, leV, aq_, ar_, V.inn, us, T9_, Ta_]))
 ·refine .exit (.seq (.rgn [] (by simp only [go_sem, seval, ag_, ae_, ai_]; rfl) ?_ ?_))
  ·first | trivial | simp
  refine .ret ⟨.inr rfl, ?_⟩
  exact Out.plain (by simp only [Tryz.results208]; rfl) (by simp only [az_, bj_, go_sem, seval, ag_, ae_, ai_] <;> (split <;> rfl)) (by simp only [bg_, go_sem, seval, ag_, ae_, ai_] <;> (simp at h9; have h0 := hI.2; rw [T1_ h9] at h0; rw [aag_ h0])) (by simp only [go_sem, seval, ag_, ae_, ai_])
theorem aej_ (l : List Pg) (hs : ∀ p ∈ l, pgB p) (hl : l.length ≤ 2000000) : ACall En 164 [.sl false (pgR l), .fn (.func 165) [] []] [] [.b (l.any fun p => !okP p)] [] := by
 refine al_ (fn := Tryz.f164) [] Tryz.func164 rfl rfl (by simp) fun C => ?_
 rw [ay_]
 simp only [Tryz.ntmps164, T7_, List.length_nil, Nat.reduceAdd, Nat.reduceSub, List.replicate_succ, List.replicate_zero, List.cons_append, List.nil_append, bs_]
 refine .seq (.rgn [] (by simp only [go_sem, seval, ae_]; rfl) ?_ ?_)
 ·first | trivial | simp
 refine .seq (.rgn [a9_ (aht_ l hs hl)] (by simp only [go_sem, seval, ae_]; rfl) ?_ ?_)
 ·first | trivial | simp
 refine .ret ⟨.inr rfl, ?_⟩
 exact Out.plain (by simp only [Tryz.results164]; rfl) (by simp only [az_, bj_, go_sem, seval, ae_] <;> (split <;> rfl)) (by simp only [bg_, go_sem, seval, ae_] <;> (rw [aij_])) (by simp only [go_sem, seval, ae_])
theorem ai3_ (l : List Pg) : ea_ l = ((decide ((1 : Int) ≤ l.length) && decide ((l.length : Int) ≤ 16)) && !l.any fun p => !okP p) := by
 rw [List.any_eq_not_all_not]; simp only [ea_, Bool.not_not, h3_]; rfl
theorem j2_ (l : List Pg) (hs : ∀ p ∈ l, pgB p) (hl : l.length ≤ 2000000) : ACall En 106 [.sl false (pgR l)] [] [.b (ea_ l)] [] := by
 refine al_ (fn := Tryz.f106) [] Tryz.func106 rfl rfl (by simp) fun C => ?_
 rw [ay_]
 simp only [Tryz.ntmps106, T7_, List.length_nil, Nat.reduceAdd, Nat.reduceSub, List.replicate_succ, List.replicate_zero, List.cons_append, List.nil_append, bs_]
 refine .seq (.rgn [] (by simp only [go_sem, seval, ag_, ae_]; rfl) ?_ ?_)
 ·first | trivial | simp
 refine .seq (.rgn [a9_ (in_a l.length 1 16), a9_ (aej_ l hs hl)] (by simp only [go_sem, seval, ag_, ae_]; rfl) ?_ ?_)
 ·first | trivial | simp
 refine .ret ⟨.inr rfl, ?_⟩
 exact Out.plain (by simp only [Tryz.results106]; rfl) (by simp only [az_, bj_, go_sem, seval, ag_, ae_] <;> (split <;> rfl)) (by simp only [bg_, go_sem, seval, ag_, ae_] <;> (rw [ai3_])) (by simp only [go_sem, seval, ag_, ae_])
def zPg : List V := [.s [], .b false, .s [], .sl true []]
theorem filP (l : List Pg) (k j : Nat) : ((c3_ (pgR l) zPg k).getD j []).drop 4 = [] := by
 rw [T8_]
 cases h : (c3_ (pgR l) zPg k)[j]? with
 | none => rfl
 | some r =>
  have hm := List.mem_of_getElem? h
  have : r.length = 4 := by
   rcases jg_ hm with hm | rfl
   ·obtain ⟨s, _, rfl⟩ := List.mem_map.1 hm; rfl
   ·rfl
  simp only [Option.getD_some]; exact List.drop_of_length_le (by omega)
end
end Go.Proofs.YtcigkafioinfoaaGreatDoor
