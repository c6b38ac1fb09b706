/- Books, changed: plainly. Conditions: none. -/
import Derived.Test.YtpikbndepapbhaaGreatDoorK12
import Derived.Test.YtpikbndepapbhaaGreatDoorKu
import Derived.Test.YtpikbndepapbhaaGreatDoorKo
import Derived.Test.YtpikbndepapbhaaGreatDoorKq
set_option linter.unusedVariables false
set_option linter.unusedSimpArgs false
namespace Go.Proofs.YtpikbndepapbhaaGreatDoor
section
set_option maxRecDepth 100000
theorem qx_ {s : Str} (h : il_ s = true) : (et_ s).line = s := by
 unfold et_; rw [if_pos h]; split <;> rfl
theorem ajo_ {s : Str} (h : il_ s = true) : okP (et_ s) = true := by
 unfold okP; rw [qx_ h, h]; simp
theorem ah8_ {l : List Pg} (h1 : 1 ≤ l.length) (h2 : l.length ≤ 16) (h : ∀ p ∈ l, okP p = true) : e3_ l = true := by
 unfold e3_; rw [decide_eq_true h1, decide_eq_true h2, List.all_eq_true.2 h]; rfl
theorem abs_ {l : List Pg} {p : Pg} (h : p ∈ l) : ∃ k, k < l.length ∧ l.getD k Pg0 = p := by
 obtain ⟨k, hk, e⟩ := List.getElem_of_mem h
 exact ⟨k, hk, by rw [T8_, T6_ hk, ← e]; rfl⟩
end
section
set_option maxRecDepth 100000
theorem xt_ : ∀ {s : Str} {w : Int}, g0_ s w = true → w ≤ 120 → ∀ {x : Str} {r : List Str}, spl s = x :: r → (x.all prt = true ∧ w + x.length ≤ 120) ∧ ∀ y ∈ r, lnOk y
 | [], w, _, hw, x, r, e => by
  simp only [spl, List.cons.injEq] at e
  obtain ⟨rfl, rfl⟩ := e
  exact ⟨⟨rfl, by simpa using hw⟩, fun y hy => by cases hy⟩
 | c :: l, w, h, hw, x, r, e => by
  rw [g0_] at h
  cases hl : spl l with
  | nil => exact absurd hl (ow_ l)
  | cons y t =>
   by_cases q : c = 10
   ·rw [if_pos q] at h
    subst q
    rw [xn_, hl] at e
    cases e
    obtain ⟨⟨a1, a2⟩, a3⟩ := xt_ h (by decide) hl
    refine ⟨⟨rfl, by simpa using hw⟩, fun z hz => ?_⟩
    rcases List.mem_cons.1 hz with rfl | hz
    ·exact ⟨a1, by omega⟩
    ·exact a3 z hz
   ·rw [if_neg q] at h
    simp only [T5_, T3_] at h
    rw [kz_ q hl] at e
    cases e
    obtain ⟨⟨a1, a2⟩, a3⟩ := xt_ h.2 h.1.2 hl
    refine ⟨⟨?_, by simp only [T7_]; omega⟩, a3⟩
    simp only [List.all_cons, a1, Bool.and_true, prt, T5_, T3_]
    exact h.1.1
theorem ra_ {s w : Str} (h : w ∈ cb_ s) : il_ w = true := by
 unfold cb_ at h
 split at h
 ·rename_i q
  simp only [tOk, T5_] at q
  cases hl : spl s with
  | nil => exact absurd hl (ow_ s)
  | cons x r =>
   obtain ⟨⟨a1, a2⟩, a3⟩ := xt_ q.1 (by decide) hl
   rw [hl] at h
   rcases List.mem_cons.1 h with rfl | h
   ·exact yf_ ⟨a1, by omega⟩
   ·exact yf_ (a3 _ h)
 ·cases h
theorem aji_ {ls : List Str} (hL : ∀ w ∈ ls, il_ w = true) (h1 : 1 ≤ ls.length) (h16 : ls.length ≤ 16) : e3_ (ls.map et_) = true :=
 ah8_ (by simpa using h1) (by simpa using h16) fun p hp => by
  obtain ⟨w, hw, rfl⟩ := List.mem_map.1 hp
  exact ajo_ (hL w hw)
theorem kt_ {s : Str} (h : do_ s ≠ []) : e3_ (do_ s) = true := by
 unfold do_ at h ⊢
 split
 ·rename_i q
  rw [if_pos q] at h
  refine aji_ (fun w hw => ra_ hw) (Nat.succ_le_of_lt (List.length_pos_iff.2 fun e => h (by rw [e]; rfl))) q
 ·rename_i q; rw [if_neg q] at h; exact absurd rfl h
end
section
set_option maxRecDepth 100000
set_option maxHeartbeats 4000000
def la_ (ls : List Str) : Bool := ls.all fun w => (cu_ w).isSome
def prR (s : Str) : Bool := la_ (cb_ s) && pok ((cb_ s).map gi_)
def prL (s : Str) : List Sl := if prR s then (cb_ s).map gi_ else []
theorem xq_ {l : List Str} {k : Nat} (h : k < l.length) : la_ (l.take (k + 1)) = (la_ (l.take k) && (cu_ (l.getD k [])).isSome) := by
 unfold la_
 rw [List.take_add_one, T6_ h, List.all_append, T8_, T6_ h]; simp
theorem afp_ {l : List Str} {k : Nat} (h : k < l.length) (hn : (cu_ (l.getD k [])).isSome = false) : la_ l = false := by
 rw [Bool.eq_false_iff]; intro q
 have := List.all_eq_true.1 q _ (bk_ (d := []) h)
 rw [hn] at this; cases this
theorem adw_ (l : List Sl) (hl : l.length < 1099511627776) : ACall En 47 [.sl false (sR l)] [] [.sl false (sR l)] [] := by
 refine aj_ (fn := Tryz.f47) [] Tryz.func47 rfl rfl (by simp) fun C => ?_
 rw [a0_]
 simp only [Tryz.ntmps47, T7_, List.length_nil, Nat.reduceAdd, Nat.reduceSub, List.replicate_succ, List.replicate_zero, List.cons_append, List.nil_append, bq_]
 refine .seq (.rgn [] (by simp only [go_sem, seval, az_, a6_]; rfl) ?_ ?_)
 ·first | trivial | simp
 refine .seq (.rgn [] (by simp only [go_sem, seval, az_, a6_]; rfl) ?_ ?_)
 ·first | trivial | simp
 refine .ret ⟨.inr rfl, ?_⟩
 exact Out.plainL (by simp only [Tryz.results47]; rfl) (by simp only [a1_, a9_, go_sem, seval, az_, a6_] <;> (split <;> rfl)) (by simp only [a8_, go_sem, seval, az_, a6_] <;> (rw [T1_ (by rw [a6_]; exact Nat.le_refl _)]; exact be_ _)) (by simp only [go_sem, seval, az_, a6_])
theorem m2_ (ls : List Str) : t0_ (ls.map gi_) = true := by
 refine List.all_eq_true.2 fun s hs => ?_
 obtain ⟨w, _, rfl⟩ := List.mem_map.1 hs
 exact ou_ w
theorem tw_ (s : Str) (hs : s.length ≤ 281474976710656) : ACall En 16 [.s s] [] [.sl false (sR (prL s)), .b (prR s)] [] := by
 have hL := is_ s
 have hM := ii_ s
 have hX : prL s = if prR s then (cb_ s).map gi_ else [] := rfl
 have hP : prR s = (la_ (cb_ s) && pok ((cb_ s).map gi_)) := rfl
 have T := lh_ s hs
 generalize cb_ s = ls at *
 have hm := m2_ ls
 have hst : ∀ k, k < ls.length → ((ls.take (k + 1)).map gi_) = ((ls.take k).map gi_) ++ [(cu_ (ls.getD k [])).getD S0] := fun k h => by
  rw [List.take_add_one, T6_ h, T8_, T6_ h, List.map_append]; rfl
 refine aj_ (fn := Tryz.f16) [] Tryz.func16 rfl rfl (by simp) fun C => ?_
 rw [a0_]
 simp only [Tryz.ntmps16, T7_, List.length_nil, Nat.reduceAdd, Nat.reduceSub, List.replicate_succ, List.replicate_zero, List.cons_append, List.nil_append, bq_]
 refine .seq (.rgn [] (by simp only [go_sem, seval, ab_, aa_, az_, a6_, af_]; rfl) ?_ ?_)
 ·(first | trivial | (simp; done) | (simp only [T3_] at h13; and_intros <;> first | omega | (simp; done) | (simp; omega)))
 refine .seq (.rgn [] (by simp only [go_sem, seval, ab_, aa_, az_, a6_, af_]; rfl) ?_ ?_)
 ·(first | trivial | (simp; done) | (simp only [T3_] at h13; and_intros <;> first | omega | (simp; done) | (simp; omega)))
 refine .seqJ (fun u : Unit => ⟨[.no, .no, .no, .no, .sl false (sR (ls.map gi_)), .no, .no, .no, .no, .no, .no, .no, .no, .no, .no, .no, .no, .no, .no, .no, .no, .no, .no, .no, .no, .no, .no, .no, .no, .no, .no, .no, .no], bg_ [], us []⟩) (fun u : Unit => la_ ls = true) ?_ (fun u hJ => ?_)
 ·refine .seq (.rgn [a5_ T] (by simp only [go_sem, seval, ab_, aa_, az_, a6_, af_]; rfl) ?_ ?_)
  ·(first | trivial | (simp; done) | (simp only [T3_] at h13; and_intros <;> first | omega | (simp; done) | (simp; omega)))
  refine .block (.loopK (fun k : Nat => ⟨[.no, .no, .no, .no, .ow 80 11 0 k, .no, .no, .no, .no, .no, .sl false (bo_ ls), .i .i64 ls.length, .i .i64 k, .no, .no, .no, .no, .no, .no, .no, .no, .no, .no, .no, .no, .no, .no, .no, .no, .no, .no, .no, .no], bg_ [(80, ⟨66, 11, sR ((ls.take k).map gi_)⟩)], us [80]⟩) (fun k : Nat => k ≤ ls.length ∧ la_ (ls.take k) = true) (fun k : Nat => ls.length - k) (0) ?_ ?_ (fun k hI => ?_))
  ·exact ⟨Nat.zero_le _, rfl⟩
  ·refine Can.trans (Can.ownSlot 4 80 66 11 (by simp only [go_sem, seval, ab_, aa_, az_, a6_, af_] <;> rfl) (by simp only [go_sem, seval, ab_, aa_, az_, a6_, af_]) (by simp only [go_sem, seval, ab_, aa_, az_, a6_, af_] <;> rfl)) ?_
   exact Can.weak (Weak.lit (by simp only [go_sem, seval, ab_, aa_, az_, a6_, af_, av_, leV, at_, au_, V.inn, us, T9_, Ta_] <;> ((try simp))) (by simp only [go_sem, seval, ab_, aa_, az_, a6_, af_, av_, leV, at_, au_, V.inn, us, T9_, Ta_]) (by simp only [go_sem, seval, ab_, aa_, az_, a6_, af_, av_, leV, at_, au_, V.inn, us, T9_, Ta_] <;> ((try simp [sR]))))
  refine .seq (.rgn [] (by simp only [go_sem, seval, ab_, aa_, az_, a6_, af_]; rfl) ?_ ?_)
  ·(first | trivial | (simp; done) | (simp only [T3_] at h13; and_intros <;> first | omega | (simp; done) | (simp; omega)))
  refine .seq (.condB (by simp only [go_sem, seval, ab_, aa_, az_, a6_, af_]; rfl) (by simp only [go_sem, seval, ab_, aa_, az_, a6_, af_]) (fun h13 => ?_) (fun h13 => ?_))
  ·refine .skip (.seq (.block (.seq (.rgn [] (by simp only [go_sem, seval, ab_, aa_, az_, a6_, af_, b8_ (show k < ls.length by simpa using h13)]; rfl) ?_ ?_))))
   ·(first | trivial | (simp; done) | (simp only [T3_] at h13; and_intros <;> first | omega | (simp; done) | (simp; omega)))
   refine .seq (.rgn [cf_ (k < ls.length) (fun h => mv_ (ls.getD k []) (by have := hM _ (bk_ (d := []) h); omega))] (by simp only [go_sem, seval, ab_, aa_, az_, a6_, af_]; rfl) ?_ ?_)
   ·(first | trivial | (simp; done) | (simp only [T3_] at h13; and_intros <;> first | omega | (simp; done) | (simp; omega)))
   refine .seq (.seq (.rgn [] (by simp only [go_sem, seval, ab_, aa_, az_, a6_, af_]; rfl) ?_ ?_))
   ·(first | trivial | (simp; done) | (simp only [T3_] at h13; and_intros <;> first | omega | (simp; done) | (simp; omega)))
   refine .condB (by simp only [go_sem, seval, ab_, aa_, az_, a6_, af_]; rfl) (by simp only [go_sem, seval, ab_, aa_, az_, a6_, af_]) (fun h22 => ?_) (fun h22 => ?_)
   ·refine .seq (.rgn [] (by simp only [go_sem, seval, ab_, aa_, az_, a6_, af_]; rfl) ?_ ?_)
    ·(first | trivial | (simp; done) | (simp only [T3_] at h13; and_intros <;> first | omega | (simp; done) | (simp; omega)))
    refine .ret ⟨.inr rfl, ?_⟩
    exact Out.plainL (by simp only [Tryz.results16]; rfl) (by simp only [a1_, a9_, go_sem, seval, ab_, aa_, az_, a6_, af_] <;> (split <;> rfl)) (by simp only [a8_, go_sem, seval, ab_, aa_, az_, a6_, af_] <;> (have e : prR s = false := (by rw [hP, afp_ (k := k) (by simpa using h13) (by simpa using h22)]; rfl); rw [hX, e]; simp [sR, ler])) (by simp only [go_sem, seval, ab_, aa_, az_, a6_, af_])
   ·refine .skip (.rgn [] (by simp only [go_sem, seval, ab_, aa_, az_, a6_, af_]; rfl) ?_ ?_)
    ·(first | trivial | (simp; done) | (simp only [T3_] at h13; and_intros <;> first | omega | (simp; done) | (simp; omega)))
    refine .rgn [] (by simp only [go_sem, seval, ab_, aa_, az_, a6_, af_]; rfl) ?_ ?_
    ·(first | trivial | (simp; done) | (simp only [T3_] at h13; and_intros <;> first | omega | (simp; done) | (simp; omega)))
    refine Exists.intro (k + 1) ⟨?_, ?_, ?_⟩
    ·simp at h13; refine ⟨by omega, ?_⟩; rw [xq_ h13, hI.2]; simpa using h22
    ·simp at h13; omega
    refine Can.trans (Can.swap 36 80 (by decide) (by decide) (by decide) (by decide) (by simp only [go_sem, seval, ab_, aa_, az_, a6_, af_, V.cl]) (by simp only [go_sem, seval, ab_, aa_, az_, a6_, af_, V.cl]) (by simp only [go_sem, seval, ab_, aa_, az_, a6_, af_, bl_, sw, swM, rnB] <;> rfl) (by simp only [go_sem, seval, ab_, aa_, az_, a6_, af_, bl_, sw, swM, rnB] <;> rfl) (by simp only [go_sem, seval, ab_, aa_, az_, a6_, af_, bl_, sw, swM, rnB] <;> rfl)) ?_
    exact Can.weak (Weak.lit (by simp only [go_sem, seval, ab_, aa_, az_, a6_, af_, av_, leV, at_, au_, V.inn, us, T9_, Ta_] <;> (rw [bh_ (by simp at h13; omega) (by simp at h13; omega)]; (try simp))) (by simp only [go_sem, seval, ab_, aa_, az_, a6_, af_, av_, leV, at_, au_, V.inn, us, T9_, Ta_]) (by simp only [go_sem, seval, ab_, aa_, az_, a6_, af_, av_, leV, at_, au_, V.inn, us, T9_, Ta_] <;> (rw [hst k (by simpa using h13)]; simp [sR, af_])))
  ·refine .exit ?_
   refine Exists.intro (()) ⟨?_, ?_⟩
   ·simp only [T4_] at h13; have e := hI.2; rw [T1_ (by omega)] at e; exact e
   refine Can.trans (Can.frz 80 (by simp only [go_sem, seval, ab_, aa_, az_, a6_, af_] <;> rfl) (by simp only [go_sem, seval, ab_, aa_, az_, a6_, af_]) (by simp only [go_sem, seval, ab_, aa_, az_, a6_, af_] <;> rfl) (by simp only [go_sem, seval, ab_, aa_, az_, a6_, af_] <;> rfl)) ?_
   exact Can.weak (Weak.lit (by simp only [go_sem, seval, ab_, aa_, az_, a6_, af_, av_, leV, at_, au_, V.inn, us, T9_, Ta_] <;> (simp only [T4_] at h13; (obtain rfl : k = ls.length := (by omega)); simp [T1_, a6_, leV, be_])) (by simp only [go_sem, seval, ab_, aa_, az_, a6_, af_, av_, leV, at_, au_, V.inn, us, T9_, Ta_]) (by simp only [go_sem, seval, ab_, aa_, az_, a6_, af_, av_, leV, at_, au_, V.inn, us, T9_, Ta_]))
 refine .seq (.seq (.rgn [a5_ (mf_ (ls.map gi_) hm (by simp; omega))] (by simp only [go_sem, seval, ab_, aa_, az_, a6_, af_]; rfl) ?_ ?_))
 ·(first | trivial | (simp; done) | (simp only [T3_] at h13; and_intros <;> first | omega | (simp; done) | (simp; omega)))
 refine .condB (by simp only [go_sem, seval, ab_, aa_, az_, a6_, af_]; rfl) (by simp only [go_sem, seval, ab_, aa_, az_, a6_, af_]) (fun h30 => ?_) (fun h30 => ?_)
 ·refine .seq (.rgn [] (by simp only [go_sem, seval, ab_, aa_, az_, a6_, af_]; rfl) ?_ ?_)
  ·(first | trivial | (simp; done) | (simp only [T3_] at h13; and_intros <;> first | omega | (simp; done) | (simp; omega)))
  refine .ret ⟨.inr rfl, ?_⟩
  exact Out.plainL (by simp only [Tryz.results16]; rfl) (by simp only [a1_, a9_, go_sem, seval, ab_, aa_, az_, a6_, af_] <;> (split <;> rfl)) (by simp only [a8_, go_sem, seval, ab_, aa_, az_, a6_, af_] <;> (have e : prR s = false := (by rw [hP, hJ, show pok (ls.map gi_) = false by simpa using h30]; rfl); rw [hX, e]; simp [sR, ler])) (by simp only [go_sem, seval, ab_, aa_, az_, a6_, af_])
 ·refine .skip (.seq (.rgn [a5_ (adw_ (ls.map gi_) (by simp; omega))] (by simp only [go_sem, seval, ab_, aa_, az_, a6_, af_]; rfl) ?_ ?_))
  ·(first | trivial | (simp; done) | (simp only [T3_] at h13; and_intros <;> first | omega | (simp; done) | (simp; omega)))
  refine .ret ⟨.inr rfl, ?_⟩
  exact Out.plainL (by simp only [Tryz.results16]; rfl) (by simp only [a1_, a9_, go_sem, seval, ab_, aa_, az_, a6_, af_] <;> (split <;> rfl)) (by simp only [a8_, go_sem, seval, ab_, aa_, az_, a6_, af_] <;> (have e : prR s = true := (by rw [hP, hJ, show pok (ls.map gi_) = true by simpa using h30]; rfl); rw [hX, e]; simp [be_])) (by simp only [go_sem, seval, ab_, aa_, az_, a6_, af_])
/-! books and programs, plainly -/
theorem aed_ (c : UInt8) (w : Str) (r : List Str) : cj_ ((c :: w) :: r) = c :: cj_ (w :: r) := by
 cases r with
 | nil => rw [l2_, l2_]
 | cons x r => rw [ie_, ie_]; rfl
theorem aeu_ : ∀ s : Str, cj_ (spl s) = s
 | [] => by simp [spl, l2_]
 | c :: s => by
  have ih := aeu_ s
  by_cases q : c = 10
  ·subst q
   rw [xn_]
   cases hl : spl s with
   | nil => exact absurd hl (ow_ s)
   | cons x r => rw [ie_, ← hl, ih]; rfl
  ·cases hl : spl s with
   | nil => exact absurd hl (ow_ s)
   | cons x r => rw [kz_ q hl, aed_, ← hl, ih]
theorem yd_ {s : Str} (h : do_ s ≠ []) : tOk s = true ∧ (cb_ s).length ≤ 16 ∧ cb_ s = spl s ∧ do_ s = (cb_ s).map et_ := by
 unfold do_ at h ⊢
 split at h
 ·rename_i q
  rw [if_pos q]
  by_cases ht : tOk s = true
  ·refine ⟨ht, q, ?_, rfl⟩
   unfold cb_; rw [if_pos ht]
  ·have : cb_ s = [] := by unfold cb_; rw [if_neg ht]
   rw [this] at h; exact absurd rfl h
 ·exact absurd rfl h
theorem aem_ {ls : List Str} (h : ∀ w ∈ ls, il_ w = true) : (ls.map et_).map (·.line) = ls := by
 rw [List.map_map]
 conv => rhs; rw [← List.map_id ls]
 exact List.map_congr_left fun w hw => qx_ (h w hw)
theorem kh_ {s : Str} (h : do_ s ≠ []) : (do_ s).map (·.line) = cb_ s := by
 rw [(yd_ h).2.2.2]; exact aem_ fun w hw => ra_ hw
theorem aau_ {s : Str} (h : do_ s ≠ []) : w0_ (do_ s) = s := by
 unfold w0_
 rw [if_pos (kt_ h), kh_ h, (yd_ h).2.2.1, aeu_]
theorem qz_ {s : Str} (h : do_ s ≠ []) : fh_ (do_ s) = (cb_ s).map gi_ := by
 rw [← kh_ h]
 unfold fh_
 rw [List.map_map]; rfl
theorem vz_ {l : List Pg} : ∀ k, k ≤ l.length → (gr_ l k = [] ↔ ∀ j, j < k → (l.getD j Pg0).good = true)
 | 0, _ => by simp [gr_]
 | k + 1, hk => by
  rw [gr_, List.append_eq_nil_iff, vz_ k (by omega)]
  constructor
  ·rintro ⟨h1, h2⟩ j hj
   by_cases q : j = k
   ·subst q
    cases hg : (l.getD j Pg0).good with
    | true => rfl
    | false => rw [hg] at h2; simp at h2
   ·exact h1 j (by omega)
  ·intro h
   exact ⟨fun j hj => h j (by omega), by rw [h k (by omega)]; rfl⟩
theorem aip_ {s : Str} (h : do_ s ≠ []) : prR s = true ↔ mw_ (do_ s) = [] := by
 have ho := kt_ h
 have hp : pok ((cb_ s).map gi_) = true := by rw [← qz_ h]; exact sc_ ho
 have hl := kh_ h
 unfold mw_
 rw [if_pos ho, vz_ _ (Nat.le_refl _)]
 unfold prR
 rw [hp, Bool.and_true]
 unfold la_
 rw [List.all_eq_true, ← hl]
 constructor
 ·intro q j hj
  have h2 := (if_ ((f1_ ho).2.2 j hj)).2.2
  rw [h2]
  exact q _ (List.mem_map.2 ⟨_, bk_ hj, rfl⟩)
 ·intro q w hw
  obtain ⟨p, hp, rfl⟩ := List.mem_map.1 hw
  have h2 := (if_ (ol_ ho p hp)).2.2
  obtain ⟨j, hj, rfl⟩ := abs_ hp
  rw [← h2]; exact q j hj
end
end Go.Proofs.YtpikbndepapbhaaGreatDoor
