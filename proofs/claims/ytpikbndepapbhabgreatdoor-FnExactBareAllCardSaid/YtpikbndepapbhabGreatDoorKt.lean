/- Plain laws of the program's reader: brackets are counted, texts are not made longer. Conditions: none. -/
import Derived.Test.YtpikbndepapbhabGreatDoorKd
import Derived.Test.YtpikbndepapbhabGreatDoorKb
import Derived.Test.YtpikbndepapbhabGreatDoorKn
import Derived.Test.YtpikbndepapbhabGreatDoorKh
import Derived.Test.YtpikbndepapbhabGreatDoorKi
import Derived.Test.YtpikbndepapbhabGreatDoorKj
set_option linter.unusedVariables false
set_option linter.unusedSimpArgs false
namespace Go.Proofs.YtpikbndepapbhabGreatDoor
section
def Dn (s' s : RS) (k : Int) : Prop := s.deep ≤ s'.deep ∧ s'.deep + s'.left.length ≤ s.deep + s.left.length + k ∧ s'.left.length ≤ s.left.length
theorem Dn.refl (s : RS) : Dn s s 0 := ⟨Int.le_refl _, by omega, Nat.le_refl _⟩
theorem Dn.trans {a b c : RS} {k m : Int} (h : Dn a b k) (g : Dn b c m) : Dn a c (k + m) := ⟨by have := h.1; have := g.1; omega, by have := h.2.1; have := g.2.1; omega, by have := h.2.2; have := g.2.2; omega⟩
theorem Dn.le {a b : RS} {k m : Int} (h : Dn a b k) (hm : k ≤ m) : Dn a b m := ⟨h.1, by have := h.2.1; omega, h.2.2⟩
theorem Dn.next (s : RS) : Dn (bw_ s) s (if s.left = [] then 0 else -1) := by
 unfold bw_ Dn
 cases h : s.left with
 | nil => simp [h]
 | cons x r => simp [h]; omega
theorem Dn.nx (s : RS) : Dn (bw_ s) s 0 := (Dn.next s).le (by split <;> omega)
theorem Dn.as (s : RS) (e : E) : Dn (asR s e).2 s 0 := by
 have h1 := wt_ s e
 have h2 := aad_ s e
 exact ⟨by omega, by omega, h1⟩
theorem Dn.bad (s : RS) (b : Bool) : Dn { s with bad := b } s 0 := ⟨Int.le_refl _, by dsimp only; omega, Nat.le_refl _⟩
theorem acc_ : ∀ n : Nat, (∀ t s, Dn (cf_ n t s).2 s 0) ∧ (∀ t e s, Dn (dg_ n t e s).2 s 0) ∧ (∀ s, Dn (eh_ n s).2 s 0) ∧ (∀ w s, Dn (dy_ n w s).2 s (if w = [40] then 1 else 0))
 | 0 => ⟨fun t s => by simp only [cf_]; exact Dn.refl s, fun t e s => by simp only [dg_]; exact Dn.refl s, fun s => by simp only [eh_]; exact Dn.refl s, fun w s => by simp only [dy_]; exact (Dn.refl s).le (by split <;> omega)⟩
 | n + 1 => by
  obtain ⟨h1, h2, h3, h4⟩ := acc_ n
  refine ⟨fun t s => ?_, fun t e s => ?_, fun s => ?_, fun w s => ?_⟩
  ·simp only [cf_]
   split
   ·exact h3 s
   ·exact ((h2 t _ _).trans (h1 (t + 1) s)).le (by omega)
  ·simp only [dg_]
   split
   ·exact (((h2 t _ _).trans (h1 (t + 1) _)).trans (Dn.nx s)).le (by omega)
   ·exact Dn.refl s
  ·simp only [eh_]
   refine (((Dn.as _ _).trans (h4 (b6_ s) (bw_ s))).trans (Dn.next s)).le ?_
   unfold b6_
   cases hl : s.left with
   | nil => simp
   | cons x r => simp only [reduceCtorEq, if_false]; split <;> omega
  ·simp only [dy_]
   split
   ·split
    ·exact ⟨by dsimp only; omega, by dsimp only; omega, Nat.le_refl _⟩
    ·have hD : Dn { s with deep := s.deep + 1 } s 1 := ⟨by dsimp only; omega, by dsimp only; omega, Nat.le_refl _⟩
     dsimp only
     split
     ·exact ((h1 1 _).trans hD).le (by omega)
     ·have q := ((Dn.nx (cf_ n 1 { s with deep := s.deep + 1 }).2).trans ((h1 1 _).trans hD)).le (m := 1) (by omega)
      exact ⟨q.1, q.2.1, q.2.2⟩
   ·split
    ·exact Dn.refl s
    ·split
     ·exact Dn.refl s
     ·exact Dn.bad s true
def smW (l : List Str) : Prop := ∀ w ∈ l, w.length ≤ 281474976710656
theorem gd_ {s : RS} (h : smW s.left) : smW (bw_ s).left ∧ (b6_ s).length ≤ 281474976710656 := by
 unfold bw_ b6_
 cases hl : s.left with
 | nil => simp [smW, hl]
 | cons x r => rw [hl] at h; exact ⟨fun w hw => h w (List.mem_cons_of_mem _ hw), h x List.mem_cons_self⟩
theorem ve_ {a b : E} {k n : Int} {s : Str} (hs : s.length < 4611686018427387904) (ha : sm a = true) (hb : sm b = true) : sm (.mk k n s [a, b]) = true := by simp [sm, sms, ha, hb, hs]
theorem v1_ {a : E} {k n : Int} {s : Str} (hs : s.length < 4611686018427387904) (ha : sm a = true) : sm (.mk k n s [a]) = true := by simp [sm, sms, ha, hs]
theorem m2_ {k n : Int} {s : Str} (hs : s.length < 4611686018427387904) : sm (.mk k n s []) = true := by simp [sm, sms, hs]
theorem abz_ : ∀ (l : List Str) (e : E) (d : Int), smW l → sm e = true → sm (asL l e d).1 = true ∧ smW (asL l e d).2.left
 | [], e, d, h, he => by simp only [asL]; exact ⟨he, h⟩
 | [w], e, d, h, he => by
  simp only [asL]; split
  ·exact ⟨v1_ (by simp) he, fun w hw => by cases hw⟩
  ·exact ⟨he, h⟩
 | w :: t :: r, e, d, h, he => by
  simp only [asL]; split
  ·exact abz_ r _ d (fun x hx => h x (by simp [hx])) (v1_ (Nat.lt_of_le_of_lt (h t (by simp)) (by decide)) he)
  ·exact ⟨he, h⟩
theorem ah8_ (s : RS) (e : E) (h : smW s.left) (he : sm e = true) : sm (asR s e).1 = true ∧ smW (asR s e).2.left := by
 unfold asR; split
 ·exact ⟨he, h⟩
 ·exact abz_ _ _ _ h he
theorem i_sm : ∀ n : Nat, (∀ t s, smW s.left → sm (cf_ n t s).1 = true ∧ smW (cf_ n t s).2.left) ∧ (∀ t e s, sm e = true → smW s.left → sm (dg_ n t e s).1 = true ∧ smW (dg_ n t e s).2.left) ∧ (∀ s, smW s.left → sm (eh_ n s).1 = true ∧ smW (eh_ n s).2.left) ∧ (∀ w s, w.length < 4611686018427387904 → smW s.left → sm (dy_ n w s).1 = true ∧ smW (dy_ n w s).2.left)
 | 0 => ⟨fun t s h => by simp only [cf_]; exact ⟨by decide, h⟩, fun t e s he h => by simp only [dg_]; exact ⟨he, h⟩, fun s h => by simp only [eh_]; exact ⟨by decide, h⟩, fun w s hw h => by simp only [dy_]; exact ⟨by decide, h⟩⟩
 | n + 1 => by
  obtain ⟨h1, h2, h3, h4⟩ := i_sm n
  refine ⟨fun t s h => ?_, fun t e s he h => ?_, fun s h => ?_, fun w s hw h => ?_⟩
  ·simp only [cf_]
   split
   ·exact h3 s h
   ·exact h2 t _ _ (h1 (t + 1) s h).1 (h1 (t + 1) s h).2
  ·simp only [dg_]
   split
   ·have q := h1 (t + 1) (bw_ s) (gd_ h).1
    exact h2 t _ _ (ve_ (Nat.lt_of_le_of_lt (gd_ h).2 (by decide)) he q.1) q.2
   ·exact ⟨he, h⟩
  ·simp only [eh_]
   have q := h4 (b6_ s) (bw_ s) (Nat.lt_of_le_of_lt (gd_ h).2 (by decide)) (gd_ h).1
   exact ah8_ _ _ q.2 q.1
  ·simp only [dy_]
   split
   ·split
    ·exact ⟨(show sm E0 = true by decide), h⟩
    ·have q := h1 1 { s with deep := s.deep + 1 } h
     dsimp only
     refine ⟨q.1, ?_⟩
     split
     ·exact q.2
     ·exact (gd_ q.2).1
   ·split
    ·exact ⟨m2_ (by simp), h⟩
    ·split
     ·exact ⟨m2_ hw, h⟩
     ·exact ⟨(show sm E0 = true by decide), h⟩
end
section
set_option maxRecDepth 100000
set_option maxHeartbeats 4000000
abbrev rsB (s : RS) : Blk := ⟨163, 3, [[.sl false (bi_ s.left), .b s.bad, .i .i64 s.deep]]⟩
theorem lc_ (s : RS) (hl : s.left.length < 4611686018427387904) : ACall En 197 [.pt 0 3 0 0] [rsB s] [.s (b6_ s)] [rsB (bw_ s)] := by
 obtain ⟨left, bad, deep⟩ := s
 cases left with
 | nil =>
 refine al_ (fn := Tryz.f197) [0] Tryz.func197 rfl rfl (by simp) fun C => ?_
 rw [aw_]
 simp only [Tryz.ntmps197, T7_, List.length_nil, Nat.reduceAdd, Nat.reduceSub, List.replicate_succ, List.replicate_zero, List.cons_append, List.nil_append, bo_]
 refine .seq (.rgn [] (by simp only [go_sem, seval, aj_, ag_]; rfl) ?_ ?_)
 ·first | trivial | simp
 refine .seq (.seq (.rgn [] (by simp only [go_sem, seval, aj_, ag_]; rfl) ?_ ?_))
 ·first | trivial | simp
 refine .condB (by simp only [go_sem, seval, aj_, ag_]; rfl) (by simp only [go_sem, seval, aj_, ag_]) (fun h9 => ?_) (fun h9 => ?_)
 ·refine .seq (.rgn [] (by simp only [go_sem, seval, aj_, ag_]; rfl) ?_ ?_)
  ·first | trivial | simp
  refine .seq (.rgn [] (by simp only [go_sem, seval, aj_, ag_]; rfl) ?_ ?_)
  ·first | trivial | simp
  refine .ret ⟨.inr rfl, ?_⟩
  exact Out.mem' (by simp only [Tryz.results197]; rfl) (by simp only [av_, a3_, go_sem, seval, aj_, ag_]) (by simp only [a2_, rns, rn, go_sem, seval, aj_, ag_] <;> (rfl)) (by simp) rfl (by decide) (by simp only [go_sem, seval, aj_, ag_]) (by simp only [an_, go_sem, seval, aj_, ag_]) (by simp only [ah_, go_sem, seval, aj_, ag_] <;> (simp [bw_, aj_]))
 ·exact absurd h9 (by simp)
 | cons x r =>
 refine al_ (fn := Tryz.f197) [0] Tryz.func197 rfl rfl (by simp) fun C => ?_
 rw [aw_]
 simp only [Tryz.ntmps197, T7_, List.length_nil, Nat.reduceAdd, Nat.reduceSub, List.replicate_succ, List.replicate_zero, List.cons_append, List.nil_append, bo_]
 refine .seq (.rgn [] (by simp only [go_sem, seval, aj_, ag_]; rfl) ?_ ?_)
 ·first | trivial | simp
 refine .seq (.seq (.rgn [] (by simp only [go_sem, seval, aj_, ag_]; rfl) ?_ ?_))
 ·first | trivial | simp
 refine .condB (by simp only [go_sem, seval, aj_, ag_]; rfl) (by simp only [go_sem, seval, aj_, ag_]) (fun h9 => ?_) (fun h9 => ?_)
 ·simp at h9; omega
 ·refine .skip (.seq (.rgn [] (by simp only [go_sem, seval, aj_, ag_]; rfl) ?_ ?_))
  ·first | trivial | simp
  refine .seq (.rgn [] (by simp only [go_sem, seval, aj_, ag_]; rfl) ?_ ?_)
  ·refine ⟨⟨by omega, by omega⟩, .inr fun q hq => ?_⟩; rcases List.mem_cons.1 hq with rfl | hq; rfl; exact o1_ hq
  refine .seq (.rgn [] (by simp only [go_sem, seval, aj_, ag_]; rfl) ?_ ?_)
  ·first | trivial | simp
  refine .ret ⟨.inr rfl, ?_⟩
  exact Out.mem' (by simp only [Tryz.results197]; rfl) (by simp only [av_, a3_, go_sem, seval, aj_, ag_]) (by simp only [a2_, rns, rn, go_sem, seval, aj_, ag_] <;> (rfl)) (by simp) rfl (by decide) (by simp only [go_sem, seval, aj_, ag_]) (by simp only [an_, go_sem, seval, aj_, ag_]) (by simp only [ah_, go_sem, seval, aj_, ag_] <;> (simp [bw_, T1_, ab_]))
theorem at_a (s : RS) (hl : s.left.length < 4611686018427387904) : ACall En 216 [.pt 0 3 0 0, .sl false [[.s [97, 115]]]] [rsB s] [.b (!s.bad && (!s.left.isEmpty && b6_ s == wAs))] [rsB s] := by
 obtain ⟨left, bad, deep⟩ := s
 cases left with
 | nil =>
 refine al_ (fn := Tryz.f216) [0] Tryz.func216 rfl rfl (by simp) fun C => ?_
 rw [aw_]
 simp only [Tryz.ntmps216, T7_, List.length_nil, Nat.reduceAdd, Nat.reduceSub, List.replicate_succ, List.replicate_zero, List.cons_append, List.nil_append, bo_]
 refine .seq (.rgn [] (by simp only [go_sem, seval, asO, aj_, ag_, wAs]; rfl) ?_ ?_)
 ·first | trivial | simp
 refine .seq (.rgnS [25] [asO En { v := .s [] }, a1_ (jp_ [wAs] [] (by decide))] (by simp only [go_sem, seval, asO, aj_, ag_, wAs]; rfl) ?_ ?_)
 ·first | trivial | simp
 refine .ret ⟨.inr rfl, ?_⟩
 exact Out.mem' (by simp only [Tryz.results216]; rfl) (by simp only [av_, a3_, go_sem, seval, asO, aj_, ag_, wAs]) (by simp only [a2_, rns, rn, go_sem, seval, asO, aj_, ag_, wAs] <;> (simp)) (by simp) rfl (by decide) (by simp only [go_sem, seval, asO, aj_, ag_, wAs]) (by simp only [an_, go_sem, seval, asO, aj_, ag_, wAs]) (by simp only [ah_, go_sem, seval, asO, aj_, ag_, wAs] <;> (simp [aj_]))
 | cons x r =>
 refine al_ (fn := Tryz.f216) [0] Tryz.func216 rfl rfl (by simp) fun C => ?_
 rw [aw_]
 simp only [Tryz.ntmps216, T7_, List.length_nil, Nat.reduceAdd, Nat.reduceSub, List.replicate_succ, List.replicate_zero, List.cons_append, List.nil_append, bo_]
 refine .seq (.rgn [] (by simp only [go_sem, seval, aj_, ag_, wAs]; rfl) ?_ ?_)
 ·first | trivial | simp
 refine .seq (.rgn [a1_ (jp_ [wAs] x (by decide))] (by simp only [go_sem, seval, aj_, ag_, wAs]; rfl) ?_ ?_)
 ·first | trivial | simp
 refine .ret ⟨.inr rfl, ?_⟩
 exact Out.mem' (by simp only [Tryz.results216]; rfl) (by simp only [av_, a3_, go_sem, seval, aj_, ag_, wAs]) (by simp only [a2_, rns, rn, go_sem, seval, aj_, ag_, wAs] <;> (simp [b6_, wAs])) (by simp) rfl (by decide) (by simp only [go_sem, seval, aj_, ag_, wAs]) (by simp only [an_, go_sem, seval, aj_, ag_, wAs]) (by simp only [ah_, go_sem, seval, aj_, ag_, wAs] <;> (simp [ag_]))
end
section
set_option maxRecDepth 100000
set_option maxHeartbeats 8000000
def okS2 (s : RS) : Prop := smW s.left ∧ 0 ≤ s.deep ∧ s.deep + s.left.length ≤ 1000000
theorem okS2.of {s s' : RS} (h : okS2 s) (d : Dn s' s 0) (w : smW s'.left) : okS2 s' := ⟨w, by have := d.1; have := h.2.1; omega, by have := d.2.1; have := h.2.2; omega⟩
def yc_ (n : Nat) : Prop := ∀ (t : Nat) (s : RS), t ≤ 4 → okS2 s → 10 * s.left.length + 10 - t ≤ n → ACall En 165 [.pt 0 3 0 0, .i .i64 t] [rsB s] [.ag (eC (cf_ n t s).1)] [rsB (cf_ n t s).2]
def wo_ (n : Nat) : Prop := ∀ (s : RS), okS2 s → 10 * s.left.length + 5 ≤ n → ACall En 196 [.pt 0 3 0 0] [rsB s] [.ag (eC (eh_ n s).1)] [rsB (eh_ n s).2]
theorem hr_ {s : RS} (h : okS2 s) : okS2 (bw_ s) := h.of (Dn.nx s) (gd_ h.1).1
theorem v3_ {s : RS} (h : okS2 s) (n t : Nat) : okS2 (cf_ n t s).2 := h.of ((acc_ n).1 t s) ((i_sm n).1 t s h.1).2
theorem in_ {s : RS} (h : s.left ≠ []) : (bw_ s).left.length + 1 = s.left.length := by
 unfold bw_
 cases hl : s.left with
 | nil => exact absurd hl h
 | cons x r => rfl
theorem tt_ {s : RS} (h : s.left ≠ []) : (bi_ s.left).getD 0 [] = [.s (b6_ s)] := by
 unfold b6_
 cases hl : s.left with
 | nil => exact absurd hl h
 | cons x r => rfl
theorem adp_ {j t : Nat} {e : E} {s : RS} (h : ((!s.bad && decide ((s.left.length : Int) > 0)) && bk_ (b6_ s) == (t : Int)) = true) : dg_ (j + 1) t e s = dg_ j t (.mk 3 0 (b6_ s) [e, (cf_ j (t + 1) (bw_ s)).1]) (cf_ j (t + 1) (bw_ s)).2 ∧ s.left ≠ [] := by
 simp only [T5_, Bool.not_eq_true', T3_, beq_iff_eq] at h
 have hne : s.left ≠ [] := by intro e; rw [e] at h; simp at h
 simp only [dg_]
 rw [if_pos ⟨h.1.1, hne, h.2⟩]
 exact ⟨rfl, hne⟩
theorem acp_ {j t : Nat} {e : E} {s : RS} (h : ((!s.bad && decide ((s.left.length : Int) > 0)) && bk_ (b6_ s) == (t : Int)) = false) : dg_ (j + 1) t e s = (e, s) := by
 simp only [dg_]
 rw [if_neg]
 rintro ⟨a, b, c⟩
 rw [a, c] at h
 cases hl : s.left with
 | nil => exact b hl
 | cons x r => rw [hl] at h; simp at h
theorem acq_ {s : RS} (h : (!s.bad && decide ((s.left.length : Int) > 0)) = true) : s.left ≠ [] := by intro e; rw [e] at h; simp at h
theorem ahi_ {s : RS} (h : (!s.bad && decide ((s.left.length : Int) > 0)) = true) : (0 : Int) < s.left.length := by simp at h; omega
theorem uj_ {s : RS} (h : s.left ≠ []) : ((bi_ s.left).getD 0 []).length = 1 := by rw [tt_ h]; rfl
theorem ahm_ {s : RS} (h : s.left ≠ []) : ((bi_ s.left).getD 0 []).getD 0 .no = .s (b6_ s) := by rw [tt_ h]; rfl
def LI (n t : Nat) (s : RS) (q : Nat × E × RS) : Prop := okS2 q.2.2 ∧ 10 * q.2.2.left.length + 1 ≤ q.1 ∧ q.1 ≤ n ∧ dg_ n t (cf_ n (t + 1) s).1 (cf_ n (t + 1) s).2 = dg_ q.1 t q.2.1 q.2.2
def LN (t : Nat) (q : Nat × E × RS) : Nat × E × RS := (q.1 - 1, .mk 3 0 (b6_ q.2.2) [q.2.1, (cf_ (q.1 - 1) (t + 1) (bw_ q.2.2)).1], (cf_ (q.1 - 1) (t + 1) (bw_ q.2.2)).2)
theorem xc_ {n t : Nat} {s : RS} {q : Nat × E × RS} (h8 : ((t : Int) == 4) = false) (hI : LI n t s q) (h : ((!q.2.2.bad && decide ((q.2.2.left.length : Int) > 0)) && bk_ (b6_ q.2.2) == (t : Int)) = false) : cf_ (n + 1) t s = q.2 := by
 obtain ⟨j, e, s'⟩ := q
 obtain ⟨h1, h2, h3, h4⟩ := hI
 dsimp only at h1 h2 h3 h4 h ⊢
 obtain ⟨i, rfl⟩ : ∃ i, j = i + 1 := ⟨j - 1, by omega⟩
 rw [mk_ (by simp at h8; omega), h4, acp_ h]
theorem t4_ {n t : Nat} {s : RS} {q : Nat × E × RS} (hI : LI n t s q) (h : ((!q.2.2.bad && decide ((q.2.2.left.length : Int) > 0)) && bk_ (b6_ q.2.2) == (t : Int)) = true) : LI n t s (LN t q) ∧ (LN t q).2.2.left.length < q.2.2.left.length := by
 obtain ⟨j, e, s'⟩ := q
 obtain ⟨h1, h2, h3, h4⟩ := hI
 unfold LI LN
 dsimp only at h1 h2 h3 h4 h ⊢
 obtain ⟨i, rfl⟩ : ∃ i, j = i + 1 := ⟨j - 1, by omega⟩
 obtain ⟨g1, g2⟩ := adp_ (j := i) (e := e) h
 have q1 := in_ g2
 have q2 := (xe_ i).1 (t + 1) (bw_ s')
 simp only [Nat.add_sub_cancel]
 exact ⟨⟨v3_ (hr_ h1) _ _, by omega, by omega, by rw [h4, g1]⟩, by omega⟩
theorem v5_ (n : Nat) (ihL : ∀ j, j < n + 1 → yc_ j) (ihH : ∀ j, j < n + 1 → wo_ j) : yc_ (n + 1) := fun t s ht hs hn => by
 obtain ⟨s1, s2, s3⟩ := hs
 have hlen : s.left.length < 4611686018427387904 := by omega
 have L1 : t < 4 → okS2 (cf_ n (t + 1) s).2 ∧ (cf_ n (t + 1) s).2.left.length ≤ s.left.length := fun _ => ⟨v3_ ⟨s1, s2, s3⟩ n (t + 1), (xe_ n).1 (t + 1) s⟩
 have LJ : ∀ q : Nat × E × RS, okS2 q.2.2 → 10 * q.2.2.left.length + 1 ≤ q.1 → q.1 ≤ n → q.2.2.left ≠ [] → t < 4 → ACall En 165 [.pt 0 3 0 0, .i .i64 ((t + 1 : Nat) : Int)] [rsB (bw_ q.2.2)] [.ag (eC (cf_ (q.1 - 1) (t + 1) (bw_ q.2.2)).1)] [rsB (cf_ (q.1 - 1) (t + 1) (bw_ q.2.2)).2] := fun q h1 h2 h3 h4 h5 => by
  have := in_ h4
  exact ihL (q.1 - 1) (by omega) (t + 1) (bw_ q.2.2) (by omega) (hr_ h1) (by omega)
 have hw : IntKind.i64.wrap ((t : Int) + 1) = ((t + 1 : Nat) : Int) := by rw [bd_ (by omega) (by omega)]; rfl
 refine al_ (fn := Tryz.f165) [0] Tryz.func165 rfl rfl (by simp) fun C => ?_
 rw [aw_]
 simp only [Tryz.ntmps165, T7_, List.length_nil, Nat.reduceAdd, Nat.reduceSub, List.replicate_succ, List.replicate_zero, List.cons_append, List.nil_append, bo_]
 refine .seq (.rgn [] (by simp only [go_sem, seval, asO, ah_, an_, hw, ab_]; rfl) ?_ ?_)
 ·first | trivial | simp
 refine .seq (.seq (.rgn [] (by simp only [go_sem, seval, asO, ah_, an_, hw, ab_]; rfl) ?_ ?_))
 ·first | trivial | simp
 refine .condB (by simp only [go_sem, seval, asO, ah_, an_, hw, ab_]; rfl) (by simp only [go_sem, seval, asO, ah_, an_, hw, ab_]) (fun h8 => ?_) (fun h8 => ?_)
 ·refine .seq (.rgn [bm_ [0] [] (ihH n (by omega) s ⟨s1, s2, s3⟩ (by simp at h8; omega))] (by simp only [go_sem, seval, asO, ah_, an_, hw, ab_]; rfl) ?_ ?_)
  ·first | trivial | simp
  refine .ret ⟨.inr rfl, ?_⟩
  exact Out.mem' (by simp only [Tryz.results165]; rfl) (by simp only [av_, a3_, go_sem, seval, asO, ah_, an_, hw, ab_]) (by simp only [a2_, rns, rn, go_sem, seval, asO, ah_, an_, hw, ab_] <;> ((obtain rfl : t = 4 := (by simp at h8; omega)); simp [mz_])) (by simp) rfl (by decide) (by simp only [go_sem, seval, asO, ah_, an_, hw, ab_]) (by simp only [an_, go_sem, seval, asO, ah_, an_, hw, ab_]) (by simp only [ah_, go_sem, seval, asO, ah_, an_, hw, ab_] <;> ((obtain rfl : t = 4 := (by simp at h8; omega)); simp [mz_]))
 ·refine .skip (.seq (.rgn [bm_ [0] [] (ihL n (by omega) (t + 1) s (by simp at h8; omega) ⟨s1, s2, s3⟩ (by simp at h8; omega))] (by simp only [go_sem, seval, asO, ah_, an_, hw, ab_]; rfl) ?_ ?_))
  ·first | trivial | simp
  refine .seq (.block (.loopK (fun q : Nat × E × RS => ⟨[.pt 0 3 0 0, .i .i64 t, .no, .no, .pt 14 4 0 0, .pt 15 4 0 0, .no, .no, .no, .no, .no, .no, .no, .no, .no, .no, .no, .no, .no, .no, .no, .no, .no, .no, .no, .no, .no, .no, .no, .no, .no, .no, .no, .no, .no, .no, .no, .no, .no, .no, .no, .no, .no, .no, .no, .no, .no, .no, .no, .no], bc_ [(0, rsB q.2.2), (14, ⟨33, 4, [[.i .i64 0, .i .i64 0, .s [], .sl true []]]⟩), (15, ⟨33, 4, [eC q.2.1]⟩)], us [14, 15]⟩) (fun q : Nat × E × RS => LI n t s q) (fun q : Nat × E × RS => q.2.2.left.length) ((n, (cf_ n (t + 1) s).1, (cf_ n (t + 1) s).2)) ?_ ?_ (fun q hI => ?_)))
  ·exact ⟨(L1 (by simp at h8; omega)).1, by have := (L1 (by simp at h8; omega)).2; dsimp only; simp at h8; omega, Nat.le_refl _, rfl⟩
  ·exact Can.weak (Weak.lit (by simp only [go_sem, seval, asO, ah_, an_, hw, ab_, aq_, leV, ao_, ap_, V.inn, us, T9_, Ta_]) (by simp only [go_sem, seval, asO, ah_, an_, hw, ab_, aq_, leV, ao_, ap_, V.inn, us, T9_, Ta_]) (by simp only [go_sem, seval, asO, ah_, an_, hw, ab_, aq_, leV, ao_, ap_, V.inn, us, T9_, Ta_]))
  refine .seq (.seq (.rgnS [34] [asO En { v := .s (b6_ q.2.2) }, a1_ (ib_ (b6_ q.2.2))] (by simp only [go_sem, seval, asO, ah_, an_, hw, ab_]; rfl) ?_ ?_))
  ·exact ⟨fun h => ⟨h, ahi_ h, uj_ (acq_ h)⟩, fun h => ⟨⟨h, by rw [uj_ (acq_ h)]; exact Nat.le_refl _⟩, by rw [ahm_ (acq_ h)]⟩⟩
  refine .condB (by simp only [go_sem, seval, asO, ah_, an_, hw, ab_]; rfl) (by simp only [go_sem, seval, asO, ah_, an_, hw, ab_]) (fun h38 => ?_) (fun h38 => ?_)
  ·refine .skip (.block (.seq (.rgn [bm_ [0] [] (lc_ q.2.2 (by have := hI.1.2; omega))] (by simp only [go_sem, seval, asO, ah_, an_, hw, ab_]; rfl) ?_ ?_)))
   ·first | trivial | simp
   refine .rgnD [bm_ [0] [] (LJ q hI.1 hI.2.1 hI.2.2.1 (by simp at h38; intro e; simp [e] at h38) (by simp at h8; omega))] enM (by simp only [go_sem, seval, asO, ah_, an_, hw, ab_]; rfl) (by rfl) ?_ ?_
   ·first | trivial | simp
   refine Exists.intro (LN t q) ⟨?_, ?_, ?_⟩
   ·exact (t4_ hI h38).1
   ·exact (t4_ hI h38).2
   refine Can.trans (Can.leAt 15 ([[.i .i64 3, .i .i64 0, .s (b6_ q.2.2), .sl false [eC q.2.1, eC (cf_ (q.1 - 1) (t + 1) (bw_ q.2.2)).1]]]) (by simp only [go_sem, seval, asO, ah_, an_, hw, ab_] <;> rfl) (by simp only [go_sem, seval, asO, ah_, an_, hw, ab_, ler, les, leV] <;> (first | trivial | simp)) (by simp only [go_sem, seval, asO, ah_, an_, hw, ab_] <;> rfl)) ?_
   exact Can.weak (Weak.lit (by simp only [go_sem, seval, asO, ah_, an_, hw, ab_, aq_, leV, ao_, ap_, V.inn, us, T9_, Ta_]) (by simp only [go_sem, seval, asO, ah_, an_, hw, ab_, aq_, leV, ao_, ap_, V.inn, us, T9_, Ta_]) (by simp only [go_sem, seval, asO, ah_, an_, hw, ab_, aq_, leV, ao_, ap_, V.inn, us, T9_, Ta_] <;> (simp [LN, E.kind, E.n, E.s, E.kids, eR, a4_])))
  ·refine .exit (.seq (.rgn [] (by simp only [go_sem, seval, asO, ah_, an_, hw, ab_]; rfl) ?_ ?_))
   ·first | trivial | simp
   refine .ret ⟨.inr rfl, ?_⟩
   exact Out.mem' (by simp only [Tryz.results165]; rfl) (by simp only [av_, a3_, go_sem, seval, asO, ah_, an_, hw, ab_]) (by simp only [a2_, rns, rn, go_sem, seval, asO, ah_, an_, hw, ab_] <;> (rw [xc_ h8 hI h38])) (by simp) rfl (by decide) (by simp only [go_sem, seval, asO, ah_, an_, hw, ab_]) (by simp only [an_, go_sem, seval, asO, ah_, an_, hw, ab_]) (by simp only [ah_, go_sem, seval, asO, ah_, an_, hw, ab_] <;> (rw [xc_ h8 hI h38]; (try simp)))
end
section
set_option maxRecDepth 100000
set_option maxHeartbeats 8000000
theorem adt_ {s : RS} {e : E} (h : (!s.bad && (!s.left.isEmpty && b6_ s == wAs)) = true) : asR s e = asR (bw_ (bw_ s)) (.mk 4 0 (b6_ (bw_ s)) [e]) ∧ s.left ≠ [] := by
 obtain ⟨left, bad, deep⟩ := s
 cases left with
 | nil => simp at h
 | cons x r =>
  simp only [T5_, Bool.not_eq_true', beq_iff_eq, b6_] at h
  obtain ⟨rfl, _, rfl⟩ := h
  refine ⟨?_, by simp⟩
  cases r with
  | nil => simp [asR, asL, bw_, b6_]
  | cons t r => simp [asR, asL, bw_, b6_]
theorem aa8_ {s : RS} {e : E} (h : (!s.bad && (!s.left.isEmpty && b6_ s == wAs)) = false) : asR s e = (e, s) := by
 obtain ⟨left, bad, deep⟩ := s
 cases bad with
 | true => simp [asR]
 | false =>
  match left with
  | [] => simp [asR, asL]
  | [x] => simp [b6_] at h; simp [asR, asL, h]
  | x :: t :: r => simp [b6_] at h; simp [asR, asL, h]
def HS (s : RS) : RS := ⟨(bw_ s).left, (bw_ s).bad || decide ((bw_ s).deep + 1 > 40), (bw_ s).deep + 1⟩
def HP (m : Nat) (s : RS) : E × RS := if (HS s).bad then (E0, HS s) else cf_ m 1 (HS s)
def HQ (q : E × RS) : E × RS := (q.1, if q.2.bad then q.2 else { bw_ q.2 with bad := !(b6_ q.2 == [41]) })
theorem aac_ {m : Nat} {s : RS} (h : (!((bw_ s).bad || decide ((bw_ s).deep + 1 > 40))) = true) : HP m s = cf_ m 1 (HS s) := by
 unfold HP
 have : (HS s).bad = false := by simpa [HS] using h
 rw [this]; rfl
theorem abk_ {m : Nat} {s : RS} (h : (!((bw_ s).bad || decide ((bw_ s).deep + 1 > 40))) = false) : HP m s = (E0, HS s) := by
 unfold HP
 have : (HS s).bad = true := by simp only [Bool.not_eq_false'] at h; exact h
 rw [this]; rfl
theorem ip_ {m : Nat} {s : RS} : dy_ (m + 1) [40] (bw_ s) = HQ (HP m s) := by
 simp only [dy_, if_true]
 by_cases h : (bw_ s).bad = true ∨ 40 < (bw_ s).deep + 1
 ·rw [if_pos h]
  have hx : ((bw_ s).bad || decide ((bw_ s).deep + 1 > 40)) = true := by simpa using h
  rw [abk_ (by rw [hx]; rfl)]
  simp only [HQ, HS, hx, if_true]
 ·rw [if_neg h]
  have hx : ((bw_ s).bad || decide ((bw_ s).deep + 1 > 40)) = false := by simp at h ⊢; exact ⟨h.1, by omega⟩
  have hb : (bw_ s).bad = false := by simp at h; exact h.1
  have e : HS s = { bw_ s with deep := (bw_ s).deep + 1 } := by unfold HS; rw [hx, ← hb]
  rw [aac_ (by rw [hx]; rfl), e]; rfl
theorem hc_ {n : Nat} {w : Str} {s : RS} (h : w ≠ [40]) (h1 : cq_ w = false) (h2 : fd_ w = false) : dy_ (n + 1) w s = (E0, { s with bad := true }) := by simp [dy_, h, h1, h2]
theorem hj_ {s : RS} (h : okS2 s) (b : Bool) : okS2 { s with bad := b } := h
theorem q3_ {s : RS} (h : okS2 s) (hn : s.left ≠ []) : okS2 (HS s) := by
 have := in_ hn
 have h1 := hr_ h
 exact ⟨h1.1, by have := h1.2.1; simp only [HS]; omega, by have := n3_ s; have := h.2.2; simp only [HS]; omega⟩
theorem x3_ {s : RS} (h : okS2 s) (hn : s.left ≠ []) (m : Nat) : okS2 (HP m s).2 := by
 unfold HP; split
 ·exact q3_ h hn
 ·exact v3_ (q3_ h hn) m 1
theorem j8_ {q : E × RS} (h : okS2 q.2) : okS2 (HQ q).2 := by
 unfold HQ; dsimp only; split
 ·exact h
 ·exact hj_ (hr_ h) _
theorem rs_ {s : RS} (h : b6_ s ≠ []) : s.left ≠ [] := by unfold b6_ at h; intro e; rw [e] at h; exact h rfl
theorem c4_ {n : Nat} {s : RS} {q : E × RS} (h : dy_ n (b6_ s) (bw_ s) = q) : eh_ (n + 1) s = asR q.2 q.1 := by simp only [eh_, h]
theorem agb_ (s : Str) : dr_ (h6_ s) = true := by unfold h6_; split <;> rfl
theorem zh_ (m : Nat) (ihL : ∀ j, j < m + 2 → yc_ j) : wo_ (m + 2) := fun s hs hn => by
 have h1 := hr_ hs
 have hd := n3_ s
 have hl1 := ga_ s
 have hb := hs.2.2
 have hb0 := hs.2.1
 have hH := (gd_ hs.1).2
 have hw : IntKind.i64.wrap ((bw_ s).deep + 1) = (bw_ s).deep + 1 := bd_ (by omega) (by omega)
 have hnv : cq_ (b6_ s) = true → h6_ (b6_ s) = .i .i64 (by_ (b6_ s)) := fun h => by simp [h6_, h]
 have LB : s.left ≠ [] → ACall En 165 [.pt 0 3 0 0, .i .i64 ((1 : Nat) : Int)] [rsB (HS s)] [.ag (eC (cf_ m 1 (HS s)).1)] [rsB (cf_ m 1 (HS s)).2] := fun h => ihL m (by omega) 1 (HS s) (by omega) (q3_ hs h) (by have := in_ h; show 10 * (bw_ s).left.length + 10 - 1 ≤ m; omega)
 refine al_ (fn := Tryz.f196) [0] Tryz.func196 rfl rfl (by simp) fun C => ?_
 rw [aw_]
 simp only [Tryz.ntmps196, T7_, List.length_nil, Nat.reduceAdd, Nat.reduceSub, List.replicate_succ, List.replicate_zero, List.cons_append, List.nil_append, bo_]
 refine .seq (.rgn [] (by simp only [go_sem, seval, ah_, an_, hw]; rfl) ?_ ?_)
 ·first | trivial | simp
 refine .seq (.rgn [] (by simp only [go_sem, seval, ah_, an_, hw]; rfl) ?_ ?_)
 ·first | trivial | simp
 refine .seq (.rgn [bm_ [0] [] (lc_ s (by omega))] (by simp only [go_sem, seval, ah_, an_, hw]; rfl) ?_ ?_)
 ·first | trivial | simp
 refine .seq (.rgn [a1_ (sk_ (b6_ s) hH)] (by simp only [go_sem, seval, ah_, an_, hw]; rfl) ?_ ?_)
 ·exact ⟨b2_ _, agb_ _⟩
 refine .seqJ (fun q2 : E × RS => ⟨[.pt 0 3 0 0, .no, .pt 12 4 0 0, .pt 13 4 0 0, .no, .no, .no, .no, .no, .no, .no, .no, .no, .no, .no, .no, .no, .no, .no, .no, .no, .no, .no, .no, .no, .no, .no, .no, .no, .no, .no, .no, .no, .no, .no, .no, .no, .no, .no, .no, .no, .no, .no, .no, .no, .no, .no, .no, .no, .no, .no, .no, .no, .no, .no, .no, .no, .no, .no, .no, .no, .no, .no, .no, .no, .no, .no, .no, .no, .no, .no, .no, .no, .no, .no, .no, .no, .no, .no, .no], bc_ [(0, rsB q2.2), (12, ⟨33, 4, [[.i .i64 0, .i .i64 0, .s [], .sl true []]]⟩), (13, ⟨33, 4, [eC q2.1]⟩)], us [12, 13]⟩) (fun q2 : E × RS => eh_ (m + 2) s = asR q2.2 q2.1 ∧ okS2 q2.2) ?_ (fun q2 hJ => ?_)
 ·refine .block (.seq (.rgn [] (by simp only [go_sem, seval, ah_, an_, hw]; rfl) ?_ ?_))
  ·first | trivial | simp
  refine .condB (by simp only [go_sem, seval, ah_, an_, hw]; rfl) (by simp only [go_sem, seval, ah_, an_, hw]) (fun h17 => ?_) (fun h17 => ?_)
  ·refine .seq (.rgn [] (by simp only [go_sem, seval, ah_, an_, hw]; rfl) ?_ ?_)
   ·first | trivial | simp
   refine .seq (.rgn [] (by simp only [go_sem, seval, ah_, an_, hw]; rfl) ?_ ?_)
   ·first | trivial | simp
   refine .seqJ (fun q : E × RS => ⟨[.pt 0 3 0 0, .no, .pt 12 4 0 0, .pt 13 4 0 0, .no, .no, .no, .no, .no, .no, .no, .no, .no, .no, .no, .no, .no, .no, .no, .no, .no, .no, .no, .no, .no, .no, .no, .no, .no, .no, .no, .no, .no, .no, .no, .no, .no, .no, .no, .no, .no, .no, .no, .no, .no, .no, .no, .no, .no, .no, .no, .no, .no, .no, .no, .no, .no, .no, .no, .no, .no, .no, .no, .no, .no, .no, .no, .no, .no, .no, .no, .no, .no, .no, .no, .no, .no, .no, .no, .no], bc_ [(0, rsB q.2), (12, ⟨33, 4, [[.i .i64 0, .i .i64 0, .s [], .sl true []]]⟩), (13, ⟨33, 4, [eC q.1]⟩)], us [12, 13]⟩) (fun q : E × RS => q = HP m s ∧ okS2 q.2) ?_ (fun q hJ => ?_)
   ·refine .seq (.rgn [] (by simp only [go_sem, seval, ah_, an_, hw]; rfl) ?_ ?_)
    ·first | trivial | simp
    refine .condB (by simp only [go_sem, seval, ah_, an_, hw]; rfl) (by simp only [go_sem, seval, ah_, an_, hw]) (fun h45 => ?_) (fun h45 => ?_)
    ·refine .rgn [bm_ [0] [] (LB (rs_ (by simp at h17; rw [h17]; simp)))] (by simp only [go_sem, seval, ah_, an_, hw]; rfl) ?_ ?_
     ·first | trivial | simp
     refine Exists.intro (HP m s) ⟨?_, ?_⟩
     ·exact ⟨rfl, x3_ hs (rs_ (by simp at h17; rw [h17]; simp)) m⟩
     exact Can.weak (Weak.lit (by simp only [go_sem, seval, ah_, an_, hw, aq_, leV, ao_, ap_, V.inn, us, T9_, Ta_]) (by simp only [go_sem, seval, ah_, an_, hw, aq_, leV, ao_, ap_, V.inn, us, T9_, Ta_]) (by simp only [go_sem, seval, ah_, an_, hw, aq_, leV, ao_, ap_, V.inn, us, T9_, Ta_] <;> (first | (rw [aac_ h45]; simp; done) | (rw [abk_ h45]; simp [HS, E0, E.kind, E.n, E.s, E.kids, eR]; done))))
    ·refine .skip ?_
     refine Exists.intro (HP m s) ⟨?_, ?_⟩
     ·exact ⟨rfl, x3_ hs (rs_ (by simp at h17; rw [h17]; simp)) m⟩
     refine Can.trans (Can.leAt 13 ([[.i .i64 0, .i .i64 0, .s [], .sl false []]]) (by simp only [go_sem, seval, ah_, an_, hw] <;> rfl) (by simp only [go_sem, seval, ah_, an_, hw, ler, les, leV] <;> (first | trivial | simp)) (by simp only [go_sem, seval, ah_, an_, hw] <;> rfl)) ?_
     exact Can.weak (Weak.lit (by simp only [go_sem, seval, ah_, an_, hw, aq_, leV, ao_, ap_, V.inn, us, T9_, Ta_]) (by simp only [go_sem, seval, ah_, an_, hw, aq_, leV, ao_, ap_, V.inn, us, T9_, Ta_]) (by simp only [go_sem, seval, ah_, an_, hw, aq_, leV, ao_, ap_, V.inn, us, T9_, Ta_] <;> (first | (rw [aac_ h45]; simp; done) | (rw [abk_ h45]; simp [HS, E0, E.kind, E.n, E.s, E.kids, eR]; done))))
   cases hb : q.2.bad
   ·refine .rgn [bm_ [0] [] (lc_ q.2 (by have := (hJ.2 : okS2 q.2).2.2; have := (hJ.2 : okS2 q.2).2.1; omega))] (by simp only [go_sem, seval, ah_, an_, hw, hb]; rfl) ?_ ?_
    ·(first | trivial | (simp; done) | (simp [hb]; done))
    refine Exists.intro (HQ q) ⟨?_, ?_⟩
    ·first | exact ⟨c4_ (by rw [show b6_ s = [40] from by simpa using h17, ip_, hJ.1]), j8_ hJ.2⟩ | exact ⟨c4_ (f7_ (by simpa using h17) (by simpa using h60)), h1⟩ | exact ⟨c4_ (e8_ (by simpa using h17) (by simpa using h60) (by simpa using h64)), h1⟩ | exact ⟨c4_ (hc_ (by simpa using h17) (by simpa using h60) (by simpa using h64)), hj_ h1 true⟩
    exact Can.weak (Weak.lit (by simp only [go_sem, seval, ah_, an_, hw, aq_, leV, ao_, ap_, V.inn, us, T9_, Ta_]) (by simp only [go_sem, seval, ah_, an_, hw, aq_, leV, ao_, ap_, V.inn, us, T9_, Ta_]) (by simp only [go_sem, seval, ah_, an_, hw, aq_, leV, ao_, ap_, V.inn, us, T9_, Ta_] <;> (first | (simp [HQ, hb]; done) | (simp [E.kind, E.n, E.s, E.kids, eR]; done) | (simp [E0, E.kind, E.n, E.s, E.kids, eR]; done))))
   ·refine .rgn [bm_ [0] [] (lc_ q.2 (by have := (hJ.2 : okS2 q.2).2.2; have := (hJ.2 : okS2 q.2).2.1; omega))] (by simp only [go_sem, seval, ah_, an_, hw, hb]; rfl) ?_ ?_
    ·(first | trivial | (simp; done) | (simp [hb]; done))
    refine Exists.intro (HQ q) ⟨?_, ?_⟩
    ·first | exact ⟨c4_ (by rw [show b6_ s = [40] from by simpa using h17, ip_, hJ.1]), j8_ hJ.2⟩ | exact ⟨c4_ (f7_ (by simpa using h17) (by simpa using h60)), h1⟩ | exact ⟨c4_ (e8_ (by simpa using h17) (by simpa using h60) (by simpa using h64)), h1⟩ | exact ⟨c4_ (hc_ (by simpa using h17) (by simpa using h60) (by simpa using h64)), hj_ h1 true⟩
    exact Can.weak (Weak.lit (by simp only [go_sem, seval, ah_, an_, hw, aq_, leV, ao_, ap_, V.inn, us, T9_, Ta_]) (by simp only [go_sem, seval, ah_, an_, hw, aq_, leV, ao_, ap_, V.inn, us, T9_, Ta_]) (by simp only [go_sem, seval, ah_, an_, hw, aq_, leV, ao_, ap_, V.inn, us, T9_, Ta_] <;> (first | (simp [HQ, hb]; done) | (simp [E.kind, E.n, E.s, E.kids, eR]; done) | (simp [E0, E.kind, E.n, E.s, E.kids, eR]; done))))
  ·refine .seq (.rgn [] (by simp only [go_sem, seval, ah_, an_, hw]; rfl) ?_ ?_)
   ·first | trivial | simp
   refine .condB (by simp only [go_sem, seval, ah_, an_, hw]; rfl) (by simp only [go_sem, seval, ah_, an_, hw]) (fun h60 => ?_) (fun h60 => ?_)
   ·refine .rgn [] (by simp only [go_sem, seval, ah_, an_, hw, hnv (by simpa using h60)]; rfl) ?_ ?_
    ·first | trivial | simp
    refine Exists.intro ((.mk 1 (by_ (b6_ s)) [] [], bw_ s)) ⟨?_, ?_⟩
    ·first | exact ⟨c4_ (by rw [show b6_ s = [40] from by simpa using h17, ip_, hJ.1]), j8_ hJ.2⟩ | exact ⟨c4_ (f7_ (by simpa using h17) (by simpa using h60)), h1⟩ | exact ⟨c4_ (e8_ (by simpa using h17) (by simpa using h60) (by simpa using h64)), h1⟩ | exact ⟨c4_ (hc_ (by simpa using h17) (by simpa using h60) (by simpa using h64)), hj_ h1 true⟩
    refine Can.trans (Can.leAt 13 ([[.i .i64 1, .i .i64 (by_ (b6_ s)), .s [], .sl false []]]) (by simp only [go_sem, seval, ah_, an_, hw] <;> rfl) (by simp only [go_sem, seval, ah_, an_, hw, ler, les, leV] <;> (first | trivial | simp)) (by simp only [go_sem, seval, ah_, an_, hw] <;> rfl)) ?_
    exact Can.weak (Weak.lit (by simp only [go_sem, seval, ah_, an_, hw, aq_, leV, ao_, ap_, V.inn, us, T9_, Ta_]) (by simp only [go_sem, seval, ah_, an_, hw, aq_, leV, ao_, ap_, V.inn, us, T9_, Ta_]) (by simp only [go_sem, seval, ah_, an_, hw, aq_, leV, ao_, ap_, V.inn, us, T9_, Ta_] <;> (first | (simp [HQ, hb]; done) | (simp [E.kind, E.n, E.s, E.kids, eR]; done) | (simp [E0, E.kind, E.n, E.s, E.kids, eR]; done))))
   ·refine .seq (.rgn [a1_ (ob_ (b6_ s) (by omega))] (by simp only [go_sem, seval, ah_, an_, hw]; rfl) ?_ ?_)
    ·first | trivial | simp
    refine .condB (by simp only [go_sem, seval, ah_, an_, hw]; rfl) (by simp only [go_sem, seval, ah_, an_, hw]) (fun h64 => ?_) (fun h64 => ?_)
    ·refine .rgn [] (by simp only [go_sem, seval, ah_, an_, hw]; rfl) ?_ ?_
     ·first | trivial | simp
     refine Exists.intro ((.mk 2 0 (b6_ s) [], bw_ s)) ⟨?_, ?_⟩
     ·first | exact ⟨c4_ (by rw [show b6_ s = [40] from by simpa using h17, ip_, hJ.1]), j8_ hJ.2⟩ | exact ⟨c4_ (f7_ (by simpa using h17) (by simpa using h60)), h1⟩ | exact ⟨c4_ (e8_ (by simpa using h17) (by simpa using h60) (by simpa using h64)), h1⟩ | exact ⟨c4_ (hc_ (by simpa using h17) (by simpa using h60) (by simpa using h64)), hj_ h1 true⟩
     refine Can.trans (Can.leAt 13 ([[.i .i64 2, .i .i64 0, .s (b6_ s), .sl false []]]) (by simp only [go_sem, seval, ah_, an_, hw] <;> rfl) (by simp only [go_sem, seval, ah_, an_, hw, ler, les, leV] <;> (first | trivial | simp)) (by simp only [go_sem, seval, ah_, an_, hw] <;> rfl)) ?_
     exact Can.weak (Weak.lit (by simp only [go_sem, seval, ah_, an_, hw, aq_, leV, ao_, ap_, V.inn, us, T9_, Ta_]) (by simp only [go_sem, seval, ah_, an_, hw, aq_, leV, ao_, ap_, V.inn, us, T9_, Ta_]) (by simp only [go_sem, seval, ah_, an_, hw, aq_, leV, ao_, ap_, V.inn, us, T9_, Ta_] <;> (first | (simp [HQ, hb]; done) | (simp [E.kind, E.n, E.s, E.kids, eR]; done) | (simp [E0, E.kind, E.n, E.s, E.kids, eR]; done))))
    ·refine .rgn [] (by simp only [go_sem, seval, ah_, an_, hw]; rfl) ?_ ?_
     ·first | trivial | simp
     refine Exists.intro ((E0, { bw_ s with bad := true })) ⟨?_, ?_⟩
     ·first | exact ⟨c4_ (by rw [show b6_ s = [40] from by simpa using h17, ip_, hJ.1]), j8_ hJ.2⟩ | exact ⟨c4_ (f7_ (by simpa using h17) (by simpa using h60)), h1⟩ | exact ⟨c4_ (e8_ (by simpa using h17) (by simpa using h60) (by simpa using h64)), h1⟩ | exact ⟨c4_ (hc_ (by simpa using h17) (by simpa using h60) (by simpa using h64)), hj_ h1 true⟩
     refine Can.trans (Can.leAt 13 ([[.i .i64 0, .i .i64 0, .s [], .sl false []]]) (by simp only [go_sem, seval, ah_, an_, hw] <;> rfl) (by simp only [go_sem, seval, ah_, an_, hw, ler, les, leV] <;> (first | trivial | simp)) (by simp only [go_sem, seval, ah_, an_, hw] <;> rfl)) ?_
     exact Can.weak (Weak.lit (by simp only [go_sem, seval, ah_, an_, hw, aq_, leV, ao_, ap_, V.inn, us, T9_, Ta_]) (by simp only [go_sem, seval, ah_, an_, hw, aq_, leV, ao_, ap_, V.inn, us, T9_, Ta_]) (by simp only [go_sem, seval, ah_, an_, hw, aq_, leV, ao_, ap_, V.inn, us, T9_, Ta_] <;> (first | (simp [HQ, hb]; done) | (simp [E.kind, E.n, E.s, E.kids, eR]; done) | (simp [E0, E.kind, E.n, E.s, E.kids, eR]; done))))
 refine .seq (.block (.loopK (fun p : E × RS => ⟨[.pt 0 3 0 0, .no, .pt 12 4 0 0, .pt 13 4 0 0, .no, .no, .no, .no, .no, .no, .no, .no, .no, .no, .no, .no, .no, .no, .no, .no, .no, .no, .no, .no, .no, .no, .no, .no, .no, .no, .no, .no, .no, .no, .no, .no, .no, .no, .no, .no, .no, .no, .no, .no, .no, .no, .no, .no, .no, .no, .no, .no, .no, .no, .no, .no, .no, .no, .no, .no, .no, .no, .no, .no, .no, .no, .no, .no, .no, .no, .no, .no, .no, .no, .no, .no, .no, .no, .no, .no], bc_ [(0, rsB p.2), (12, ⟨33, 4, [[.i .i64 0, .i .i64 0, .s [], .sl true []]]⟩), (13, ⟨33, 4, [eC p.1]⟩)], us [12, 13]⟩) (fun p : E × RS => asR q2.2 q2.1 = asR p.2 p.1 ∧ okS2 p.2) (fun p : E × RS => p.2.left.length) (q2) ?_ ?_ (fun p hI => ?_)))
 ·exact ⟨rfl, hJ.2⟩
 ·exact Can.weak (Weak.lit (by simp only [go_sem, seval, ah_, an_, hw, aq_, leV, ao_, ap_, V.inn, us, T9_, Ta_]) (by simp only [go_sem, seval, ah_, an_, hw, aq_, leV, ao_, ap_, V.inn, us, T9_, Ta_]) (by simp only [go_sem, seval, ah_, an_, hw, aq_, leV, ao_, ap_, V.inn, us, T9_, Ta_]))
 refine .seq (.seq (.rgn [bm_ [0] [] (at_a p.2 (by have := hI.2.2.2; have := hI.2.2.1; omega))] (by simp only [go_sem, seval, ah_, an_, hw]; rfl) ?_ ?_))
 ·first | trivial | simp
 refine .condB (by simp only [go_sem, seval, ah_, an_, hw]; rfl) (by simp only [go_sem, seval, ah_, an_, hw]) (fun h71 => ?_) (fun h71 => ?_)
 ·refine .skip (.block (.seq (.rgn [bm_ [0] [] (lc_ p.2 (by have := hI.2.2.2; have := hI.2.2.1; omega))] (by simp only [go_sem, seval, ah_, an_, hw]; rfl) ?_ ?_)))
  ·first | trivial | simp
  refine .rgnD [bm_ [0] [] (lc_ (bw_ p.2) (by have := hI.2.2.2; have := hI.2.2.1; have := ga_ p.2; omega))] enM (by simp only [go_sem, seval, ah_, an_, hw]; rfl) (by rfl) ?_ ?_
  ·first | trivial | simp
  refine Exists.intro ((.mk 4 0 (b6_ (bw_ p.2)) [p.1], bw_ (bw_ p.2))) ⟨?_, ?_, ?_⟩
  ·exact ⟨by rw [hI.1, (adt_ h71).1], hr_ (hr_ hI.2)⟩
  ·have q1 := in_ (adt_ (e := p.1) h71).2; have q2 := ga_ (bw_ p.2); dsimp only; omega
  refine Can.trans (Can.leAt 13 ([[.i .i64 4, .i .i64 0, .s (b6_ (bw_ p.2)), .sl false [eC p.1]]]) (by simp only [go_sem, seval, ah_, an_, hw] <;> rfl) (by simp only [go_sem, seval, ah_, an_, hw, ler, les, leV] <;> (first | trivial | simp)) (by simp only [go_sem, seval, ah_, an_, hw] <;> rfl)) ?_
  exact Can.weak (Weak.lit (by simp only [go_sem, seval, ah_, an_, hw, aq_, leV, ao_, ap_, V.inn, us, T9_, Ta_]) (by simp only [go_sem, seval, ah_, an_, hw, aq_, leV, ao_, ap_, V.inn, us, T9_, Ta_]) (by simp only [go_sem, seval, ah_, an_, hw, aq_, leV, ao_, ap_, V.inn, us, T9_, Ta_] <;> (simp [E.kind, E.n, E.s, E.kids, eR, a4_])))
 ·refine .exit (.seq (.rgn [] (by simp only [go_sem, seval, ah_, an_, hw]; rfl) ?_ ?_))
  ·first | trivial | simp
  refine .ret ⟨.inr rfl, ?_⟩
  exact Out.mem' (by simp only [Tryz.results196]; rfl) (by simp only [av_, a3_, go_sem, seval, ah_, an_, hw]) (by simp only [a2_, rns, rn, go_sem, seval, ah_, an_, hw] <;> (rw [hJ.1, hI.1, aa8_ h71])) (by simp) rfl (by decide) (by simp only [go_sem, seval, ah_, an_, hw]) (by simp only [an_, go_sem, seval, ah_, an_, hw]) (by simp only [ah_, go_sem, seval, ah_, an_, hw] <;> (rw [hJ.1, hI.1, aa8_ h71]; (try simp)))
theorem ab6_ (n : Nat) : yc_ n ∧ wo_ n := by
 induction n using Nat.strongRecOn with
 | ind n ih =>
 refine ⟨?_, ?_⟩
 ·cases n with
  | zero => intro t s ht hs hn; omega
  | succ n => exact v5_ n (fun j hj => (ih j hj).1) (fun j hj => (ih j hj).2)
 ·match n with
  | 0 => intro s hs hn; omega
  | 1 => intro s hs hn; omega
  | m + 2 => exact zh_ m (fun j hj => (ih j hj).1)
end
section
set_option maxRecDepth 100000
set_option maxHeartbeats 8000000
theorem sg_ (e : E) (h : eok e = true) (hs : sm e = true) : ACall En 167 [.ag (eC e)] [] [.sl false (bi_ (wds e 1))] [] := by
 have hf := b5_ h
 have hm : many e ((5 : Nat) : Int) ≤ 12 := h7_ h
 have hw := ec_ 5 e 0 hf
 have W : ACall En 159 [.ag (eC e), .i .i64 0, .pt 0 1 0 0] [⟨3, 1, [[.i .i64 0]]⟩] [.sl false (wdR (src e 0 0))] [⟨3, 1, [[.i .i64 (0 + cnt e)]]⟩] :=
  ACall.frzL (Lr := [⟨3, 1, [[.i .i64 (0 + cnt e)]]⟩]) (r4_ 5 e 0 0 hf hs (by omega) (by decide) (by omega) (by decide)) (by simp) (by simp [e5_, frz, a0_, T1_])
 have hl : (src e 0 0).length ≤ 1000000 := by rw [show (src e 0 0).length = (wds e 0).length by rw [← f3_ e 0 0, List.length_map]]; omega
 refine al_ (fn := Tryz.f167) [] Tryz.func167 rfl rfl (by simp) fun C => ?_
 rw [aw_]
 simp only [Tryz.ntmps167, T7_, List.length_nil, Nat.reduceAdd, Nat.reduceSub, List.replicate_succ, List.replicate_zero, List.cons_append, List.nil_append, bo_]
 refine .seq (.rgn [] (by simp only [go_sem, seval, ah_, an_, at_]; rfl) ?_ ?_)
 ·first | trivial | simp
 refine .seq (.seq (.rgn [a1_ (li_ e hs)] (by simp only [go_sem, seval, ah_, an_, at_]; rfl) ?_ ?_))
 ·first | trivial | simp
 refine .condB (by simp only [go_sem, seval, ah_, an_, at_]; rfl) (by simp only [go_sem, seval, ah_, an_, at_]) (fun h6 => ?_) (fun h6 => ?_)
 ·simp [h] at h6
 ·refine .skip (.seq (.rgn [] (by simp only [go_sem, seval, ah_, an_, at_]; rfl) ?_ ?_))
  ·first | trivial | simp
  refine .seq (.rgn [bm_ [13] [] W, a1_ (lt_ (src e 0 0) hl)] (by simp only [go_sem, seval, ah_, an_, at_]; rfl) ?_ ?_)
  ·first | trivial | simp
  refine .ret ⟨.inr rfl, ?_⟩
  exact Out.plain (by simp only [Tryz.results167]; rfl) (by simp only [av_, a3_, go_sem, seval, ah_, an_, at_] <;> (split <;> rfl)) (by simp only [a2_, go_sem, seval, ah_, an_, at_] <;> (rw [f3_, gv_ hf])) (by simp only [go_sem, seval, ah_, an_, at_])
theorem yp_ {a b : List Str} {k : Nat} (ha : k < a.length) (hb : k < b.length) (h : a.take k = b.take k) (e : a.getD k [] = b.getD k []) : a.take (k + 1) = b.take (k + 1) := by
 rw [List.take_add_one (l := a), List.take_add_one (l := b), h, T6_ ha, T6_ hb]
 rw [T8_, T8_, T6_ ha, T6_ hb] at e
 rw [show a[k] = b[k] by simpa using e]
theorem agf_ (a b : List Str) (ha : a.length ≤ 1000000000000) (hb : b.length ≤ 1000000000000) : ACall En 166 [.sl false (bi_ a), .sl false (bi_ b)] [] [.b (a == b)] [] := by
 refine al_ (fn := Tryz.f166) [] Tryz.func166 rfl rfl (by simp) fun C => ?_
 rw [aw_]
 simp only [Tryz.ntmps166, T7_, List.length_nil, Nat.reduceAdd, Nat.reduceSub, List.replicate_succ, List.replicate_zero, List.cons_append, List.nil_append, bo_]
 refine .seq (.rgn [] (by simp only [go_sem, seval, ab_, aa_]; rfl) ?_ ?_)
 ·first | trivial | simp
 refine .seq (.seq (.rgn [] (by simp only [go_sem, seval, ab_, aa_]; rfl) ?_ ?_))
 ·first | trivial | simp
 refine .condB (by simp only [go_sem, seval, ab_, aa_]; rfl) (by simp only [go_sem, seval, ab_, aa_]) (fun h10 => ?_) (fun h10 => ?_)
 ·refine .seq (.rgn [] (by simp only [go_sem, seval, ab_, aa_]; rfl) ?_ ?_)
  ·first | trivial | simp
  refine .ret ⟨.inr rfl, ?_⟩
  exact Out.plain (by simp only [Tryz.results166]; rfl) (by simp only [av_, a3_, go_sem, seval, ab_, aa_] <;> (split <;> rfl)) (by simp only [a2_, go_sem, seval, ab_, aa_] <;> (have : a ≠ b := (fun e => by simp [e] at h10); simp [this])) (by simp only [go_sem, seval, ab_, aa_])
 ·refine .skip (.seq (.seq (.rgn [] (by simp only [go_sem, seval, ab_, aa_]; rfl) ?_ ?_)))
  ·first | trivial | simp
  refine .block (.loopK (fun k : Nat => ⟨[.sl false (bi_ a), .sl false (bi_ b), .no, .no, .no, .no, .no, .no, .no, .no, .no, .no, .i .i64 a.length, .i .i64 k, .no, .no, .no, .no, .no, .no, .no, .no, .no, .no, .no, .no], bc_ [], us []⟩) (fun k : Nat => k ≤ a.length ∧ a.take k = b.take k) (fun k : Nat => a.length - k) (0) ?_ ?_ (fun k hI => ?_))
  ·exact ⟨Nat.zero_le _, rfl⟩
  ·exact Can.weak (Weak.lit (by simp only [go_sem, seval, ab_, aa_, aq_, leV, ao_, ap_, V.inn, us, T9_, Ta_] <;> (simp)) (by simp only [go_sem, seval, ab_, aa_, aq_, leV, ao_, ap_, V.inn, us, T9_, Ta_]) (by simp only [go_sem, seval, ab_, aa_, aq_, leV, ao_, ap_, V.inn, us, T9_, Ta_]))
  refine .seq (.rgn [] (by simp only [go_sem, seval, ab_, aa_]; rfl) ?_ ?_)
  ·first | trivial | simp
  refine .seq (.condB (by simp only [go_sem, seval, ab_, aa_]; rfl) (by simp only [go_sem, seval, ab_, aa_]) (fun h14 => ?_) (fun h14 => ?_))
  ·refine .skip (.seq (.block (.seq (.rgn [] (by simp only [go_sem, seval, ab_, aa_]; rfl) ?_ ?_))))
   ·first | trivial | simp
   refine .seq (.rgnD [] enM (by simp only [go_sem, seval, ab_, aa_, cj_ (show k < a.length by simpa using h14), cj_ (show k < b.length by simp at h14 h10; omega)]; rfl) (by rfl) ?_ ?_)
   ·simp at h14 h10; simp; omega
   refine .condB (by simp only [go_sem, seval, ab_, aa_]; rfl) (by simp only [go_sem, seval, ab_, aa_]) (fun h24 => ?_) (fun h24 => ?_)
   ·refine .seq (.rgn [] (by simp only [go_sem, seval, ab_, aa_]; rfl) ?_ ?_)
    ·first | trivial | simp
    refine .ret ⟨.inr rfl, ?_⟩
    exact Out.plain (by simp only [Tryz.results166]; rfl) (by simp only [av_, a3_, go_sem, seval, ab_, aa_] <;> (split <;> rfl)) (by simp only [a2_, go_sem, seval, ab_, aa_] <;> (have : a ≠ b := (fun e => by simp [e] at h24); simp [this])) (by simp only [go_sem, seval, ab_, aa_])
   ·refine .skip (.rgn [] (by simp only [go_sem, seval, ab_, aa_]; rfl) ?_ ?_)
    ·first | trivial | simp
    refine Exists.intro (k + 1) ⟨?_, ?_, ?_⟩
    ·simp only [T3_] at h14; simp at h10; exact ⟨by omega, yp_ (by omega) (by omega) hI.2 (by simpa using h24)⟩
    ·simp at h14; omega
    exact Can.weak (Weak.lit (by simp only [go_sem, seval, ab_, aa_, aq_, leV, ao_, ap_, V.inn, us, T9_, Ta_] <;> (rw [bd_ (by simp at h14; omega) (by simp at h14; omega)]; simp)) (by simp only [go_sem, seval, ab_, aa_, aq_, leV, ao_, ap_, V.inn, us, T9_, Ta_]) (by simp only [go_sem, seval, ab_, aa_, aq_, leV, ao_, ap_, V.inn, us, T9_, Ta_]))
  ·refine .exit (.seq (.rgn [] (by simp only [go_sem, seval, ab_, aa_]; rfl) ?_ ?_))
   ·first | trivial | simp
   refine .ret ⟨.inr rfl, ?_⟩
   exact Out.plain (by simp only [Tryz.results166]; rfl) (by simp only [av_, a3_, go_sem, seval, ab_, aa_] <;> (split <;> rfl)) (by simp only [a2_, go_sem, seval, ab_, aa_] <;> (simp only [T4_] at h14; simp at h10; have q := hI.2; rw [T1_ (by omega), T1_ (by omega)] at q; simp [q])) (by simp only [go_sem, seval, ab_, aa_])
def jv_ (w : List Str) : Bool := (ep_ w).isSome
theorem gr_ (w : List Str) (hw : smW w) (hl : w.length ≤ 1000000) : ACall En 119 [.sl false (bi_ w)] [] [.ag (eC (ex w)), .b (jv_ w)] [] := by
 have hR : w.length ≤ 40 → ACall En 165 [.pt 0 3 0 0, .i .i64 ((1 : Nat) : Int)] [rsB ⟨w, false, 0⟩] [.ag (eC (cf_ 500 1 ⟨w, false, 0⟩).1)] [rsB (cf_ 500 1 ⟨w, false, 0⟩).2] := fun h => (ab6_ 500).1 1 ⟨w, false, 0⟩ (by decide) ⟨hw, Int.le_refl _, by dsimp only; omega⟩ (by dsimp only; omega)
 have hS := ((i_sm 500).1 1 ⟨w, false, 0⟩ hw).1
 have hE : ep_ w = if w.length ≤ 40 then (if ((cf_ 500 1 ⟨w, false, 0⟩).2.bad || !(cf_ 500 1 ⟨w, false, 0⟩).2.left.isEmpty || !eok (cf_ 500 1 ⟨w, false, 0⟩).1 || !(wds (cf_ 500 1 ⟨w, false, 0⟩).1 1 == w)) then none else some (cf_ 500 1 ⟨w, false, 0⟩).1) else none := rfl
 have hL := (xe_ 500).1 1 ⟨w, false, 0⟩
 generalize cf_ 500 1 ⟨w, false, 0⟩ = q at *
 have hq : (!q.2.left.isEmpty) = decide ((q.2.left.length : Int) > 0) := by cases q.2.left <;> simp
 rw [hq] at hE
 have n1 : decide ((w.length : Int) > 40) = true → ep_ w = none := fun h => by rw [hE, if_neg (by simp at h; omega)]
 have n2 : decide ((w.length : Int) > 40) = false → (q.2.bad || decide ((q.2.left.length : Int) > 0) || !eok q.1 || !(wds q.1 1 == w)) = true → ep_ w = none := fun h h2 => by rw [hE, if_pos (by simp at h; omega), if_pos h2]
 have n3 : decide ((w.length : Int) > 40) = false → (q.2.bad || decide ((q.2.left.length : Int) > 0) || !eok q.1 || !(wds q.1 1 == w)) = false → ep_ w = some q.1 := fun h h2 => by rw [hE, if_pos (by simp at h; omega), h2]; rfl
 refine al_ (fn := Tryz.f119) [] Tryz.func119 rfl rfl (by simp) fun C => ?_
 rw [aw_]
 simp only [Tryz.ntmps119, T7_, List.length_nil, Nat.reduceAdd, Nat.reduceSub, List.replicate_succ, List.replicate_zero, List.cons_append, List.nil_append, bo_]
 refine .seq (.rgn [] (by simp only [go_sem, seval, ah_, an_, ab_, aa_]; rfl) ?_ ?_)
 ·first | trivial | simp
 refine .seq (.seq (.rgn [] (by simp only [go_sem, seval, ah_, an_, ab_, aa_]; rfl) ?_ ?_))
 ·first | trivial | simp
 refine .condB (by simp only [go_sem, seval, ah_, an_, ab_, aa_]; rfl) (by simp only [go_sem, seval, ah_, an_, ab_, aa_]) (fun h8 => ?_) (fun h8 => ?_)
 ·refine .seq (.rgn [] (by simp only [go_sem, seval, ah_, an_, ab_, aa_]; rfl) ?_ ?_)
  ·first | trivial | simp
  refine .ret ⟨.inr rfl, ?_⟩
  exact Out.plainL (by simp only [Tryz.results119]; rfl) (by simp only [av_, a3_, go_sem, seval, ah_, an_, ab_, aa_] <;> (split <;> rfl)) (by simp only [a2_, go_sem, seval, ah_, an_, ab_, aa_] <;> (simp [ex, jv_, n1 h8, E0, E.kind, E.n, E.s, E.kids, eR, ler])) (by simp only [go_sem, seval, ah_, an_, ab_, aa_])
 ·refine .skip (.seq (.rgn [] (by simp only [go_sem, seval, ah_, an_, ab_, aa_]; rfl) ?_ ?_))
  ·first | trivial | simp
  refine .seq (.rgn [bm_ [22] [] (hR (by simp at h8; omega))] (by simp only [go_sem, seval, ah_, an_, ab_, aa_]; rfl) ?_ ?_)
  ·first | trivial | simp
  refine .seq (.seq (.rgn [a1_ (li_ q.1 hS), ck_ (eok q.1 = true) (fun h => sg_ q.1 h hS), ck_ (eok q.1 = true) (fun h => agf_ (wds q.1 1) w (by have := (c9_ h 1).2.1; omega) (by omega))] (by simp only [go_sem, seval, ah_, an_, ab_, aa_]; rfl) ?_ ?_))
  ·(have key : ∀ x : Bool, x = false → (!x) = true := (fun x h => by rw [h]; rfl)); exact ⟨⟨⟨⟨key _, key _⟩, fun h => ⟨h, by simp at h; exact h.2⟩⟩, fun h => ⟨h, by simp at h; exact h.2⟩⟩, key _⟩
  refine .condB (by simp only [go_sem, seval, ah_, an_, ab_, aa_]; rfl) (by simp only [go_sem, seval, ah_, an_, ab_, aa_]) (fun h38 => ?_) (fun h38 => ?_)
  ·refine .seq (.rgn [] (by simp only [go_sem, seval, ah_, an_, ab_, aa_]; rfl) ?_ ?_)
   ·first | trivial | simp
   refine .ret ⟨.inr rfl, ?_⟩
   exact Out.plainL (by simp only [Tryz.results119]; rfl) (by simp only [av_, a3_, go_sem, seval, ah_, an_, ab_, aa_] <;> (split <;> rfl)) (by simp only [a2_, go_sem, seval, ah_, an_, ab_, aa_] <;> (simp [ex, jv_, n2 h8 h38, E0, E.kind, E.n, E.s, E.kids, eR, ler])) (by simp only [go_sem, seval, ah_, an_, ab_, aa_])
  ·refine .skip (.seq (.rgn [] (by simp only [go_sem, seval, ah_, an_, ab_, aa_]; rfl) ?_ ?_))
   ·first | trivial | simp
   refine .ret ⟨.inr rfl, ?_⟩
   exact Out.plainL (by simp only [Tryz.results119]; rfl) (by simp only [av_, a3_, go_sem, seval, ah_, an_, ab_, aa_] <;> (split <;> rfl)) (by simp only [a2_, go_sem, seval, ah_, an_, ab_, aa_] <;> (simp [ex, jv_, n3 h8 h38, ba_])) (by simp only [go_sem, seval, ah_, an_, ab_, aa_])
end
end Go.Proofs.YtpikbndepapbhabGreatDoor
