/- Plain laws of the program's reader: brackets are counted, texts are not made longer. Conditions: none. -/
import Derived.Test.YtefmbmafdgedmaaGreatDoorKd
import Derived.Test.YtefmbmafdgedmaaGreatDoorKb
import Derived.Test.YtefmbmafdgedmaaGreatDoorKn
import Derived.Test.YtefmbmafdgedmaaGreatDoorKh
import Derived.Test.YtefmbmafdgedmaaGreatDoorKi
import Derived.Test.YtefmbmafdgedmaaGreatDoorKj
set_option linter.unusedVariables false
set_option linter.unusedSimpArgs false
namespace Go.Proofs.YtefmbmafdgedmaaGreatDoor
section
def Dn (s' s : RS) (k : Int) : Prop := s.deep ≤ s'.deep ∧ s'.deep + s'.left.length ≤ s.deep + s.left.length + k ∧ s'.left.length ≤ s.left.length
theorem Dn.refl (s : RS) : Dn s s 0 := ⟨Int.le_refl _, by omega, Nat.le_refl _⟩
theorem Dn.trans {a b c : RS} {k m : Int} (h : Dn a b k) (g : Dn b c m) : Dn a c (k + m) := ⟨by have := h.1; have := g.1; omega, by have := h.2.1; have := g.2.1; omega, by have := h.2.2; have := g.2.2; omega⟩
theorem Dn.le {a b : RS} {k m : Int} (h : Dn a b k) (hm : k ≤ m) : Dn a b m := ⟨h.1, by have := h.2.1; omega, h.2.2⟩
theorem Dn.next (s : RS) : Dn (bq_ s) s (if s.left = [] then 0 else -1) := by
 unfold bq_ Dn
 cases h : s.left with
 | nil => simp [h]
 | cons x r => simp [h]; omega
theorem Dn.nx (s : RS) : Dn (bq_ s) s 0 := (Dn.next s).le (by split <;> omega)
theorem Dn.as (s : RS) (e : E) : Dn (asR s e).2 s 0 := by
 have h1 := vk_ s e
 have h2 := zk_ s e
 exact ⟨by omega, by omega, h1⟩
theorem Dn.bad (s : RS) (b : Bool) : Dn { s with bad := b } s 0 := ⟨Int.le_refl _, by dsimp only; omega, Nat.le_refl _⟩
theorem zb_ : ∀ n : Nat, (∀ t s, Dn (ce_ n t s).2 s 0) ∧ (∀ t e s, Dn (dd_ n t e s).2 s 0) ∧ (∀ s, Dn (dx_ n s).2 s 0) ∧ (∀ w s, Dn (dw_ n w s).2 s (if w = [40] then 1 else 0))
 | 0 => ⟨fun t s => by simp only [ce_]; exact Dn.refl s, fun t e s => by simp only [dd_]; exact Dn.refl s, fun s => by simp only [dx_]; exact Dn.refl s, fun w s => by simp only [dw_]; exact (Dn.refl s).le (by split <;> omega)⟩
 | n + 1 => by
  obtain ⟨h1, h2, h3, h4⟩ := zb_ n
  refine ⟨fun t s => ?_, fun t e s => ?_, fun s => ?_, fun w s => ?_⟩
  ·simp only [ce_]
   split
   ·exact h3 s
   ·exact ((h2 t _ _).trans (h1 (t + 1) s)).le (by omega)
  ·simp only [dd_]
   split
   ·exact (((h2 t _ _).trans (h1 (t + 1) _)).trans (Dn.nx s)).le (by omega)
   ·exact Dn.refl s
  ·simp only [dx_]
   refine (((Dn.as _ _).trans (h4 (b3_ s) (bq_ s))).trans (Dn.next s)).le ?_
   unfold b3_
   cases hl : s.left with
   | nil => simp
   | cons x r => simp only [reduceCtorEq, if_false]; split <;> omega
  ·simp only [dw_]
   split
   ·split
    ·exact ⟨by dsimp only; omega, by dsimp only; omega, Nat.le_refl _⟩
    ·have hD : Dn { s with deep := s.deep + 1 } s 1 := ⟨by dsimp only; omega, by dsimp only; omega, Nat.le_refl _⟩
     dsimp only
     split
     ·exact ((h1 1 _).trans hD).le (by omega)
     ·have q := ((Dn.nx (ce_ n 1 { s with deep := s.deep + 1 }).2).trans ((h1 1 _).trans hD)).le (m := 1) (by omega)
      exact ⟨q.1, q.2.1, q.2.2⟩
   ·split
    ·exact Dn.refl s
    ·split
     ·exact Dn.refl s
     ·exact Dn.bad s true
def smW (l : List Str) : Prop := ∀ w ∈ l, w.length ≤ 281474976710656
theorem f5_ {s : RS} (h : smW s.left) : smW (bq_ s).left ∧ (b3_ s).length ≤ 281474976710656 := by
 unfold bq_ b3_
 cases hl : s.left with
 | nil => simp [smW, hl]
 | cons x r => rw [hl] at h; exact ⟨fun w hw => h w (List.mem_cons_of_mem _ hw), h x List.mem_cons_self⟩
theorem t7_ {a b : E} {k n : Int} {s : Str} (hs : s.length < 4611686018427387904) (ha : sm a = true) (hb : sm b = true) : sm (.mk k n s [a, b]) = true := by simp [sm, sms, ha, hb, hs]
theorem un_ {a : E} {k n : Int} {s : Str} (hs : s.length < 4611686018427387904) (ha : sm a = true) : sm (.mk k n s [a]) = true := by simp [sm, sms, ha, hs]
theorem mm_ {k n : Int} {s : Str} (hs : s.length < 4611686018427387904) : sm (.mk k n s []) = true := by simp [sm, sms, hs]
theorem zq_ : ∀ (l : List Str) (e : E) (d : Int), smW l → sm e = true → sm (asL l e d).1 = true ∧ smW (asL l e d).2.left
 | [], e, d, h, he => by simp only [asL]; exact ⟨he, h⟩
 | [w], e, d, h, he => by
  simp only [asL]; split
  ·exact ⟨un_ (by simp) he, fun w hw => by cases hw⟩
  ·exact ⟨he, h⟩
 | w :: t :: r, e, d, h, he => by
  simp only [asL]; split
  ·exact zq_ r _ d (fun x hx => h x (by simp [hx])) (un_ (Nat.lt_of_le_of_lt (h t (by simp)) (by decide)) he)
  ·exact ⟨he, h⟩
theorem afb_ (s : RS) (e : E) (h : smW s.left) (he : sm e = true) : sm (asR s e).1 = true ∧ smW (asR s e).2.left := by
 unfold asR; split
 ·exact ⟨he, h⟩
 ·exact zq_ _ _ _ h he
theorem x3_ : ∀ n : Nat, (∀ t s, smW s.left → sm (ce_ n t s).1 = true ∧ smW (ce_ n t s).2.left) ∧ (∀ t e s, sm e = true → smW s.left → sm (dd_ n t e s).1 = true ∧ smW (dd_ n t e s).2.left) ∧ (∀ s, smW s.left → sm (dx_ n s).1 = true ∧ smW (dx_ n s).2.left) ∧ (∀ w s, w.length < 4611686018427387904 → smW s.left → sm (dw_ n w s).1 = true ∧ smW (dw_ n w s).2.left)
 | 0 => ⟨fun t s h => by simp only [ce_]; exact ⟨by decide, h⟩, fun t e s he h => by simp only [dd_]; exact ⟨he, h⟩, fun s h => by simp only [dx_]; exact ⟨by decide, h⟩, fun w s hw h => by simp only [dw_]; exact ⟨by decide, h⟩⟩
 | n + 1 => by
  obtain ⟨h1, h2, h3, h4⟩ := x3_ n
  refine ⟨fun t s h => ?_, fun t e s he h => ?_, fun s h => ?_, fun w s hw h => ?_⟩
  ·simp only [ce_]
   split
   ·exact h3 s h
   ·exact h2 t _ _ (h1 (t + 1) s h).1 (h1 (t + 1) s h).2
  ·simp only [dd_]
   split
   ·have q := h1 (t + 1) (bq_ s) (f5_ h).1
    exact h2 t _ _ (t7_ (Nat.lt_of_le_of_lt (f5_ h).2 (by decide)) he q.1) q.2
   ·exact ⟨he, h⟩
  ·simp only [dx_]
   have q := h4 (b3_ s) (bq_ s) (Nat.lt_of_le_of_lt (f5_ h).2 (by decide)) (f5_ h).1
   exact afb_ _ _ q.2 q.1
  ·simp only [dw_]
   split
   ·split
    ·exact ⟨(show sm E0 = true by decide), h⟩
    ·have q := h1 1 { s with deep := s.deep + 1 } h
     dsimp only
     refine ⟨q.1, ?_⟩
     split
     ·exact q.2
     ·exact (f5_ q.2).1
   ·split
    ·exact ⟨mm_ (by simp), h⟩
    ·split
     ·exact ⟨mm_ hw, h⟩
     ·exact ⟨(show sm E0 = true by decide), h⟩
end
section
set_option maxRecDepth 100000
set_option maxHeartbeats 4000000
abbrev rsB (s : RS) : Blk := ⟨184, 3, [[.sl false (by_ s.left), .b s.bad, .i .i64 s.deep]]⟩
theorem gf_ (s : RS) (hl : s.left.length < 4611686018427387904) : ACall En 207 [.pt 0 3 0 0] [rsB s] [.s (b3_ s)] [rsB (bq_ s)] := by
 obtain ⟨left, bad, deep⟩ := s
 cases left with
 | nil =>
 refine aq_ (fn := Tryz.f207) [0] Tryz.func207 rfl rfl (by simp) fun C => ?_
 rw [bb_]
 simp only [Tryz.ntmps207, T7_, List.length_nil, Nat.reduceAdd, Nat.reduceSub, List.replicate_succ, List.replicate_zero, List.cons_append, List.nil_append, bl_]
 refine .seq (.rgn [] (by simp only [go_sem, seval, b4_, bx_]; rfl) ?_ ?_)
 ·first | trivial | simp
 refine .seq (.seq (.rgn [] (by simp only [go_sem, seval, b4_, bx_]; rfl) ?_ ?_))
 ·first | trivial | simp
 refine .condB (by simp only [go_sem, seval, b4_, bx_]; rfl) (by simp only [go_sem, seval, b4_, bx_]) (fun h9 => ?_) (fun h9 => ?_)
 ·refine .seq (.rgn [] (by simp only [go_sem, seval, b4_, bx_]; rfl) ?_ ?_)
  ·first | trivial | simp
  refine .seq (.rgn [] (by simp only [go_sem, seval, b4_, bx_]; rfl) ?_ ?_)
  ·first | trivial | simp
  refine .ret ⟨.inr rfl, ?_⟩
  exact Out.mem' (by simp only [Tryz.results207]; rfl) (by simp only [a4_, bh_, go_sem, seval, b4_, bx_]) (by simp only [bg_, rns, rn, go_sem, seval, b4_, bx_] <;> (rfl)) (by simp) rfl (by decide) (by simp only [go_sem, seval, b4_, bx_]) (by simp only [ax_, go_sem, seval, b4_, bx_]) (by simp only [ao_, go_sem, seval, b4_, bx_] <;> (simp [bq_, b4_]))
 ·exact absurd h9 (by simp)
 | cons x r =>
 refine aq_ (fn := Tryz.f207) [0] Tryz.func207 rfl rfl (by simp) fun C => ?_
 rw [bb_]
 simp only [Tryz.ntmps207, T7_, List.length_nil, Nat.reduceAdd, Nat.reduceSub, List.replicate_succ, List.replicate_zero, List.cons_append, List.nil_append, bl_]
 refine .seq (.rgn [] (by simp only [go_sem, seval, b4_, bx_]; rfl) ?_ ?_)
 ·first | trivial | simp
 refine .seq (.seq (.rgn [] (by simp only [go_sem, seval, b4_, bx_]; rfl) ?_ ?_))
 ·first | trivial | simp
 refine .condB (by simp only [go_sem, seval, b4_, bx_]; rfl) (by simp only [go_sem, seval, b4_, bx_]) (fun h9 => ?_) (fun h9 => ?_)
 ·simp at h9; omega
 ·refine .skip (.seq (.rgn [] (by simp only [go_sem, seval, b4_, bx_]; rfl) ?_ ?_))
  ·first | trivial | simp
  refine .seq (.rgn [] (by simp only [go_sem, seval, b4_, bx_]; rfl) ?_ ?_)
  ·refine ⟨⟨by omega, by omega⟩, .inr fun q hq => ?_⟩; rcases List.mem_cons.1 hq with rfl | hq; rfl; exact ns_ hq
  refine .seq (.rgn [] (by simp only [go_sem, seval, b4_, bx_]; rfl) ?_ ?_)
  ·first | trivial | simp
  refine .ret ⟨.inr rfl, ?_⟩
  exact Out.mem' (by simp only [Tryz.results207]; rfl) (by simp only [a4_, bh_, go_sem, seval, b4_, bx_]) (by simp only [bg_, rns, rn, go_sem, seval, b4_, bx_] <;> (rfl)) (by simp) rfl (by decide) (by simp only [go_sem, seval, b4_, bx_]) (by simp only [ax_, go_sem, seval, b4_, bx_]) (by simp only [ao_, go_sem, seval, b4_, bx_] <;> (simp [bq_, T1_, ab_]))
theorem at_a (s : RS) (hl : s.left.length < 4611686018427387904) : ACall En 233 [.pt 0 3 0 0, .sl false [[.s [97, 115]]]] [rsB s] [.b (!s.bad && (!s.left.isEmpty && b3_ s == wAs))] [rsB s] := by
 obtain ⟨left, bad, deep⟩ := s
 cases left with
 | nil =>
 refine aq_ (fn := Tryz.f233) [0] Tryz.func233 rfl rfl (by simp) fun C => ?_
 rw [bb_]
 simp only [Tryz.ntmps233, T7_, List.length_nil, Nat.reduceAdd, Nat.reduceSub, List.replicate_succ, List.replicate_zero, List.cons_append, List.nil_append, bl_]
 refine .seq (.rgn [] (by simp only [go_sem, seval, asO, b4_, bx_, wAs]; rfl) ?_ ?_)
 ·first | trivial | simp
 refine .seq (.rgnS [25] [asO En { v := .s [] }, bj_ (js_ [wAs] [] (by decide))] (by simp only [go_sem, seval, asO, b4_, bx_, wAs]; rfl) ?_ ?_)
 ·first | trivial | simp
 refine .ret ⟨.inr rfl, ?_⟩
 exact Out.mem' (by simp only [Tryz.results233]; rfl) (by simp only [a4_, bh_, go_sem, seval, asO, b4_, bx_, wAs]) (by simp only [bg_, rns, rn, go_sem, seval, asO, b4_, bx_, wAs] <;> (simp)) (by simp) rfl (by decide) (by simp only [go_sem, seval, asO, b4_, bx_, wAs]) (by simp only [ax_, go_sem, seval, asO, b4_, bx_, wAs]) (by simp only [ao_, go_sem, seval, asO, b4_, bx_, wAs] <;> (simp [b4_]))
 | cons x r =>
 refine aq_ (fn := Tryz.f233) [0] Tryz.func233 rfl rfl (by simp) fun C => ?_
 rw [bb_]
 simp only [Tryz.ntmps233, T7_, List.length_nil, Nat.reduceAdd, Nat.reduceSub, List.replicate_succ, List.replicate_zero, List.cons_append, List.nil_append, bl_]
 refine .seq (.rgn [] (by simp only [go_sem, seval, b4_, bx_, wAs]; rfl) ?_ ?_)
 ·first | trivial | simp
 refine .seq (.rgn [bj_ (js_ [wAs] x (by decide))] (by simp only [go_sem, seval, b4_, bx_, wAs]; rfl) ?_ ?_)
 ·first | trivial | simp
 refine .ret ⟨.inr rfl, ?_⟩
 exact Out.mem' (by simp only [Tryz.results233]; rfl) (by simp only [a4_, bh_, go_sem, seval, b4_, bx_, wAs]) (by simp only [bg_, rns, rn, go_sem, seval, b4_, bx_, wAs] <;> (simp [b3_, wAs])) (by simp) rfl (by decide) (by simp only [go_sem, seval, b4_, bx_, wAs]) (by simp only [ax_, go_sem, seval, b4_, bx_, wAs]) (by simp only [ao_, go_sem, seval, b4_, bx_, wAs] <;> (simp [bx_]))
end
section
set_option maxRecDepth 100000
set_option maxHeartbeats 8000000
def okS2 (s : RS) : Prop := smW s.left ∧ 0 ≤ s.deep ∧ s.deep + s.left.length ≤ 1000000
theorem okS2.of {s s' : RS} (h : okS2 s) (d : Dn s' s 0) (w : smW s'.left) : okS2 s' := ⟨w, by have := d.1; have := h.2.1; omega, by have := d.2.1; have := h.2.2; omega⟩
def v4_ (n : Nat) : Prop := ∀ (t : Nat) (s : RS), t ≤ 4 → okS2 s → 10 * s.left.length + 10 - t ≤ n → ACall En 171 [.pt 0 3 0 0, .i .i64 t] [rsB s] [.ag (eC (ce_ n t s).1)] [rsB (ce_ n t s).2]
def up_ (n : Nat) : Prop := ∀ (s : RS), okS2 s → 10 * s.left.length + 5 ≤ n → ACall En 206 [.pt 0 3 0 0] [rsB s] [.ag (eC (dx_ n s).1)] [rsB (dx_ n s).2]
theorem fa_ {s : RS} (h : okS2 s) : okS2 (bq_ s) := h.of (Dn.nx s) (f5_ h.1).1
theorem qx_ {s : RS} (h : okS2 s) (n t : Nat) : okS2 (ce_ n t s).2 := h.of ((zb_ n).1 t s) ((x3_ n).1 t s h.1).2
theorem d4_ {s : RS} (h : s.left ≠ []) : (bq_ s).left.length + 1 = s.left.length := by
 unfold bq_
 cases hl : s.left with
 | nil => exact absurd hl h
 | cons x r => rfl
theorem to_ {s : RS} (h : s.left ≠ []) : (by_ s.left).getD 0 [] = [.s (b3_ s)] := by
 unfold b3_
 cases hl : s.left with
 | nil => exact absurd hl h
 | cons x r => rfl
theorem aai_ {j t : Nat} {e : E} {s : RS} (h : ((!s.bad && decide ((s.left.length : Int) > 0)) && br_ (b3_ s) == (t : Int)) = true) : dd_ (j + 1) t e s = dd_ j t (.mk 3 0 (b3_ s) [e, (ce_ j (t + 1) (bq_ s)).1]) (ce_ j (t + 1) (bq_ s)).2 ∧ s.left ≠ [] := by
 simp only [T5_, Bool.not_eq_true', T3_, beq_iff_eq] at h
 have hne : s.left ≠ [] := by intro e; rw [e] at h; simp at h
 simp only [dd_]
 rw [if_pos ⟨h.1.1, hne, h.2⟩]
 exact ⟨rfl, hne⟩
theorem aa6_ {j t : Nat} {e : E} {s : RS} (h : ((!s.bad && decide ((s.left.length : Int) > 0)) && br_ (b3_ s) == (t : Int)) = false) : dd_ (j + 1) t e s = (e, s) := by
 simp only [dd_]
 rw [if_neg]
 rintro ⟨a, b, c⟩
 rw [a, c] at h
 cases hl : s.left with
 | nil => exact b hl
 | cons x r => rw [hl] at h; simp at h
theorem pa_ {s : RS} (h : (!s.bad && decide ((s.left.length : Int) > 0)) = true) : s.left ≠ [] := by intro e; rw [e] at h; simp at h
theorem aaw_ {s : RS} (h : (!s.bad && decide ((s.left.length : Int) > 0)) = true) : (0 : Int) < s.left.length := by simp at h; omega
theorem kq_ {s : RS} (h : s.left ≠ []) : ((by_ s.left).getD 0 []).length = 1 := by rw [to_ h]; rfl
theorem zx_ {s : RS} (h : s.left ≠ []) : ((by_ s.left).getD 0 []).getD 0 .no = .s (b3_ s) := by rw [to_ h]; rfl
def LI (n t : Nat) (s : RS) (q : Nat × E × RS) : Prop := okS2 q.2.2 ∧ 10 * q.2.2.left.length + 1 ≤ q.1 ∧ q.1 ≤ n ∧ dd_ n t (ce_ n (t + 1) s).1 (ce_ n (t + 1) s).2 = dd_ q.1 t q.2.1 q.2.2
def LN (t : Nat) (q : Nat × E × RS) : Nat × E × RS := (q.1 - 1, .mk 3 0 (b3_ q.2.2) [q.2.1, (ce_ (q.1 - 1) (t + 1) (bq_ q.2.2)).1], (ce_ (q.1 - 1) (t + 1) (bq_ q.2.2)).2)
theorem mu_ {n t : Nat} {s : RS} {q : Nat × E × RS} (h8 : ((t : Int) == 4) = false) (hI : LI n t s q) (h : ((!q.2.2.bad && decide ((q.2.2.left.length : Int) > 0)) && br_ (b3_ q.2.2) == (t : Int)) = false) : ce_ (n + 1) t s = q.2 := by
 obtain ⟨j, e, s'⟩ := q
 obtain ⟨h1, h2, h3, h4⟩ := hI
 dsimp only at h1 h2 h3 h4 h ⊢
 obtain ⟨i, rfl⟩ : ∃ i, j = i + 1 := ⟨j - 1, by omega⟩
 rw [mr_ (by simp at h8; omega), h4, aa6_ h]
theorem j7_ {n t : Nat} {s : RS} {q : Nat × E × RS} (hI : LI n t s q) (h : ((!q.2.2.bad && decide ((q.2.2.left.length : Int) > 0)) && br_ (b3_ q.2.2) == (t : Int)) = true) : LI n t s (LN t q) ∧ (LN t q).2.2.left.length < q.2.2.left.length := by
 obtain ⟨j, e, s'⟩ := q
 obtain ⟨h1, h2, h3, h4⟩ := hI
 unfold LI LN
 dsimp only at h1 h2 h3 h4 h ⊢
 obtain ⟨i, rfl⟩ : ∃ i, j = i + 1 := ⟨j - 1, by omega⟩
 obtain ⟨g1, g2⟩ := aai_ (j := i) (e := e) h
 have q1 := d4_ g2
 have q2 := (o7_ i).1 (t + 1) (bq_ s')
 simp only [Nat.add_sub_cancel]
 exact ⟨⟨qx_ (fa_ h1) _ _, by omega, by omega, by rw [h4, g1]⟩, by omega⟩
theorem uj_ (n : Nat) (ihL : ∀ j, j < n + 1 → v4_ j) (ihH : ∀ j, j < n + 1 → up_ j) : v4_ (n + 1) := fun t s ht hs hn => by
 obtain ⟨s1, s2, s3⟩ := hs
 have hlen : s.left.length < 4611686018427387904 := by omega
 have L1 : t < 4 → okS2 (ce_ n (t + 1) s).2 ∧ (ce_ n (t + 1) s).2.left.length ≤ s.left.length := fun _ => ⟨qx_ ⟨s1, s2, s3⟩ n (t + 1), (o7_ n).1 (t + 1) s⟩
 have LJ : ∀ q : Nat × E × RS, okS2 q.2.2 → 10 * q.2.2.left.length + 1 ≤ q.1 → q.1 ≤ n → q.2.2.left ≠ [] → t < 4 → ACall En 171 [.pt 0 3 0 0, .i .i64 ((t + 1 : Nat) : Int)] [rsB (bq_ q.2.2)] [.ag (eC (ce_ (q.1 - 1) (t + 1) (bq_ q.2.2)).1)] [rsB (ce_ (q.1 - 1) (t + 1) (bq_ q.2.2)).2] := fun q h1 h2 h3 h4 h5 => by
  have := d4_ h4
  exact ihL (q.1 - 1) (by omega) (t + 1) (bq_ q.2.2) (by omega) (fa_ h1) (by omega)
 have hw : IntKind.i64.wrap ((t : Int) + 1) = ((t + 1 : Nat) : Int) := by rw [bt_ (by omega) (by omega)]; rfl
 refine aq_ (fn := Tryz.f171) [0] Tryz.func171 rfl rfl (by simp) fun C => ?_
 rw [bb_]
 simp only [Tryz.ntmps171, T7_, List.length_nil, Nat.reduceAdd, Nat.reduceSub, List.replicate_succ, List.replicate_zero, List.cons_append, List.nil_append, bl_]
 refine .seq (.rgn [] (by simp only [go_sem, seval, asO, ao_, ax_, hw, ab_]; rfl) ?_ ?_)
 ·first | trivial | simp
 refine .seq (.seq (.rgn [] (by simp only [go_sem, seval, asO, ao_, ax_, hw, ab_]; rfl) ?_ ?_))
 ·first | trivial | simp
 refine .condB (by simp only [go_sem, seval, asO, ao_, ax_, hw, ab_]; rfl) (by simp only [go_sem, seval, asO, ao_, ax_, hw, ab_]) (fun h8 => ?_) (fun h8 => ?_)
 ·refine .seq (.rgn [cu_ [0] [] (ihH n (by omega) s ⟨s1, s2, s3⟩ (by simp at h8; omega))] (by simp only [go_sem, seval, asO, ao_, ax_, hw, ab_]; rfl) ?_ ?_)
  ·first | trivial | simp
  refine .ret ⟨.inr rfl, ?_⟩
  exact Out.mem' (by simp only [Tryz.results171]; rfl) (by simp only [a4_, bh_, go_sem, seval, asO, ao_, ax_, hw, ab_]) (by simp only [bg_, rns, rn, go_sem, seval, asO, ao_, ax_, hw, ab_] <;> ((obtain rfl : t = 4 := (by simp at h8; omega)); simp [jb_])) (by simp) rfl (by decide) (by simp only [go_sem, seval, asO, ao_, ax_, hw, ab_]) (by simp only [ax_, go_sem, seval, asO, ao_, ax_, hw, ab_]) (by simp only [ao_, go_sem, seval, asO, ao_, ax_, hw, ab_] <;> ((obtain rfl : t = 4 := (by simp at h8; omega)); simp [jb_]))
 ·refine .skip (.seq (.rgn [cu_ [0] [] (ihL n (by omega) (t + 1) s (by simp at h8; omega) ⟨s1, s2, s3⟩ (by simp at h8; omega))] (by simp only [go_sem, seval, asO, ao_, ax_, hw, ab_]; rfl) ?_ ?_))
  ·first | trivial | simp
  refine .seq (.block (.loopK (fun q : Nat × E × RS => ⟨[.pt 0 3 0 0, .i .i64 t, .no, .no, .pt 14 4 0 0, .pt 15 4 0 0, .no, .no, .no, .no, .no, .no, .no, .no, .no, .no, .no, .no, .no, .no, .no, .no, .no, .no, .no, .no, .no, .no, .no, .no, .no, .no, .no, .no, .no, .no, .no, .no, .no, .no, .no, .no, .no, .no, .no, .no, .no, .no, .no, .no], be_ [(0, rsB q.2.2), (14, ⟨48, 4, [[.i .i64 0, .i .i64 0, .s [], .sl true []]]⟩), (15, ⟨48, 4, [eC q.2.1]⟩)], us [14, 15]⟩) (fun q : Nat × E × RS => LI n t s q) (fun q : Nat × E × RS => q.2.2.left.length) ((n, (ce_ n (t + 1) s).1, (ce_ n (t + 1) s).2)) ?_ ?_ (fun q hI => ?_)))
  ·exact ⟨(L1 (by simp at h8; omega)).1, by have := (L1 (by simp at h8; omega)).2; dsimp only; simp at h8; omega, Nat.le_refl _, rfl⟩
  ·exact Can.weak (Weak.lit (by simp only [go_sem, seval, asO, ao_, ax_, hw, ab_, a2_, leV, az_, a0_, V.inn, us, T9_, Ta_]) (by simp only [go_sem, seval, asO, ao_, ax_, hw, ab_, a2_, leV, az_, a0_, V.inn, us, T9_, Ta_]) (by simp only [go_sem, seval, asO, ao_, ax_, hw, ab_, a2_, leV, az_, a0_, V.inn, us, T9_, Ta_]))
  refine .seq (.seq (.rgnS [34] [asO En { v := .s (b3_ q.2.2) }, bj_ (g8_ (b3_ q.2.2))] (by simp only [go_sem, seval, asO, ao_, ax_, hw, ab_]; rfl) ?_ ?_))
  ·exact ⟨fun h => ⟨h, aaw_ h, kq_ (pa_ h)⟩, fun h => ⟨⟨h, by rw [kq_ (pa_ h)]; exact Nat.le_refl _⟩, by rw [zx_ (pa_ h)]⟩⟩
  refine .condB (by simp only [go_sem, seval, asO, ao_, ax_, hw, ab_]; rfl) (by simp only [go_sem, seval, asO, ao_, ax_, hw, ab_]) (fun h38 => ?_) (fun h38 => ?_)
  ·refine .skip (.block (.seq (.rgn [cu_ [0] [] (gf_ q.2.2 (by have := hI.1.2; omega))] (by simp only [go_sem, seval, asO, ao_, ax_, hw, ab_]; rfl) ?_ ?_)))
   ·first | trivial | simp
   refine .rgnD [cu_ [0] [] (LJ q hI.1 hI.2.1 hI.2.2.1 (by simp at h38; intro e; simp [e] at h38) (by simp at h8; omega))] enM (by simp only [go_sem, seval, asO, ao_, ax_, hw, ab_]; rfl) (by rfl) ?_ ?_
   ·first | trivial | simp
   refine Exists.intro (LN t q) ⟨?_, ?_, ?_⟩
   ·exact (j7_ hI h38).1
   ·exact (j7_ hI h38).2
   refine Can.trans (Can.leAt 15 ([[.i .i64 3, .i .i64 0, .s (b3_ q.2.2), .sl false [eC q.2.1, eC (ce_ (q.1 - 1) (t + 1) (bq_ q.2.2)).1]]]) (by simp only [go_sem, seval, asO, ao_, ax_, hw, ab_] <;> rfl) (by simp only [go_sem, seval, asO, ao_, ax_, hw, ab_, ler, les, leV] <;> (first | trivial | simp)) (by simp only [go_sem, seval, asO, ao_, ax_, hw, ab_] <;> rfl)) ?_
   exact Can.weak (Weak.lit (by simp only [go_sem, seval, asO, ao_, ax_, hw, ab_, a2_, leV, az_, a0_, V.inn, us, T9_, Ta_]) (by simp only [go_sem, seval, asO, ao_, ax_, hw, ab_, a2_, leV, az_, a0_, V.inn, us, T9_, Ta_]) (by simp only [go_sem, seval, asO, ao_, ax_, hw, ab_, a2_, leV, az_, a0_, V.inn, us, T9_, Ta_] <;> (simp [LN, E.kind, E.n, E.s, E.kids, eR, a6_])))
  ·refine .exit (.seq (.rgn [] (by simp only [go_sem, seval, asO, ao_, ax_, hw, ab_]; rfl) ?_ ?_))
   ·first | trivial | simp
   refine .ret ⟨.inr rfl, ?_⟩
   exact Out.mem' (by simp only [Tryz.results171]; rfl) (by simp only [a4_, bh_, go_sem, seval, asO, ao_, ax_, hw, ab_]) (by simp only [bg_, rns, rn, go_sem, seval, asO, ao_, ax_, hw, ab_] <;> (rw [mu_ h8 hI h38])) (by simp) rfl (by decide) (by simp only [go_sem, seval, asO, ao_, ax_, hw, ab_]) (by simp only [ax_, go_sem, seval, asO, ao_, ax_, hw, ab_]) (by simp only [ao_, go_sem, seval, asO, ao_, ax_, hw, ab_] <;> (rw [mu_ h8 hI h38]; (try simp)))
end
section
set_option maxRecDepth 100000
set_option maxHeartbeats 8000000
theorem jz_ {s : RS} {e : E} (h : (!s.bad && (!s.left.isEmpty && b3_ s == wAs)) = true) : asR s e = asR (bq_ (bq_ s)) (.mk 4 0 (b3_ (bq_ s)) [e]) ∧ s.left ≠ [] := by
 obtain ⟨left, bad, deep⟩ := s
 cases left with
 | nil => simp at h
 | cons x r =>
  simp only [T5_, Bool.not_eq_true', beq_iff_eq, b3_] at h
  obtain ⟨rfl, _, rfl⟩ := h
  refine ⟨?_, by simp⟩
  cases r with
  | nil => simp [asR, asL, bq_, b3_]
  | cons t r => simp [asR, asL, bq_, b3_]
theorem ud_ {s : RS} {e : E} (h : (!s.bad && (!s.left.isEmpty && b3_ s == wAs)) = false) : asR s e = (e, s) := by
 obtain ⟨left, bad, deep⟩ := s
 cases bad with
 | true => simp [asR]
 | false =>
  match left with
  | [] => simp [asR, asL]
  | [x] => simp [b3_] at h; simp [asR, asL, h]
  | x :: t :: r => simp [b3_] at h; simp [asR, asL, h]
def HS (s : RS) : RS := ⟨(bq_ s).left, (bq_ s).bad || decide ((bq_ s).deep + 1 > 40), (bq_ s).deep + 1⟩
def HP (m : Nat) (s : RS) : E × RS := if (HS s).bad then (E0, HS s) else ce_ m 1 (HS s)
def HQ (q : E × RS) : E × RS := (q.1, if q.2.bad then q.2 else { bq_ q.2 with bad := !(b3_ q.2 == [41]) })
theorem rw_ {m : Nat} {s : RS} (h : (!((bq_ s).bad || decide ((bq_ s).deep + 1 > 40))) = true) : HP m s = ce_ m 1 (HS s) := by
 unfold HP
 have : (HS s).bad = false := by simpa [HS] using h
 rw [this]; rfl
theorem se_ {m : Nat} {s : RS} (h : (!((bq_ s).bad || decide ((bq_ s).deep + 1 > 40))) = false) : HP m s = (E0, HS s) := by
 unfold HP
 have : (HS s).bad = true := by simp only [Bool.not_eq_false'] at h; exact h
 rw [this]; rfl
theorem e7_ {m : Nat} {s : RS} : dw_ (m + 1) [40] (bq_ s) = HQ (HP m s) := by
 simp only [dw_, if_true]
 by_cases h : (bq_ s).bad = true ∨ 40 < (bq_ s).deep + 1
 ·rw [if_pos h]
  have hx : ((bq_ s).bad || decide ((bq_ s).deep + 1 > 40)) = true := by simpa using h
  rw [se_ (by rw [hx]; rfl)]
  simp only [HQ, HS, hx, if_true]
 ·rw [if_neg h]
  have hx : ((bq_ s).bad || decide ((bq_ s).deep + 1 > 40)) = false := by simp at h ⊢; exact ⟨h.1, by omega⟩
  have hb : (bq_ s).bad = false := by simp at h; exact h.1
  have e : HS s = { bq_ s with deep := (bq_ s).deep + 1 } := by unfold HS; rw [hx, ← hb]
  rw [rw_ (by rw [hx]; rfl), e]; rfl
theorem ej_ {n : Nat} {w : Str} {s : RS} (h : w ≠ [40]) (h1 : cw_ w = false) (h2 : f3_ w = false) : dw_ (n + 1) w s = (E0, { s with bad := true }) := by simp [dw_, h, h1, h2]
theorem gw_ {s : RS} (h : okS2 s) (b : Bool) : okS2 { s with bad := b } := h
theorem ke_ {s : RS} (h : okS2 s) (hn : s.left ≠ []) : okS2 (HS s) := by
 have := d4_ hn
 have h1 := fa_ h
 exact ⟨h1.1, by have := h1.2.1; simp only [HS]; omega, by have := jm_ s; have := h.2.2; simp only [HS]; omega⟩
theorem m3_ {s : RS} (h : okS2 s) (hn : s.left ≠ []) (m : Nat) : okS2 (HP m s).2 := by
 unfold HP; split
 ·exact ke_ h hn
 ·exact qx_ (ke_ h hn) m 1
theorem i2_ {q : E × RS} (h : okS2 q.2) : okS2 (HQ q).2 := by
 unfold HQ; dsimp only; split
 ·exact h
 ·exact gw_ (fa_ h) _
theorem h1_ {s : RS} (h : b3_ s ≠ []) : s.left ≠ [] := by unfold b3_ at h; intro e; rw [e] at h; exact h rfl
theorem cc_ {n : Nat} {s : RS} {q : E × RS} (h : dw_ n (b3_ s) (bq_ s) = q) : dx_ (n + 1) s = asR q.2 q.1 := by simp only [dx_, h]
theorem vl_ (s : Str) : d6_ (hx_ s) = true := by unfold hx_; split <;> rfl
theorem xl_ (m : Nat) (ihL : ∀ j, j < m + 2 → v4_ j) : up_ (m + 2) := fun s hs hn => by
 have h1 := fa_ hs
 have hd := jm_ s
 have hl1 := cv_ s
 have hb := hs.2.2
 have hb0 := hs.2.1
 have hH := (f5_ hs.1).2
 have hw : IntKind.i64.wrap ((bq_ s).deep + 1) = (bq_ s).deep + 1 := bt_ (by omega) (by omega)
 have hnv : cw_ (b3_ s) = true → hx_ (b3_ s) = .i .i64 (b9_ (b3_ s)) := fun h => by simp [hx_, h]
 have LB : s.left ≠ [] → ACall En 171 [.pt 0 3 0 0, .i .i64 ((1 : Nat) : Int)] [rsB (HS s)] [.ag (eC (ce_ m 1 (HS s)).1)] [rsB (ce_ m 1 (HS s)).2] := fun h => ihL m (by omega) 1 (HS s) (by omega) (ke_ hs h) (by have := d4_ h; show 10 * (bq_ s).left.length + 10 - 1 ≤ m; omega)
 refine aq_ (fn := Tryz.f206) [0] Tryz.func206 rfl rfl (by simp) fun C => ?_
 rw [bb_]
 simp only [Tryz.ntmps206, T7_, List.length_nil, Nat.reduceAdd, Nat.reduceSub, List.replicate_succ, List.replicate_zero, List.cons_append, List.nil_append, bl_]
 refine .seq (.rgn [] (by simp only [go_sem, seval, ao_, ax_, hw]; rfl) ?_ ?_)
 ·first | trivial | simp
 refine .seq (.rgn [] (by simp only [go_sem, seval, ao_, ax_, hw]; rfl) ?_ ?_)
 ·first | trivial | simp
 refine .seq (.rgn [cu_ [0] [] (gf_ s (by omega))] (by simp only [go_sem, seval, ao_, ax_, hw]; rfl) ?_ ?_)
 ·first | trivial | simp
 refine .seq (.rgn [bj_ (m5_ (b3_ s) hH)] (by simp only [go_sem, seval, ao_, ax_, hw]; rfl) ?_ ?_)
 ·exact ⟨cf_ _, vl_ _⟩
 refine .seqJ (fun q2 : E × RS => ⟨[.pt 0 3 0 0, .no, .pt 12 4 0 0, .pt 13 4 0 0, .no, .no, .no, .no, .no, .no, .no, .no, .no, .no, .no, .no, .no, .no, .no, .no, .no, .no, .no, .no, .no, .no, .no, .no, .no, .no, .no, .no, .no, .no, .no, .no, .no, .no, .no, .no, .no, .no, .no, .no, .no, .no, .no, .no, .no, .no, .no, .no, .no, .no, .no, .no, .no, .no, .no, .no, .no, .no, .no, .no, .no, .no, .no, .no, .no, .no, .no, .no, .no, .no, .no, .no, .no, .no, .no, .no], be_ [(0, rsB q2.2), (12, ⟨48, 4, [[.i .i64 0, .i .i64 0, .s [], .sl true []]]⟩), (13, ⟨48, 4, [eC q2.1]⟩)], us [12, 13]⟩) (fun q2 : E × RS => dx_ (m + 2) s = asR q2.2 q2.1 ∧ okS2 q2.2) ?_ (fun q2 hJ => ?_)
 ·refine .block (.seq (.rgn [] (by simp only [go_sem, seval, ao_, ax_, hw]; rfl) ?_ ?_))
  ·first | trivial | simp
  refine .condB (by simp only [go_sem, seval, ao_, ax_, hw]; rfl) (by simp only [go_sem, seval, ao_, ax_, hw]) (fun h17 => ?_) (fun h17 => ?_)
  ·refine .seq (.rgn [] (by simp only [go_sem, seval, ao_, ax_, hw]; rfl) ?_ ?_)
   ·first | trivial | simp
   refine .seq (.rgn [] (by simp only [go_sem, seval, ao_, ax_, hw]; rfl) ?_ ?_)
   ·first | trivial | simp
   refine .seqJ (fun q : E × RS => ⟨[.pt 0 3 0 0, .no, .pt 12 4 0 0, .pt 13 4 0 0, .no, .no, .no, .no, .no, .no, .no, .no, .no, .no, .no, .no, .no, .no, .no, .no, .no, .no, .no, .no, .no, .no, .no, .no, .no, .no, .no, .no, .no, .no, .no, .no, .no, .no, .no, .no, .no, .no, .no, .no, .no, .no, .no, .no, .no, .no, .no, .no, .no, .no, .no, .no, .no, .no, .no, .no, .no, .no, .no, .no, .no, .no, .no, .no, .no, .no, .no, .no, .no, .no, .no, .no, .no, .no, .no, .no], be_ [(0, rsB q.2), (12, ⟨48, 4, [[.i .i64 0, .i .i64 0, .s [], .sl true []]]⟩), (13, ⟨48, 4, [eC q.1]⟩)], us [12, 13]⟩) (fun q : E × RS => q = HP m s ∧ okS2 q.2) ?_ (fun q hJ => ?_)
   ·refine .seq (.rgn [] (by simp only [go_sem, seval, ao_, ax_, hw]; rfl) ?_ ?_)
    ·first | trivial | simp
    refine .condB (by simp only [go_sem, seval, ao_, ax_, hw]; rfl) (by simp only [go_sem, seval, ao_, ax_, hw]) (fun h45 => ?_) (fun h45 => ?_)
    ·refine .rgn [cu_ [0] [] (LB (h1_ (by simp at h17; rw [h17]; simp)))] (by simp only [go_sem, seval, ao_, ax_, hw]; rfl) ?_ ?_
     ·first | trivial | simp
     refine Exists.intro (HP m s) ⟨?_, ?_⟩
     ·exact ⟨rfl, m3_ hs (h1_ (by simp at h17; rw [h17]; simp)) m⟩
     exact Can.weak (Weak.lit (by simp only [go_sem, seval, ao_, ax_, hw, a2_, leV, az_, a0_, V.inn, us, T9_, Ta_]) (by simp only [go_sem, seval, ao_, ax_, hw, a2_, leV, az_, a0_, V.inn, us, T9_, Ta_]) (by simp only [go_sem, seval, ao_, ax_, hw, a2_, leV, az_, a0_, V.inn, us, T9_, Ta_] <;> (first | (rw [rw_ h45]; simp; done) | (rw [se_ h45]; simp [HS, E0, E.kind, E.n, E.s, E.kids, eR]; done))))
    ·refine .skip ?_
     refine Exists.intro (HP m s) ⟨?_, ?_⟩
     ·exact ⟨rfl, m3_ hs (h1_ (by simp at h17; rw [h17]; simp)) m⟩
     refine Can.trans (Can.leAt 13 ([[.i .i64 0, .i .i64 0, .s [], .sl false []]]) (by simp only [go_sem, seval, ao_, ax_, hw] <;> rfl) (by simp only [go_sem, seval, ao_, ax_, hw, ler, les, leV] <;> (first | trivial | simp)) (by simp only [go_sem, seval, ao_, ax_, hw] <;> rfl)) ?_
     exact Can.weak (Weak.lit (by simp only [go_sem, seval, ao_, ax_, hw, a2_, leV, az_, a0_, V.inn, us, T9_, Ta_]) (by simp only [go_sem, seval, ao_, ax_, hw, a2_, leV, az_, a0_, V.inn, us, T9_, Ta_]) (by simp only [go_sem, seval, ao_, ax_, hw, a2_, leV, az_, a0_, V.inn, us, T9_, Ta_] <;> (first | (rw [rw_ h45]; simp; done) | (rw [se_ h45]; simp [HS, E0, E.kind, E.n, E.s, E.kids, eR]; done))))
   cases hb : q.2.bad
   ·refine .rgn [cu_ [0] [] (gf_ q.2 (by have := (hJ.2 : okS2 q.2).2.2; have := (hJ.2 : okS2 q.2).2.1; omega))] (by simp only [go_sem, seval, ao_, ax_, hw, hb]; rfl) ?_ ?_
    ·(first | trivial | (simp; done) | (simp [hb]; done))
    refine Exists.intro (HQ q) ⟨?_, ?_⟩
    ·first | exact ⟨cc_ (by rw [show b3_ s = [40] from by simpa using h17, e7_, hJ.1]), i2_ hJ.2⟩ | exact ⟨cc_ (d9_ (by simpa using h17) (by simpa using h60)), h1⟩ | exact ⟨cc_ (dv_ (by simpa using h17) (by simpa using h60) (by simpa using h64)), h1⟩ | exact ⟨cc_ (ej_ (by simpa using h17) (by simpa using h60) (by simpa using h64)), gw_ h1 true⟩
    exact Can.weak (Weak.lit (by simp only [go_sem, seval, ao_, ax_, hw, a2_, leV, az_, a0_, V.inn, us, T9_, Ta_]) (by simp only [go_sem, seval, ao_, ax_, hw, a2_, leV, az_, a0_, V.inn, us, T9_, Ta_]) (by simp only [go_sem, seval, ao_, ax_, hw, a2_, leV, az_, a0_, V.inn, us, T9_, Ta_] <;> (first | (simp [HQ, hb]; done) | (simp [E.kind, E.n, E.s, E.kids, eR]; done) | (simp [E0, E.kind, E.n, E.s, E.kids, eR]; done))))
   ·refine .rgn [cu_ [0] [] (gf_ q.2 (by have := (hJ.2 : okS2 q.2).2.2; have := (hJ.2 : okS2 q.2).2.1; omega))] (by simp only [go_sem, seval, ao_, ax_, hw, hb]; rfl) ?_ ?_
    ·(first | trivial | (simp; done) | (simp [hb]; done))
    refine Exists.intro (HQ q) ⟨?_, ?_⟩
    ·first | exact ⟨cc_ (by rw [show b3_ s = [40] from by simpa using h17, e7_, hJ.1]), i2_ hJ.2⟩ | exact ⟨cc_ (d9_ (by simpa using h17) (by simpa using h60)), h1⟩ | exact ⟨cc_ (dv_ (by simpa using h17) (by simpa using h60) (by simpa using h64)), h1⟩ | exact ⟨cc_ (ej_ (by simpa using h17) (by simpa using h60) (by simpa using h64)), gw_ h1 true⟩
    exact Can.weak (Weak.lit (by simp only [go_sem, seval, ao_, ax_, hw, a2_, leV, az_, a0_, V.inn, us, T9_, Ta_]) (by simp only [go_sem, seval, ao_, ax_, hw, a2_, leV, az_, a0_, V.inn, us, T9_, Ta_]) (by simp only [go_sem, seval, ao_, ax_, hw, a2_, leV, az_, a0_, V.inn, us, T9_, Ta_] <;> (first | (simp [HQ, hb]; done) | (simp [E.kind, E.n, E.s, E.kids, eR]; done) | (simp [E0, E.kind, E.n, E.s, E.kids, eR]; done))))
  ·refine .seq (.rgn [] (by simp only [go_sem, seval, ao_, ax_, hw]; rfl) ?_ ?_)
   ·first | trivial | simp
   refine .condB (by simp only [go_sem, seval, ao_, ax_, hw]; rfl) (by simp only [go_sem, seval, ao_, ax_, hw]) (fun h60 => ?_) (fun h60 => ?_)
   ·refine .rgn [] (by simp only [go_sem, seval, ao_, ax_, hw, hnv (by simpa using h60)]; rfl) ?_ ?_
    ·first | trivial | simp
    refine Exists.intro ((.mk 1 (b9_ (b3_ s)) [] [], bq_ s)) ⟨?_, ?_⟩
    ·first | exact ⟨cc_ (by rw [show b3_ s = [40] from by simpa using h17, e7_, hJ.1]), i2_ hJ.2⟩ | exact ⟨cc_ (d9_ (by simpa using h17) (by simpa using h60)), h1⟩ | exact ⟨cc_ (dv_ (by simpa using h17) (by simpa using h60) (by simpa using h64)), h1⟩ | exact ⟨cc_ (ej_ (by simpa using h17) (by simpa using h60) (by simpa using h64)), gw_ h1 true⟩
    refine Can.trans (Can.leAt 13 ([[.i .i64 1, .i .i64 (b9_ (b3_ s)), .s [], .sl false []]]) (by simp only [go_sem, seval, ao_, ax_, hw] <;> rfl) (by simp only [go_sem, seval, ao_, ax_, hw, ler, les, leV] <;> (first | trivial | simp)) (by simp only [go_sem, seval, ao_, ax_, hw] <;> rfl)) ?_
    exact Can.weak (Weak.lit (by simp only [go_sem, seval, ao_, ax_, hw, a2_, leV, az_, a0_, V.inn, us, T9_, Ta_]) (by simp only [go_sem, seval, ao_, ax_, hw, a2_, leV, az_, a0_, V.inn, us, T9_, Ta_]) (by simp only [go_sem, seval, ao_, ax_, hw, a2_, leV, az_, a0_, V.inn, us, T9_, Ta_] <;> (first | (simp [HQ, hb]; done) | (simp [E.kind, E.n, E.s, E.kids, eR]; done) | (simp [E0, E.kind, E.n, E.s, E.kids, eR]; done))))
   ·refine .seq (.rgn [bj_ (ks_ (b3_ s) (by omega))] (by simp only [go_sem, seval, ao_, ax_, hw]; rfl) ?_ ?_)
    ·first | trivial | simp
    refine .condB (by simp only [go_sem, seval, ao_, ax_, hw]; rfl) (by simp only [go_sem, seval, ao_, ax_, hw]) (fun h64 => ?_) (fun h64 => ?_)
    ·refine .rgn [] (by simp only [go_sem, seval, ao_, ax_, hw]; rfl) ?_ ?_
     ·first | trivial | simp
     refine Exists.intro ((.mk 2 0 (b3_ s) [], bq_ s)) ⟨?_, ?_⟩
     ·first | exact ⟨cc_ (by rw [show b3_ s = [40] from by simpa using h17, e7_, hJ.1]), i2_ hJ.2⟩ | exact ⟨cc_ (d9_ (by simpa using h17) (by simpa using h60)), h1⟩ | exact ⟨cc_ (dv_ (by simpa using h17) (by simpa using h60) (by simpa using h64)), h1⟩ | exact ⟨cc_ (ej_ (by simpa using h17) (by simpa using h60) (by simpa using h64)), gw_ h1 true⟩
     refine Can.trans (Can.leAt 13 ([[.i .i64 2, .i .i64 0, .s (b3_ s), .sl false []]]) (by simp only [go_sem, seval, ao_, ax_, hw] <;> rfl) (by simp only [go_sem, seval, ao_, ax_, hw, ler, les, leV] <;> (first | trivial | simp)) (by simp only [go_sem, seval, ao_, ax_, hw] <;> rfl)) ?_
     exact Can.weak (Weak.lit (by simp only [go_sem, seval, ao_, ax_, hw, a2_, leV, az_, a0_, V.inn, us, T9_, Ta_]) (by simp only [go_sem, seval, ao_, ax_, hw, a2_, leV, az_, a0_, V.inn, us, T9_, Ta_]) (by simp only [go_sem, seval, ao_, ax_, hw, a2_, leV, az_, a0_, V.inn, us, T9_, Ta_] <;> (first | (simp [HQ, hb]; done) | (simp [E.kind, E.n, E.s, E.kids, eR]; done) | (simp [E0, E.kind, E.n, E.s, E.kids, eR]; done))))
    ·refine .rgn [] (by simp only [go_sem, seval, ao_, ax_, hw]; rfl) ?_ ?_
     ·first | trivial | simp
     refine Exists.intro ((E0, { bq_ s with bad := true })) ⟨?_, ?_⟩
     ·first | exact ⟨cc_ (by rw [show b3_ s = [40] from by simpa using h17, e7_, hJ.1]), i2_ hJ.2⟩ | exact ⟨cc_ (d9_ (by simpa using h17) (by simpa using h60)), h1⟩ | exact ⟨cc_ (dv_ (by simpa using h17) (by simpa using h60) (by simpa using h64)), h1⟩ | exact ⟨cc_ (ej_ (by simpa using h17) (by simpa using h60) (by simpa using h64)), gw_ h1 true⟩
     refine Can.trans (Can.leAt 13 ([[.i .i64 0, .i .i64 0, .s [], .sl false []]]) (by simp only [go_sem, seval, ao_, ax_, hw] <;> rfl) (by simp only [go_sem, seval, ao_, ax_, hw, ler, les, leV] <;> (first | trivial | simp)) (by simp only [go_sem, seval, ao_, ax_, hw] <;> rfl)) ?_
     exact Can.weak (Weak.lit (by simp only [go_sem, seval, ao_, ax_, hw, a2_, leV, az_, a0_, V.inn, us, T9_, Ta_]) (by simp only [go_sem, seval, ao_, ax_, hw, a2_, leV, az_, a0_, V.inn, us, T9_, Ta_]) (by simp only [go_sem, seval, ao_, ax_, hw, a2_, leV, az_, a0_, V.inn, us, T9_, Ta_] <;> (first | (simp [HQ, hb]; done) | (simp [E.kind, E.n, E.s, E.kids, eR]; done) | (simp [E0, E.kind, E.n, E.s, E.kids, eR]; done))))
 refine .seq (.block (.loopK (fun p : E × RS => ⟨[.pt 0 3 0 0, .no, .pt 12 4 0 0, .pt 13 4 0 0, .no, .no, .no, .no, .no, .no, .no, .no, .no, .no, .no, .no, .no, .no, .no, .no, .no, .no, .no, .no, .no, .no, .no, .no, .no, .no, .no, .no, .no, .no, .no, .no, .no, .no, .no, .no, .no, .no, .no, .no, .no, .no, .no, .no, .no, .no, .no, .no, .no, .no, .no, .no, .no, .no, .no, .no, .no, .no, .no, .no, .no, .no, .no, .no, .no, .no, .no, .no, .no, .no, .no, .no, .no, .no, .no, .no], be_ [(0, rsB p.2), (12, ⟨48, 4, [[.i .i64 0, .i .i64 0, .s [], .sl true []]]⟩), (13, ⟨48, 4, [eC p.1]⟩)], us [12, 13]⟩) (fun p : E × RS => asR q2.2 q2.1 = asR p.2 p.1 ∧ okS2 p.2) (fun p : E × RS => p.2.left.length) (q2) ?_ ?_ (fun p hI => ?_)))
 ·exact ⟨rfl, hJ.2⟩
 ·exact Can.weak (Weak.lit (by simp only [go_sem, seval, ao_, ax_, hw, a2_, leV, az_, a0_, V.inn, us, T9_, Ta_]) (by simp only [go_sem, seval, ao_, ax_, hw, a2_, leV, az_, a0_, V.inn, us, T9_, Ta_]) (by simp only [go_sem, seval, ao_, ax_, hw, a2_, leV, az_, a0_, V.inn, us, T9_, Ta_]))
 refine .seq (.seq (.rgn [cu_ [0] [] (at_a p.2 (by have := hI.2.2.2; have := hI.2.2.1; omega))] (by simp only [go_sem, seval, ao_, ax_, hw]; rfl) ?_ ?_))
 ·first | trivial | simp
 refine .condB (by simp only [go_sem, seval, ao_, ax_, hw]; rfl) (by simp only [go_sem, seval, ao_, ax_, hw]) (fun h71 => ?_) (fun h71 => ?_)
 ·refine .skip (.block (.seq (.rgn [cu_ [0] [] (gf_ p.2 (by have := hI.2.2.2; have := hI.2.2.1; omega))] (by simp only [go_sem, seval, ao_, ax_, hw]; rfl) ?_ ?_)))
  ·first | trivial | simp
  refine .rgnD [cu_ [0] [] (gf_ (bq_ p.2) (by have := hI.2.2.2; have := hI.2.2.1; have := cv_ p.2; omega))] enM (by simp only [go_sem, seval, ao_, ax_, hw]; rfl) (by rfl) ?_ ?_
  ·first | trivial | simp
  refine Exists.intro ((.mk 4 0 (b3_ (bq_ p.2)) [p.1], bq_ (bq_ p.2))) ⟨?_, ?_, ?_⟩
  ·exact ⟨by rw [hI.1, (jz_ h71).1], fa_ (fa_ hI.2)⟩
  ·have q1 := d4_ (jz_ (e := p.1) h71).2; have q2 := cv_ (bq_ p.2); dsimp only; omega
  refine Can.trans (Can.leAt 13 ([[.i .i64 4, .i .i64 0, .s (b3_ (bq_ p.2)), .sl false [eC p.1]]]) (by simp only [go_sem, seval, ao_, ax_, hw] <;> rfl) (by simp only [go_sem, seval, ao_, ax_, hw, ler, les, leV] <;> (first | trivial | simp)) (by simp only [go_sem, seval, ao_, ax_, hw] <;> rfl)) ?_
  exact Can.weak (Weak.lit (by simp only [go_sem, seval, ao_, ax_, hw, a2_, leV, az_, a0_, V.inn, us, T9_, Ta_]) (by simp only [go_sem, seval, ao_, ax_, hw, a2_, leV, az_, a0_, V.inn, us, T9_, Ta_]) (by simp only [go_sem, seval, ao_, ax_, hw, a2_, leV, az_, a0_, V.inn, us, T9_, Ta_] <;> (simp [E.kind, E.n, E.s, E.kids, eR, a6_])))
 ·refine .exit (.seq (.rgn [] (by simp only [go_sem, seval, ao_, ax_, hw]; rfl) ?_ ?_))
  ·first | trivial | simp
  refine .ret ⟨.inr rfl, ?_⟩
  exact Out.mem' (by simp only [Tryz.results206]; rfl) (by simp only [a4_, bh_, go_sem, seval, ao_, ax_, hw]) (by simp only [bg_, rns, rn, go_sem, seval, ao_, ax_, hw] <;> (rw [hJ.1, hI.1, ud_ h71])) (by simp) rfl (by decide) (by simp only [go_sem, seval, ao_, ax_, hw]) (by simp only [ax_, go_sem, seval, ao_, ax_, hw]) (by simp only [ao_, go_sem, seval, ao_, ax_, hw] <;> (rw [hJ.1, hI.1, ud_ h71]; (try simp)))
theorem aaj_ (n : Nat) : v4_ n ∧ up_ n := by
 induction n using Nat.strongRecOn with
 | ind n ih =>
 refine ⟨?_, ?_⟩
 ·cases n with
  | zero => intro t s ht hs hn; omega
  | succ n => exact uj_ n (fun j hj => (ih j hj).1) (fun j hj => (ih j hj).2)
 ·match n with
  | 0 => intro s hs hn; omega
  | 1 => intro s hs hn; omega
  | m + 2 => exact xl_ m (fun j hj => (ih j hj).1)
end
section
set_option maxRecDepth 100000
set_option maxHeartbeats 8000000
theorem q3_ (e : E) (h : eok e = true) (hs : sm e = true) : ACall En 173 [.ag (eC e)] [] [.sl false (by_ (wds e 1))] [] := by
 have hf := cp_ h
 have hm : many e ((5 : Nat) : Int) ≤ 12 := hm_ h
 have hw := er_ 5 e 0 hf
 have W : ACall En 144 [.ag (eC e), .i .i64 0, .pt 0 1 0 0] [⟨3, 1, [[.i .i64 0]]⟩] [.sl false (wdR (src e 0 0))] [⟨3, 1, [[.i .i64 (0 + cnt e)]]⟩] :=
  ACall.frzL (Lr := [⟨3, 1, [[.i .i64 (0 + cnt e)]]⟩]) (mn_ 5 e 0 0 hf hs (by omega) (by decide) (by omega) (by decide)) (by simp) (by simp [gz_, frz, aw_, T1_])
 have hl : (src e 0 0).length ≤ 1000000 := by rw [show (src e 0 0).length = (wds e 0).length by rw [← fg_ e 0 0, List.length_map]]; omega
 refine aq_ (fn := Tryz.f173) [] Tryz.func173 rfl rfl (by simp) fun C => ?_
 rw [bb_]
 simp only [Tryz.ntmps173, T7_, List.length_nil, Nat.reduceAdd, Nat.reduceSub, List.replicate_succ, List.replicate_zero, List.cons_append, List.nil_append, bl_]
 refine .seq (.rgn [] (by simp only [go_sem, seval, ao_, ax_, ap_]; rfl) ?_ ?_)
 ·first | trivial | simp
 refine .seq (.seq (.rgn [bj_ (gr_ e hs)] (by simp only [go_sem, seval, ao_, ax_, ap_]; rfl) ?_ ?_))
 ·first | trivial | simp
 refine .condB (by simp only [go_sem, seval, ao_, ax_, ap_]; rfl) (by simp only [go_sem, seval, ao_, ax_, ap_]) (fun h6 => ?_) (fun h6 => ?_)
 ·simp [h] at h6
 ·refine .skip (.seq (.rgn [] (by simp only [go_sem, seval, ao_, ax_, ap_]; rfl) ?_ ?_))
  ·first | trivial | simp
  refine .seq (.rgn [cu_ [13] [] W, bj_ (l7_ (src e 0 0) hl)] (by simp only [go_sem, seval, ao_, ax_, ap_]; rfl) ?_ ?_)
  ·first | trivial | simp
  refine .ret ⟨.inr rfl, ?_⟩
  exact Out.plain (by simp only [Tryz.results173]; rfl) (by simp only [a4_, bh_, go_sem, seval, ao_, ax_, ap_] <;> (split <;> rfl)) (by simp only [bg_, go_sem, seval, ao_, ax_, ap_] <;> (rw [fg_, gp_ hf])) (by simp only [go_sem, seval, ao_, ax_, ap_])
theorem wd_ {a b : List Str} {k : Nat} (ha : k < a.length) (hb : k < b.length) (h : a.take k = b.take k) (e : a.getD k [] = b.getD k []) : a.take (k + 1) = b.take (k + 1) := by
 rw [List.take_add_one (l := a), List.take_add_one (l := b), h, T6_ ha, T6_ hb]
 rw [T8_, T8_, T6_ ha, T6_ hb] at e
 rw [show a[k] = b[k] by simpa using e]
theorem vy_ (a b : List Str) (ha : a.length ≤ 1000000000000) (hb : b.length ≤ 1000000000000) : ACall En 172 [.sl false (by_ a), .sl false (by_ b)] [] [.b (a == b)] [] := by
 refine aq_ (fn := Tryz.f172) [] Tryz.func172 rfl rfl (by simp) fun C => ?_
 rw [bb_]
 simp only [Tryz.ntmps172, T7_, List.length_nil, Nat.reduceAdd, Nat.reduceSub, List.replicate_succ, List.replicate_zero, List.cons_append, List.nil_append, bl_]
 refine .seq (.rgn [] (by simp only [go_sem, seval, ab_, aa_]; rfl) ?_ ?_)
 ·first | trivial | simp
 refine .seq (.seq (.rgn [] (by simp only [go_sem, seval, ab_, aa_]; rfl) ?_ ?_))
 ·first | trivial | simp
 refine .condB (by simp only [go_sem, seval, ab_, aa_]; rfl) (by simp only [go_sem, seval, ab_, aa_]) (fun h10 => ?_) (fun h10 => ?_)
 ·refine .seq (.rgn [] (by simp only [go_sem, seval, ab_, aa_]; rfl) ?_ ?_)
  ·first | trivial | simp
  refine .ret ⟨.inr rfl, ?_⟩
  exact Out.plain (by simp only [Tryz.results172]; rfl) (by simp only [a4_, bh_, go_sem, seval, ab_, aa_] <;> (split <;> rfl)) (by simp only [bg_, go_sem, seval, ab_, aa_] <;> (have : a ≠ b := (fun e => by simp [e] at h10); simp [this])) (by simp only [go_sem, seval, ab_, aa_])
 ·refine .skip (.seq (.seq (.rgn [] (by simp only [go_sem, seval, ab_, aa_]; rfl) ?_ ?_)))
  ·first | trivial | simp
  refine .block (.loopK (fun k : Nat => ⟨[.sl false (by_ a), .sl false (by_ b), .no, .no, .no, .no, .no, .no, .no, .no, .no, .no, .i .i64 a.length, .i .i64 k, .no, .no, .no, .no, .no, .no, .no, .no, .no, .no, .no, .no], be_ [], us []⟩) (fun k : Nat => k ≤ a.length ∧ a.take k = b.take k) (fun k : Nat => a.length - k) (0) ?_ ?_ (fun k hI => ?_))
  ·exact ⟨Nat.zero_le _, rfl⟩
  ·exact Can.weak (Weak.lit (by simp only [go_sem, seval, ab_, aa_, a2_, leV, az_, a0_, V.inn, us, T9_, Ta_] <;> (simp)) (by simp only [go_sem, seval, ab_, aa_, a2_, leV, az_, a0_, V.inn, us, T9_, Ta_]) (by simp only [go_sem, seval, ab_, aa_, a2_, leV, az_, a0_, V.inn, us, T9_, Ta_]))
  refine .seq (.rgn [] (by simp only [go_sem, seval, ab_, aa_]; rfl) ?_ ?_)
  ·first | trivial | simp
  refine .seq (.condB (by simp only [go_sem, seval, ab_, aa_]; rfl) (by simp only [go_sem, seval, ab_, aa_]) (fun h14 => ?_) (fun h14 => ?_))
  ·refine .skip (.seq (.block (.seq (.rgn [] (by simp only [go_sem, seval, ab_, aa_]; rfl) ?_ ?_))))
   ·first | trivial | simp
   refine .seq (.rgnD [] enM (by simp only [go_sem, seval, ab_, aa_, dl_ (show k < a.length by simpa using h14), dl_ (show k < b.length by simp at h14 h10; omega)]; rfl) (by rfl) ?_ ?_)
   ·simp at h14 h10; simp; omega
   refine .condB (by simp only [go_sem, seval, ab_, aa_]; rfl) (by simp only [go_sem, seval, ab_, aa_]) (fun h24 => ?_) (fun h24 => ?_)
   ·refine .seq (.rgn [] (by simp only [go_sem, seval, ab_, aa_]; rfl) ?_ ?_)
    ·first | trivial | simp
    refine .ret ⟨.inr rfl, ?_⟩
    exact Out.plain (by simp only [Tryz.results172]; rfl) (by simp only [a4_, bh_, go_sem, seval, ab_, aa_] <;> (split <;> rfl)) (by simp only [bg_, go_sem, seval, ab_, aa_] <;> (have : a ≠ b := (fun e => by simp [e] at h24); simp [this])) (by simp only [go_sem, seval, ab_, aa_])
   ·refine .skip (.rgn [] (by simp only [go_sem, seval, ab_, aa_]; rfl) ?_ ?_)
    ·first | trivial | simp
    refine Exists.intro (k + 1) ⟨?_, ?_, ?_⟩
    ·simp only [T3_] at h14; simp at h10; exact ⟨by omega, wd_ (by omega) (by omega) hI.2 (by simpa using h24)⟩
    ·simp at h14; omega
    exact Can.weak (Weak.lit (by simp only [go_sem, seval, ab_, aa_, a2_, leV, az_, a0_, V.inn, us, T9_, Ta_] <;> (rw [bt_ (by simp at h14; omega) (by simp at h14; omega)]; simp)) (by simp only [go_sem, seval, ab_, aa_, a2_, leV, az_, a0_, V.inn, us, T9_, Ta_]) (by simp only [go_sem, seval, ab_, aa_, a2_, leV, az_, a0_, V.inn, us, T9_, Ta_]))
  ·refine .exit (.seq (.rgn [] (by simp only [go_sem, seval, ab_, aa_]; rfl) ?_ ?_))
   ·first | trivial | simp
   refine .ret ⟨.inr rfl, ?_⟩
   exact Out.plain (by simp only [Tryz.results172]; rfl) (by simp only [a4_, bh_, go_sem, seval, ab_, aa_] <;> (split <;> rfl)) (by simp only [bg_, go_sem, seval, ab_, aa_] <;> (simp only [T4_] at h14; simp at h10; have q := hI.2; rw [T1_ (by omega), T1_ (by omega)] at q; simp [q])) (by simp only [go_sem, seval, ab_, aa_])
def ft_ (w : List Str) : Bool := (df_ w).isSome
theorem hb_ (w : List Str) (hw : smW w) (hl : w.length ≤ 1000000) : ACall En 113 [.sl false (by_ w)] [] [.ag (eC (ex w)), .b (ft_ w)] [] := by
 have hR : w.length ≤ 40 → ACall En 171 [.pt 0 3 0 0, .i .i64 ((1 : Nat) : Int)] [rsB ⟨w, false, 0⟩] [.ag (eC (ce_ 500 1 ⟨w, false, 0⟩).1)] [rsB (ce_ 500 1 ⟨w, false, 0⟩).2] := fun h => (aaj_ 500).1 1 ⟨w, false, 0⟩ (by decide) ⟨hw, Int.le_refl _, by dsimp only; omega⟩ (by dsimp only; omega)
 have hS := ((x3_ 500).1 1 ⟨w, false, 0⟩ hw).1
 have hE : df_ w = if w.length ≤ 40 then (if ((ce_ 500 1 ⟨w, false, 0⟩).2.bad || !(ce_ 500 1 ⟨w, false, 0⟩).2.left.isEmpty || !eok (ce_ 500 1 ⟨w, false, 0⟩).1 || !(wds (ce_ 500 1 ⟨w, false, 0⟩).1 1 == w)) then none else some (ce_ 500 1 ⟨w, false, 0⟩).1) else none := rfl
 have hL := (o7_ 500).1 1 ⟨w, false, 0⟩
 generalize ce_ 500 1 ⟨w, false, 0⟩ = q at *
 have hq : (!q.2.left.isEmpty) = decide ((q.2.left.length : Int) > 0) := by cases q.2.left <;> simp
 rw [hq] at hE
 have n1 : decide ((w.length : Int) > 40) = true → df_ w = none := fun h => by rw [hE, if_neg (by simp at h; omega)]
 have n2 : decide ((w.length : Int) > 40) = false → (q.2.bad || decide ((q.2.left.length : Int) > 0) || !eok q.1 || !(wds q.1 1 == w)) = true → df_ w = none := fun h h2 => by rw [hE, if_pos (by simp at h; omega), if_pos h2]
 have n3 : decide ((w.length : Int) > 40) = false → (q.2.bad || decide ((q.2.left.length : Int) > 0) || !eok q.1 || !(wds q.1 1 == w)) = false → df_ w = some q.1 := fun h h2 => by rw [hE, if_pos (by simp at h; omega), h2]; rfl
 refine aq_ (fn := Tryz.f113) [] Tryz.func113 rfl rfl (by simp) fun C => ?_
 rw [bb_]
 simp only [Tryz.ntmps113, T7_, List.length_nil, Nat.reduceAdd, Nat.reduceSub, List.replicate_succ, List.replicate_zero, List.cons_append, List.nil_append, bl_]
 refine .seq (.rgn [] (by simp only [go_sem, seval, ao_, ax_, ab_, aa_]; rfl) ?_ ?_)
 ·first | trivial | simp
 refine .seq (.seq (.rgn [] (by simp only [go_sem, seval, ao_, ax_, ab_, aa_]; rfl) ?_ ?_))
 ·first | trivial | simp
 refine .condB (by simp only [go_sem, seval, ao_, ax_, ab_, aa_]; rfl) (by simp only [go_sem, seval, ao_, ax_, ab_, aa_]) (fun h8 => ?_) (fun h8 => ?_)
 ·refine .seq (.rgn [] (by simp only [go_sem, seval, ao_, ax_, ab_, aa_]; rfl) ?_ ?_)
  ·first | trivial | simp
  refine .ret ⟨.inr rfl, ?_⟩
  exact Out.plainL (by simp only [Tryz.results113]; rfl) (by simp only [a4_, bh_, go_sem, seval, ao_, ax_, ab_, aa_] <;> (split <;> rfl)) (by simp only [bg_, go_sem, seval, ao_, ax_, ab_, aa_] <;> (simp [ex, ft_, n1 h8, E0, E.kind, E.n, E.s, E.kids, eR, ler])) (by simp only [go_sem, seval, ao_, ax_, ab_, aa_])
 ·refine .skip (.seq (.rgn [] (by simp only [go_sem, seval, ao_, ax_, ab_, aa_]; rfl) ?_ ?_))
  ·first | trivial | simp
  refine .seq (.rgn [cu_ [22] [] (hR (by simp at h8; omega))] (by simp only [go_sem, seval, ao_, ax_, ab_, aa_]; rfl) ?_ ?_)
  ·first | trivial | simp
  refine .seq (.seq (.rgn [bj_ (gr_ q.1 hS), ef_ (eok q.1 = true) (fun h => q3_ q.1 h hS), ef_ (eok q.1 = true) (fun h => vy_ (wds q.1 1) w (by have := (db_ h 1).2.1; omega) (by omega))] (by simp only [go_sem, seval, ao_, ax_, ab_, aa_]; rfl) ?_ ?_))
  ·(have key : ∀ x : Bool, x = false → (!x) = true := (fun x h => by rw [h]; rfl)); exact ⟨⟨⟨⟨key _, key _⟩, fun h => ⟨h, by simp at h; exact h.2⟩⟩, fun h => ⟨h, by simp at h; exact h.2⟩⟩, key _⟩
  refine .condB (by simp only [go_sem, seval, ao_, ax_, ab_, aa_]; rfl) (by simp only [go_sem, seval, ao_, ax_, ab_, aa_]) (fun h38 => ?_) (fun h38 => ?_)
  ·refine .seq (.rgn [] (by simp only [go_sem, seval, ao_, ax_, ab_, aa_]; rfl) ?_ ?_)
   ·first | trivial | simp
   refine .ret ⟨.inr rfl, ?_⟩
   exact Out.plainL (by simp only [Tryz.results113]; rfl) (by simp only [a4_, bh_, go_sem, seval, ao_, ax_, ab_, aa_] <;> (split <;> rfl)) (by simp only [bg_, go_sem, seval, ao_, ax_, ab_, aa_] <;> (simp [ex, ft_, n2 h8 h38, E0, E.kind, E.n, E.s, E.kids, eR, ler])) (by simp only [go_sem, seval, ao_, ax_, ab_, aa_])
  ·refine .skip (.seq (.rgn [] (by simp only [go_sem, seval, ao_, ax_, ab_, aa_]; rfl) ?_ ?_))
   ·first | trivial | simp
   refine .ret ⟨.inr rfl, ?_⟩
   exact Out.plainL (by simp only [Tryz.results113]; rfl) (by simp only [a4_, bh_, go_sem, seval, ao_, ax_, ab_, aa_] <;> (split <;> rfl)) (by simp only [bg_, go_sem, seval, ao_, ax_, ab_, aa_] <;> (simp [ex, ft_, n3 h8 h38, bu_])) (by simp only [go_sem, seval, ao_, ax_, ab_, aa_])
end
end Go.Proofs.YtefmbmafdgedmaaGreatDoor
