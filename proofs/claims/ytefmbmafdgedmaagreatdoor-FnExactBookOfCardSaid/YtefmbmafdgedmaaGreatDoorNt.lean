/- Plain laws of the program's reader: brackets are counted, texts are not made longer. Conditions: none. -/
import Derived.Test.YtefmbmafdgedmaaGreatDoorNd
import Derived.Test.YtefmbmafdgedmaaGreatDoorNb
import Derived.Test.YtefmbmafdgedmaaGreatDoorNn
import Derived.Test.YtefmbmafdgedmaaGreatDoorNh
import Derived.Test.YtefmbmafdgedmaaGreatDoorNi
import Derived.Test.YtefmbmafdgedmaaGreatDoorNj
set_option linter.unusedVariables false
set_option linter.unusedSimpArgs false
namespace Go.Proofs.YtefmbmafdgedmaaGreatDoor
section
def Dn (s' s : RS) (k : Int) : Prop := s.deep ≤ s'.deep ∧ s'.deep + s'.left.length ≤ s.deep + s.left.length + k ∧ s'.left.length ≤ s.left.length
theorem Dn.refl (s : RS) : Dn s s 0 := ⟨Int.le_refl _, by omega, Nat.le_refl _⟩
theorem Dn.trans {a b c : RS} {k m : Int} (h : Dn a b k) (g : Dn b c m) : Dn a c (k + m) := ⟨by have := h.1; have := g.1; omega, by have := h.2.1; have := g.2.1; omega, by have := h.2.2; have := g.2.2; omega⟩
theorem Dn.le {a b : RS} {k m : Int} (h : Dn a b k) (hm : k ≤ m) : Dn a b m := ⟨h.1, by have := h.2.1; omega, h.2.2⟩
theorem Dn.next (s : RS) : Dn (b6_ s) s (if s.left = [] then 0 else -1) := by
 unfold b6_ Dn
 cases h : s.left with
 | nil => simp [h]
 | cons x r => simp [h]; omega
theorem Dn.nx (s : RS) : Dn (b6_ s) s 0 := (Dn.next s).le (by split <;> omega)
theorem Dn.as (s : RS) (e : E) : Dn (asR s e).2 s 0 := by
 have h1 := xc_ s e
 have h2 := aag_ s e
 exact ⟨by omega, by omega, h1⟩
theorem Dn.bad (s : RS) (b : Bool) : Dn { s with bad := b } s 0 := ⟨Int.le_refl _, by dsimp only; omega, Nat.le_refl _⟩
theorem aby_ : ∀ n : Nat, (∀ t s, Dn (cu_ n t s).2 s 0) ∧ (∀ t e s, Dn (dp_ n t e s).2 s 0) ∧ (∀ s, Dn (e5_ n s).2 s 0) ∧ (∀ w s, Dn (eg_ n w s).2 s (if w = [40] then 1 else 0))
 | 0 => ⟨fun t s => by simp only [cu_]; exact Dn.refl s, fun t e s => by simp only [dp_]; exact Dn.refl s, fun s => by simp only [e5_]; exact Dn.refl s, fun w s => by simp only [eg_]; exact (Dn.refl s).le (by split <;> omega)⟩
 | n + 1 => by
  obtain ⟨h1, h2, h3, h4⟩ := aby_ n
  refine ⟨fun t s => ?_, fun t e s => ?_, fun s => ?_, fun w s => ?_⟩
  ·simp only [cu_]
   split
   ·exact h3 s
   ·exact ((h2 t _ _).trans (h1 (t + 1) s)).le (by omega)
  ·simp only [dp_]
   split
   ·exact (((h2 t _ _).trans (h1 (t + 1) _)).trans (Dn.nx s)).le (by omega)
   ·exact Dn.refl s
  ·simp only [e5_]
   refine (((Dn.as _ _).trans (h4 (ch_ s) (b6_ s))).trans (Dn.next s)).le ?_
   unfold ch_
   cases hl : s.left with
   | nil => simp
   | cons x r => simp only [reduceCtorEq, if_false]; split <;> omega
  ·simp only [eg_]
   split
   ·split
    ·exact ⟨by dsimp only; omega, by dsimp only; omega, Nat.le_refl _⟩
    ·have hD : Dn { s with deep := s.deep + 1 } s 1 := ⟨by dsimp only; omega, by dsimp only; omega, Nat.le_refl _⟩
     dsimp only
     split
     ·exact ((h1 1 _).trans hD).le (by omega)
     ·have q := ((Dn.nx (cu_ n 1 { s with deep := s.deep + 1 }).2).trans ((h1 1 _).trans hD)).le (m := 1) (by omega)
      exact ⟨q.1, q.2.1, q.2.2⟩
   ·split
    ·exact Dn.refl s
    ·split
     ·exact Dn.refl s
     ·exact Dn.bad s true
def smW (l : List Str) : Prop := ∀ w ∈ l, w.length ≤ 281474976710656
theorem g3_ {s : RS} (h : smW s.left) : smW (b6_ s).left ∧ (ch_ s).length ≤ 281474976710656 := by
 unfold b6_ ch_
 cases hl : s.left with
 | nil => simp [smW, hl]
 | cons x r => rw [hl] at h; exact ⟨fun w hw => h w (List.mem_cons_of_mem _ hw), h x List.mem_cons_self⟩
theorem v8_ {a b : E} {k n : Int} {s : Str} (hs : s.length < 4611686018427387904) (ha : sm a = true) (hb : sm b = true) : sm (.mk k n s [a, b]) = true := by simp [sm, sms, ha, hb, hs]
theorem wf_ {a : E} {k n : Int} {s : Str} (hs : s.length < 4611686018427387904) (ha : sm a = true) : sm (.mk k n s [a]) = true := by simp [sm, sms, ha, hs]
theorem m8_ {k n : Int} {s : Str} (hs : s.length < 4611686018427387904) : sm (.mk k n s []) = true := by simp [sm, sms, hs]
theorem abu_ : ∀ (l : List Str) (e : E) (d : Int), smW l → sm e = true → sm (asL l e d).1 = true ∧ smW (asL l e d).2.left
 | [], e, d, h, he => by simp only [asL]; exact ⟨he, h⟩
 | [w], e, d, h, he => by
  simp only [asL]; split
  ·exact ⟨wf_ (by simp) he, fun w hw => by cases hw⟩
  ·exact ⟨he, h⟩
 | w :: t :: r, e, d, h, he => by
  simp only [asL]; split
  ·exact abu_ r _ d (fun x hx => h x (by simp [hx])) (wf_ (Nat.lt_of_le_of_lt (h t (by simp)) (by decide)) he)
  ·exact ⟨he, h⟩
theorem agv_ (s : RS) (e : E) (h : smW s.left) (he : sm e = true) : sm (asR s e).1 = true ∧ smW (asR s e).2.left := by
 unfold asR; split
 ·exact ⟨he, h⟩
 ·exact abu_ _ _ _ h he
theorem i_sm : ∀ n : Nat, (∀ t s, smW s.left → sm (cu_ n t s).1 = true ∧ smW (cu_ n t s).2.left) ∧ (∀ t e s, sm e = true → smW s.left → sm (dp_ n t e s).1 = true ∧ smW (dp_ n t e s).2.left) ∧ (∀ s, smW s.left → sm (e5_ n s).1 = true ∧ smW (e5_ n s).2.left) ∧ (∀ w s, w.length < 4611686018427387904 → smW s.left → sm (eg_ n w s).1 = true ∧ smW (eg_ n w s).2.left)
 | 0 => ⟨fun t s h => by simp only [cu_]; exact ⟨by decide, h⟩, fun t e s he h => by simp only [dp_]; exact ⟨he, h⟩, fun s h => by simp only [e5_]; exact ⟨by decide, h⟩, fun w s hw h => by simp only [eg_]; exact ⟨by decide, h⟩⟩
 | n + 1 => by
  obtain ⟨h1, h2, h3, h4⟩ := i_sm n
  refine ⟨fun t s h => ?_, fun t e s he h => ?_, fun s h => ?_, fun w s hw h => ?_⟩
  ·simp only [cu_]
   split
   ·exact h3 s h
   ·exact h2 t _ _ (h1 (t + 1) s h).1 (h1 (t + 1) s h).2
  ·simp only [dp_]
   split
   ·have q := h1 (t + 1) (b6_ s) (g3_ h).1
    exact h2 t _ _ (v8_ (Nat.lt_of_le_of_lt (g3_ h).2 (by decide)) he q.1) q.2
   ·exact ⟨he, h⟩
  ·simp only [e5_]
   have q := h4 (ch_ s) (b6_ s) (Nat.lt_of_le_of_lt (g3_ h).2 (by decide)) (g3_ h).1
   exact agv_ _ _ q.2 q.1
  ·simp only [eg_]
   split
   ·split
    ·exact ⟨(show sm E0 = true by decide), h⟩
    ·have q := h1 1 { s with deep := s.deep + 1 } h
     dsimp only
     refine ⟨q.1, ?_⟩
     split
     ·exact q.2
     ·exact (g3_ q.2).1
   ·split
    ·exact ⟨m8_ (by simp), h⟩
    ·split
     ·exact ⟨m8_ hw, h⟩
     ·exact ⟨(show sm E0 = true by decide), h⟩
end
section
set_option maxRecDepth 100000
set_option maxHeartbeats 4000000
abbrev rsB (s : RS) : Blk := ⟨184, 3, [[.sl false (bm_ s.left), .b s.bad, .i .i64 s.deep]]⟩
theorem ln_ (s : RS) (hl : s.left.length < 4611686018427387904) : ACall En 207 [.pt 0 3 0 0] [rsB s] [.s (ch_ s)] [rsB (b6_ s)] := by
 obtain ⟨left, bad, deep⟩ := s
 cases left with
 | nil =>
 refine ah_ (fn := Tryz.f207) [0] Tryz.func207 rfl rfl (by simp) fun C => ?_
 rw [ar_]
 simp only [Tryz.ntmps207, List.length_cons, List.length_nil, Nat.reduceAdd, Nat.reduceSub, List.replicate_succ, List.replicate_zero, List.cons_append, List.nil_append, bd_]
 refine .seq (.rgn [] (by simp only [go_sem, seval, b3_, bt_]; rfl) ?_ ?_)
 ·first | trivial | simp
 refine .seq (.seq (.rgn [] (by simp only [go_sem, seval, b3_, bt_]; rfl) ?_ ?_))
 ·first | trivial | simp
 refine .condB (by simp only [go_sem, seval, b3_, bt_]; rfl) (by simp only [go_sem, seval, b3_, bt_]) (fun h9 => ?_) (fun h9 => ?_)
 ·refine .seq (.rgn [] (by simp only [go_sem, seval, b3_, bt_]; rfl) ?_ ?_)
  ·first | trivial | simp
  refine .seq (.rgn [] (by simp only [go_sem, seval, b3_, bt_]; rfl) ?_ ?_)
  ·first | trivial | simp
  refine .ret ⟨.inr rfl, ?_⟩
  exact Out.mem' (by simp only [Tryz.results207]; rfl) (by simp only [aq_, a8_, go_sem, seval, b3_, bt_]) (by simp only [a7_, rns, rn, go_sem, seval, b3_, bt_] <;> (rfl)) (by simp) rfl (by decide) (by simp only [go_sem, seval, b3_, bt_]) (by simp only [ay_, go_sem, seval, b3_, bt_]) (by simp only [as_, go_sem, seval, b3_, bt_] <;> (simp [b6_, b3_]))
 ·exact absurd h9 (by simp)
 | cons x r =>
 refine ah_ (fn := Tryz.f207) [0] Tryz.func207 rfl rfl (by simp) fun C => ?_
 rw [ar_]
 simp only [Tryz.ntmps207, List.length_cons, List.length_nil, Nat.reduceAdd, Nat.reduceSub, List.replicate_succ, List.replicate_zero, List.cons_append, List.nil_append, bd_]
 refine .seq (.rgn [] (by simp only [go_sem, seval, b3_, bt_]; rfl) ?_ ?_)
 ·first | trivial | simp
 refine .seq (.seq (.rgn [] (by simp only [go_sem, seval, b3_, bt_]; rfl) ?_ ?_))
 ·first | trivial | simp
 refine .condB (by simp only [go_sem, seval, b3_, bt_]; rfl) (by simp only [go_sem, seval, b3_, bt_]) (fun h9 => ?_) (fun h9 => ?_)
 ·simp at h9; omega
 ·refine .skip (.seq (.rgn [] (by simp only [go_sem, seval, b3_, bt_]; rfl) ?_ ?_))
  ·first | trivial | simp
  refine .seq (.rgn [] (by simp only [go_sem, seval, b3_, bt_]; rfl) ?_ ?_)
  ·refine ⟨⟨by omega, by omega⟩, .inr fun q hq => ?_⟩; rcases List.mem_cons.1 hq with rfl | hq; rfl; exact oy_ hq
  refine .seq (.rgn [] (by simp only [go_sem, seval, b3_, bt_]; rfl) ?_ ?_)
  ·first | trivial | simp
  refine .ret ⟨.inr rfl, ?_⟩
  exact Out.mem' (by simp only [Tryz.results207]; rfl) (by simp only [aq_, a8_, go_sem, seval, b3_, bt_]) (by simp only [a7_, rns, rn, go_sem, seval, b3_, bt_] <;> (rfl)) (by simp) rfl (by decide) (by simp only [go_sem, seval, b3_, bt_]) (by simp only [ay_, go_sem, seval, b3_, bt_]) (by simp only [as_, go_sem, seval, b3_, bt_] <;> (simp [b6_, List.take_of_length_le, ab_]))
theorem at_a (s : RS) (hl : s.left.length < 4611686018427387904) : ACall En 233 [.pt 0 3 0 0, .sl false [[.s [97, 115]]]] [rsB s] [.b (!s.bad && (!s.left.isEmpty && ch_ s == wAs))] [rsB s] := by
 obtain ⟨left, bad, deep⟩ := s
 cases left with
 | nil =>
 refine ah_ (fn := Tryz.f233) [0] Tryz.func233 rfl rfl (by simp) fun C => ?_
 rw [ar_]
 simp only [Tryz.ntmps233, List.length_cons, List.length_nil, Nat.reduceAdd, Nat.reduceSub, List.replicate_succ, List.replicate_zero, List.cons_append, List.nil_append, bd_]
 refine .seq (.rgn [] (by simp only [go_sem, seval, asO, b3_, bt_, wAs]; rfl) ?_ ?_)
 ·first | trivial | simp
 refine .seq (.rgnS [25] [asO En { v := .s [] }, a2_ (ke_ [wAs] [] (by decide))] (by simp only [go_sem, seval, asO, b3_, bt_, wAs]; rfl) ?_ ?_)
 ·first | trivial | simp
 refine .ret ⟨.inr rfl, ?_⟩
 exact Out.mem' (by simp only [Tryz.results233]; rfl) (by simp only [aq_, a8_, go_sem, seval, asO, b3_, bt_, wAs]) (by simp only [a7_, rns, rn, go_sem, seval, asO, b3_, bt_, wAs] <;> (simp)) (by simp) rfl (by decide) (by simp only [go_sem, seval, asO, b3_, bt_, wAs]) (by simp only [ay_, go_sem, seval, asO, b3_, bt_, wAs]) (by simp only [as_, go_sem, seval, asO, b3_, bt_, wAs] <;> (simp [b3_]))
 | cons x r =>
 refine ah_ (fn := Tryz.f233) [0] Tryz.func233 rfl rfl (by simp) fun C => ?_
 rw [ar_]
 simp only [Tryz.ntmps233, List.length_cons, List.length_nil, Nat.reduceAdd, Nat.reduceSub, List.replicate_succ, List.replicate_zero, List.cons_append, List.nil_append, bd_]
 refine .seq (.rgn [] (by simp only [go_sem, seval, b3_, bt_, wAs]; rfl) ?_ ?_)
 ·first | trivial | simp
 refine .seq (.rgn [a2_ (ke_ [wAs] x (by decide))] (by simp only [go_sem, seval, b3_, bt_, wAs]; rfl) ?_ ?_)
 ·first | trivial | simp
 refine .ret ⟨.inr rfl, ?_⟩
 exact Out.mem' (by simp only [Tryz.results233]; rfl) (by simp only [aq_, a8_, go_sem, seval, b3_, bt_, wAs]) (by simp only [a7_, rns, rn, go_sem, seval, b3_, bt_, wAs] <;> (simp [ch_, wAs])) (by simp) rfl (by decide) (by simp only [go_sem, seval, b3_, bt_, wAs]) (by simp only [ay_, go_sem, seval, b3_, bt_, wAs]) (by simp only [as_, go_sem, seval, b3_, bt_, wAs] <;> (simp [bt_]))
end
section
set_option maxRecDepth 100000
set_option maxHeartbeats 8000000
def okS2 (s : RS) : Prop := smW s.left ∧ 0 ≤ s.deep ∧ s.deep + s.left.length ≤ 1000000
theorem okS2.of {s s' : RS} (h : okS2 s) (d : Dn s' s 0) (w : smW s'.left) : okS2 s' := ⟨w, by have := d.1; have := h.2.1; omega, by have := d.2.1; have := h.2.2; omega⟩
def wy_ (n : Nat) : Prop := ∀ (t : Nat) (s : RS), t ≤ 4 → okS2 s → 10 * s.left.length + 10 - t ≤ n → ACall En 171 [.pt 0 3 0 0, .i .i64 t] [rsB s] [.ag (eC (cu_ n t s).1)] [rsB (cu_ n t s).2]
def we_ (n : Nat) : Prop := ∀ (s : RS), okS2 s → 10 * s.left.length + 5 ≤ n → ACall En 206 [.pt 0 3 0 0] [rsB s] [.ag (eC (e5_ n s).1)] [rsB (e5_ n s).2]
theorem ik_ {s : RS} (h : okS2 s) : okS2 (b6_ s) := h.of (Dn.nx s) (g3_ h.1).1
theorem v2_ {s : RS} (h : okS2 s) (n t : Nat) : okS2 (cu_ n t s).2 := h.of ((aby_ n).1 t s) ((i_sm n).1 t s h.1).2
theorem iu_ {s : RS} (h : s.left ≠ []) : (b6_ s).left.length + 1 = s.left.length := by
 unfold b6_
 cases hl : s.left with
 | nil => exact absurd hl h
 | cons x r => rfl
theorem sn_ {s : RS} (h : s.left ≠ []) : (bm_ s.left).getD 0 [] = [.s (ch_ s)] := by
 unfold ch_
 cases hl : s.left with
 | nil => exact absurd hl h
 | cons x r => rfl
theorem abs_ {j t : Nat} {e : E} {s : RS} (h : ((!s.bad && decide ((s.left.length : Int) > 0)) && a4_ (ch_ s) == (t : Int)) = true) : dp_ (j + 1) t e s = dp_ j t (.mk 3 0 (ch_ s) [e, (cu_ j (t + 1) (b6_ s)).1]) (cu_ j (t + 1) (b6_ s)).2 ∧ s.left ≠ [] := by
 simp only [Bool.and_eq_true, Bool.not_eq_true', decide_eq_true_eq, beq_iff_eq] at h
 have hne : s.left ≠ [] := by intro e; rw [e] at h; simp at h
 simp only [dp_]
 rw [if_pos ⟨h.1.1, hne, h.2⟩]
 exact ⟨rfl, hne⟩
theorem zw_ {j t : Nat} {e : E} {s : RS} (h : ((!s.bad && decide ((s.left.length : Int) > 0)) && a4_ (ch_ s) == (t : Int)) = false) : dp_ (j + 1) t e s = (e, s) := by
 simp only [dp_]
 rw [if_neg]
 rintro ⟨a, b, c⟩
 rw [a, c] at h
 cases hl : s.left with
 | nil => exact b hl
 | cons x r => rw [hl] at h; simp at h
theorem acu_ {s : RS} (h : (!s.bad && decide ((s.left.length : Int) > 0)) = true) : s.left ≠ [] := by intro e; rw [e] at h; simp at h
theorem aht_ {s : RS} (h : (!s.bad && decide ((s.left.length : Int) > 0)) = true) : (0 : Int) < s.left.length := by simp at h; omega
theorem ua_ {s : RS} (h : s.left ≠ []) : ((bm_ s.left).getD 0 []).length = 1 := by rw [sn_ h]; rfl
theorem agu_ {s : RS} (h : s.left ≠ []) : ((bm_ s.left).getD 0 []).getD 0 .no = .s (ch_ s) := by rw [sn_ h]; rfl
def LI (n t : Nat) (s : RS) (q : Nat × E × RS) : Prop := okS2 q.2.2 ∧ 10 * q.2.2.left.length + 1 ≤ q.1 ∧ q.1 ≤ n ∧ dp_ n t (cu_ n (t + 1) s).1 (cu_ n (t + 1) s).2 = dp_ q.1 t q.2.1 q.2.2
def LN (t : Nat) (q : Nat × E × RS) : Nat × E × RS := (q.1 - 1, .mk 3 0 (ch_ q.2.2) [q.2.1, (cu_ (q.1 - 1) (t + 1) (b6_ q.2.2)).1], (cu_ (q.1 - 1) (t + 1) (b6_ q.2.2)).2)
theorem xb_ {n t : Nat} {s : RS} {q : Nat × E × RS} (h8 : ((t : Int) == 4) = false) (hI : LI n t s q) (h : ((!q.2.2.bad && decide ((q.2.2.left.length : Int) > 0)) && a4_ (ch_ q.2.2) == (t : Int)) = false) : cu_ (n + 1) t s = q.2 := by
 obtain ⟨j, e, s'⟩ := q
 obtain ⟨h1, h2, h3, h4⟩ := hI
 dsimp only at h1 h2 h3 h4 h ⊢
 obtain ⟨i, rfl⟩ : ∃ i, j = i + 1 := ⟨j - 1, by omega⟩
 rw [nk_ (by simp at h8; omega), h4, zw_ h]
theorem tk_ {n t : Nat} {s : RS} {q : Nat × E × RS} (hI : LI n t s q) (h : ((!q.2.2.bad && decide ((q.2.2.left.length : Int) > 0)) && a4_ (ch_ q.2.2) == (t : Int)) = true) : LI n t s (LN t q) ∧ (LN t q).2.2.left.length < q.2.2.left.length := by
 obtain ⟨j, e, s'⟩ := q
 obtain ⟨h1, h2, h3, h4⟩ := hI
 unfold LI LN
 dsimp only at h1 h2 h3 h4 h ⊢
 obtain ⟨i, rfl⟩ : ∃ i, j = i + 1 := ⟨j - 1, by omega⟩
 obtain ⟨g1, g2⟩ := abs_ (j := i) (e := e) h
 have q1 := iu_ g2
 have q2 := (xq_ i).1 (t + 1) (b6_ s')
 simp only [Nat.add_sub_cancel]
 exact ⟨⟨v2_ (ik_ h1) _ _, by omega, by omega, by rw [h4, g1]⟩, by omega⟩
theorem vz_ (n : Nat) (ihL : ∀ j, j < n + 1 → wy_ j) (ihH : ∀ j, j < n + 1 → we_ j) : wy_ (n + 1) := fun t s ht hs hn => by
 obtain ⟨s1, s2, s3⟩ := hs
 have hlen : s.left.length < 4611686018427387904 := by omega
 have L1 : t < 4 → okS2 (cu_ n (t + 1) s).2 ∧ (cu_ n (t + 1) s).2.left.length ≤ s.left.length := fun _ => ⟨v2_ ⟨s1, s2, s3⟩ n (t + 1), (xq_ n).1 (t + 1) s⟩
 have LJ : ∀ q : Nat × E × RS, okS2 q.2.2 → 10 * q.2.2.left.length + 1 ≤ q.1 → q.1 ≤ n → q.2.2.left ≠ [] → t < 4 → ACall En 171 [.pt 0 3 0 0, .i .i64 ((t + 1 : Nat) : Int)] [rsB (b6_ q.2.2)] [.ag (eC (cu_ (q.1 - 1) (t + 1) (b6_ q.2.2)).1)] [rsB (cu_ (q.1 - 1) (t + 1) (b6_ q.2.2)).2] := fun q h1 h2 h3 h4 h5 => by
  have := iu_ h4
  exact ihL (q.1 - 1) (by omega) (t + 1) (b6_ q.2.2) (by omega) (ik_ h1) (by omega)
 have hw : IntKind.i64.wrap ((t : Int) + 1) = ((t + 1 : Nat) : Int) := by rw [bc_ (by omega) (by omega)]; rfl
 refine ah_ (fn := Tryz.f171) [0] Tryz.func171 rfl rfl (by simp) fun C => ?_
 rw [ar_]
 simp only [Tryz.ntmps171, List.length_cons, List.length_nil, Nat.reduceAdd, Nat.reduceSub, List.replicate_succ, List.replicate_zero, List.cons_append, List.nil_append, bd_]
 refine .seq (.rgn [] (by simp only [go_sem, seval, asO, as_, ay_, hw, ab_]; rfl) ?_ ?_)
 ·first | trivial | simp
 refine .seq (.seq (.rgn [] (by simp only [go_sem, seval, asO, as_, ay_, hw, ab_]; rfl) ?_ ?_))
 ·first | trivial | simp
 refine .condB (by simp only [go_sem, seval, asO, as_, ay_, hw, ab_]; rfl) (by simp only [go_sem, seval, asO, as_, ay_, hw, ab_]) (fun h8 => ?_) (fun h8 => ?_)
 ·refine .seq (.rgn [cz_ [0] [] (ihH n (by omega) s ⟨s1, s2, s3⟩ (by simp at h8; omega))] (by simp only [go_sem, seval, asO, as_, ay_, hw, ab_]; rfl) ?_ ?_)
  ·first | trivial | simp
  refine .ret ⟨.inr rfl, ?_⟩
  exact Out.mem' (by simp only [Tryz.results171]; rfl) (by simp only [aq_, a8_, go_sem, seval, asO, as_, ay_, hw, ab_]) (by simp only [a7_, rns, rn, go_sem, seval, asO, as_, ay_, hw, ab_] <;> ((obtain rfl : t = 4 := (by simp at h8; omega)); simp [nc_])) (by simp) rfl (by decide) (by simp only [go_sem, seval, asO, as_, ay_, hw, ab_]) (by simp only [ay_, go_sem, seval, asO, as_, ay_, hw, ab_]) (by simp only [as_, go_sem, seval, asO, as_, ay_, hw, ab_] <;> ((obtain rfl : t = 4 := (by simp at h8; omega)); simp [nc_]))
 ·refine .skip (.seq (.rgn [cz_ [0] [] (ihL n (by omega) (t + 1) s (by simp at h8; omega) ⟨s1, s2, s3⟩ (by simp at h8; omega))] (by simp only [go_sem, seval, asO, as_, ay_, hw, ab_]; rfl) ?_ ?_))
  ·first | trivial | simp
  refine .seq (.block (.loopK (fun q : Nat × E × RS => ⟨[.pt 0 3 0 0, .i .i64 t, .no, .no, .pt 14 4 0 0, .pt 15 4 0 0, .no, .no, .no, .no, .no, .no, .no, .no, .no, .no, .no, .no, .no, .no, .no, .no, .no, .no, .no, .no, .no, .no, .no, .no, .no, .no, .no, .no, .no, .no, .no, .no, .no, .no, .no, .no, .no, .no, .no, .no, .no, .no, .no, .no], aw_ [(0, rsB q.2.2), (14, ⟨48, 4, [[.i .i64 0, .i .i64 0, .s [], .sl true []]]⟩), (15, ⟨48, 4, [eC q.2.1]⟩)], us [14, 15]⟩) (fun q : Nat × E × RS => LI n t s q) (fun q : Nat × E × RS => q.2.2.left.length) ((n, (cu_ n (t + 1) s).1, (cu_ n (t + 1) s).2)) ?_ ?_ (fun q hI => ?_)))
  ·exact ⟨(L1 (by simp at h8; omega)).1, by have := (L1 (by simp at h8; omega)).2; dsimp only; simp at h8; omega, Nat.le_refl _, rfl⟩
  ·exact Can.weak (Weak.lit (by simp only [go_sem, seval, asO, as_, ay_, hw, ab_, an_, leV, al_, am_, V.inn, us, true_or, or_true]) (by simp only [go_sem, seval, asO, as_, ay_, hw, ab_, an_, leV, al_, am_, V.inn, us, true_or, or_true]) (by simp only [go_sem, seval, asO, as_, ay_, hw, ab_, an_, leV, al_, am_, V.inn, us, true_or, or_true]))
  refine .seq (.seq (.rgnS [34] [asO En { v := .s (ch_ q.2.2) }, a2_ (is_ (ch_ q.2.2))] (by simp only [go_sem, seval, asO, as_, ay_, hw, ab_]; rfl) ?_ ?_))
  ·exact ⟨fun h => ⟨h, aht_ h, ua_ (acu_ h)⟩, fun h => ⟨⟨h, by rw [ua_ (acu_ h)]; exact Nat.le_refl _⟩, by rw [agu_ (acu_ h)]⟩⟩
  refine .condB (by simp only [go_sem, seval, asO, as_, ay_, hw, ab_]; rfl) (by simp only [go_sem, seval, asO, as_, ay_, hw, ab_]) (fun h38 => ?_) (fun h38 => ?_)
  ·refine .skip (.block (.seq (.rgn [cz_ [0] [] (ln_ q.2.2 (by have := hI.1.2; omega))] (by simp only [go_sem, seval, asO, as_, ay_, hw, ab_]; rfl) ?_ ?_)))
   ·first | trivial | simp
   refine .rgnD [cz_ [0] [] (LJ q hI.1 hI.2.1 hI.2.2.1 (by simp at h38; intro e; simp [e] at h38) (by simp at h8; omega))] enM (by simp only [go_sem, seval, asO, as_, ay_, hw, ab_]; rfl) (by rfl) ?_ ?_
   ·first | trivial | simp
   refine Exists.intro (LN t q) ⟨?_, ?_, ?_⟩
   ·exact (tk_ hI h38).1
   ·exact (tk_ hI h38).2
   refine Can.trans (Can.leAt 15 ([[.i .i64 3, .i .i64 0, .s (ch_ q.2.2), .sl false [eC q.2.1, eC (cu_ (q.1 - 1) (t + 1) (b6_ q.2.2)).1]]]) (by simp only [go_sem, seval, asO, as_, ay_, hw, ab_] <;> rfl) (by simp only [go_sem, seval, asO, as_, ay_, hw, ab_, ler, les, leV] <;> (first | trivial | simp)) (by simp only [go_sem, seval, asO, as_, ay_, hw, ab_] <;> rfl)) ?_
   exact Can.weak (Weak.lit (by simp only [go_sem, seval, asO, as_, ay_, hw, ab_, an_, leV, al_, am_, V.inn, us, true_or, or_true]) (by simp only [go_sem, seval, asO, as_, ay_, hw, ab_, an_, leV, al_, am_, V.inn, us, true_or, or_true]) (by simp only [go_sem, seval, asO, as_, ay_, hw, ab_, an_, leV, al_, am_, V.inn, us, true_or, or_true] <;> (simp [LN, E.kind, E.n, E.s, E.kids, eR, a3_])))
  ·refine .exit (.seq (.rgn [] (by simp only [go_sem, seval, asO, as_, ay_, hw, ab_]; rfl) ?_ ?_))
   ·first | trivial | simp
   refine .ret ⟨.inr rfl, ?_⟩
   exact Out.mem' (by simp only [Tryz.results171]; rfl) (by simp only [aq_, a8_, go_sem, seval, asO, as_, ay_, hw, ab_]) (by simp only [a7_, rns, rn, go_sem, seval, asO, as_, ay_, hw, ab_] <;> (rw [xb_ h8 hI h38])) (by simp) rfl (by decide) (by simp only [go_sem, seval, asO, as_, ay_, hw, ab_]) (by simp only [ay_, go_sem, seval, asO, as_, ay_, hw, ab_]) (by simp only [as_, go_sem, seval, asO, as_, ay_, hw, ab_] <;> (rw [xb_ h8 hI h38]; (try simp)))
end
section
set_option maxRecDepth 100000
set_option maxHeartbeats 8000000
theorem aca_ {s : RS} {e : E} (h : (!s.bad && (!s.left.isEmpty && ch_ s == wAs)) = true) : asR s e = asR (b6_ (b6_ s)) (.mk 4 0 (ch_ (b6_ s)) [e]) ∧ s.left ≠ [] := by
 obtain ⟨left, bad, deep⟩ := s
 cases left with
 | nil => simp at h
 | cons x r =>
  simp only [Bool.and_eq_true, Bool.not_eq_true', beq_iff_eq, ch_] at h
  obtain ⟨rfl, _, rfl⟩ := h
  refine ⟨?_, by simp⟩
  cases r with
  | nil => simp [asR, asL, b6_, ch_]
  | cons t r => simp [asR, asL, b6_, ch_]
theorem aa8_ {s : RS} {e : E} (h : (!s.bad && (!s.left.isEmpty && ch_ s == wAs)) = false) : asR s e = (e, s) := by
 obtain ⟨left, bad, deep⟩ := s
 cases bad with
 | true => simp [asR]
 | false =>
  match left with
  | [] => simp [asR, asL]
  | [x] => simp [ch_] at h; simp [asR, asL, h]
  | x :: t :: r => simp [ch_] at h; simp [asR, asL, h]
def HS (s : RS) : RS := ⟨(b6_ s).left, (b6_ s).bad || decide ((b6_ s).deep + 1 > 40), (b6_ s).deep + 1⟩
def HP (m : Nat) (s : RS) : E × RS := if (HS s).bad then (E0, HS s) else cu_ m 1 (HS s)
def HQ (q : E × RS) : E × RS := (q.1, if q.2.bad then q.2 else { b6_ q.2 with bad := !(ch_ q.2 == [41]) })
theorem abj_ {m : Nat} {s : RS} (h : (!((b6_ s).bad || decide ((b6_ s).deep + 1 > 40))) = true) : HP m s = cu_ m 1 (HS s) := by
 unfold HP
 have : (HS s).bad = false := by simpa [HS] using h
 rw [this]; rfl
theorem acx_ {m : Nat} {s : RS} (h : (!((b6_ s).bad || decide ((b6_ s).deep + 1 > 40))) = false) : HP m s = (E0, HS s) := by
 unfold HP
 have : (HS s).bad = true := by simp only [Bool.not_eq_false'] at h; exact h
 rw [this]; rfl
theorem i3_ {m : Nat} {s : RS} : eg_ (m + 1) [40] (b6_ s) = HQ (HP m s) := by
 simp only [eg_, if_true]
 by_cases h : (b6_ s).bad = true ∨ 40 < (b6_ s).deep + 1
 ·rw [if_pos h]
  have hx : ((b6_ s).bad || decide ((b6_ s).deep + 1 > 40)) = true := by simpa using h
  rw [acx_ (by rw [hx]; rfl)]
  simp only [HQ, HS, hx, if_true]
 ·rw [if_neg h]
  have hx : ((b6_ s).bad || decide ((b6_ s).deep + 1 > 40)) = false := by simp at h ⊢; exact ⟨h.1, by omega⟩
  have hb : (b6_ s).bad = false := by simp at h; exact h.1
  have e : HS s = { b6_ s with deep := (b6_ s).deep + 1 } := by unfold HS; rw [hx, ← hb]
  rw [abj_ (by rw [hx]; rfl), e]; rfl
theorem h8_ {n : Nat} {w : Str} {s : RS} (h : w ≠ [40]) (h1 : c2_ w = false) (h2 : f8_ w = false) : eg_ (n + 1) w s = (E0, { s with bad := true }) := by simp [eg_, h, h1, h2]
theorem h4_ {s : RS} (h : okS2 s) (b : Bool) : okS2 { s with bad := b } := h
theorem sg_ {s : RS} (h : okS2 s) (hn : s.left ≠ []) : okS2 (HS s) := by
 have := iu_ hn
 have h1 := ik_ h
 exact ⟨h1.1, by have := h1.2.1; simp only [HS]; omega, by have := oo_ s; have := h.2.2; simp only [HS]; omega⟩
theorem xm_ {s : RS} (h : okS2 s) (hn : s.left ≠ []) (m : Nat) : okS2 (HP m s).2 := by
 unfold HP; split
 ·exact sg_ h hn
 ·exact v2_ (sg_ h hn) m 1
theorem ll_ {q : E × RS} (h : okS2 q.2) : okS2 (HQ q).2 := by
 unfold HQ; dsimp only; split
 ·exact h
 ·exact h4_ (ik_ h) _
theorem rf_ {s : RS} (h : ch_ s ≠ []) : s.left ≠ [] := by unfold ch_ at h; intro e; rw [e] at h; exact h rfl
theorem df_ {n : Nat} {s : RS} {q : E × RS} (h : eg_ n (ch_ s) (b6_ s) = q) : e5_ (n + 1) s = asR q.2 q.1 := by simp only [e5_, h]
theorem ae1_ (s : Str) : d2_ (ip_ s) = true := by unfold ip_; split <;> rfl
theorem yl_ (m : Nat) (ihL : ∀ j, j < m + 2 → wy_ j) : we_ (m + 2) := fun s hs hn => by
 have h1 := ik_ hs
 have hd := oo_ s
 have hl1 := gn_ s
 have hb := hs.2.2
 have hb0 := hs.2.1
 have hH := (g3_ hs.1).2
 have hw : IntKind.i64.wrap ((b6_ s).deep + 1) = (b6_ s).deep + 1 := bc_ (by omega) (by omega)
 have hnv : c2_ (ch_ s) = true → ip_ (ch_ s) = .i .i64 (b8_ (ch_ s)) := fun h => by simp [ip_, h]
 have LB : s.left ≠ [] → ACall En 171 [.pt 0 3 0 0, .i .i64 ((1 : Nat) : Int)] [rsB (HS s)] [.ag (eC (cu_ m 1 (HS s)).1)] [rsB (cu_ m 1 (HS s)).2] := fun h => ihL m (by omega) 1 (HS s) (by omega) (sg_ hs h) (by have := iu_ h; show 10 * (b6_ s).left.length + 10 - 1 ≤ m; omega)
 refine ah_ (fn := Tryz.f206) [0] Tryz.func206 rfl rfl (by simp) fun C => ?_
 rw [ar_]
 simp only [Tryz.ntmps206, List.length_cons, List.length_nil, Nat.reduceAdd, Nat.reduceSub, List.replicate_succ, List.replicate_zero, List.cons_append, List.nil_append, bd_]
 refine .seq (.rgn [] (by simp only [go_sem, seval, as_, ay_, hw]; rfl) ?_ ?_)
 ·first | trivial | simp
 refine .seq (.rgn [] (by simp only [go_sem, seval, as_, ay_, hw]; rfl) ?_ ?_)
 ·first | trivial | simp
 refine .seq (.rgn [cz_ [0] [] (ln_ s (by omega))] (by simp only [go_sem, seval, as_, ay_, hw]; rfl) ?_ ?_)
 ·first | trivial | simp
 refine .seq (.rgn [a2_ (um_ (ch_ s) hH)] (by simp only [go_sem, seval, as_, ay_, hw]; rfl) ?_ ?_)
 ·exact ⟨ce_ _, ae1_ _⟩
 refine .seqJ (fun q2 : E × RS => ⟨[.pt 0 3 0 0, .no, .pt 12 4 0 0, .pt 13 4 0 0, .no, .no, .no, .no, .no, .no, .no, .no, .no, .no, .no, .no, .no, .no, .no, .no, .no, .no, .no, .no, .no, .no, .no, .no, .no, .no, .no, .no, .no, .no, .no, .no, .no, .no, .no, .no, .no, .no, .no, .no, .no, .no, .no, .no, .no, .no, .no, .no, .no, .no, .no, .no, .no, .no, .no, .no, .no, .no, .no, .no, .no, .no, .no, .no, .no, .no, .no, .no, .no, .no, .no, .no, .no, .no, .no, .no], aw_ [(0, rsB q2.2), (12, ⟨48, 4, [[.i .i64 0, .i .i64 0, .s [], .sl true []]]⟩), (13, ⟨48, 4, [eC q2.1]⟩)], us [12, 13]⟩) (fun q2 : E × RS => e5_ (m + 2) s = asR q2.2 q2.1 ∧ okS2 q2.2) ?_ (fun q2 hJ => ?_)
 ·refine .block (.seq (.rgn [] (by simp only [go_sem, seval, as_, ay_, hw]; rfl) ?_ ?_))
  ·first | trivial | simp
  refine .condB (by simp only [go_sem, seval, as_, ay_, hw]; rfl) (by simp only [go_sem, seval, as_, ay_, hw]) (fun h17 => ?_) (fun h17 => ?_)
  ·refine .seq (.rgn [] (by simp only [go_sem, seval, as_, ay_, hw]; rfl) ?_ ?_)
   ·first | trivial | simp
   refine .seq (.rgn [] (by simp only [go_sem, seval, as_, ay_, hw]; rfl) ?_ ?_)
   ·first | trivial | simp
   refine .seqJ (fun q : E × RS => ⟨[.pt 0 3 0 0, .no, .pt 12 4 0 0, .pt 13 4 0 0, .no, .no, .no, .no, .no, .no, .no, .no, .no, .no, .no, .no, .no, .no, .no, .no, .no, .no, .no, .no, .no, .no, .no, .no, .no, .no, .no, .no, .no, .no, .no, .no, .no, .no, .no, .no, .no, .no, .no, .no, .no, .no, .no, .no, .no, .no, .no, .no, .no, .no, .no, .no, .no, .no, .no, .no, .no, .no, .no, .no, .no, .no, .no, .no, .no, .no, .no, .no, .no, .no, .no, .no, .no, .no, .no, .no], aw_ [(0, rsB q.2), (12, ⟨48, 4, [[.i .i64 0, .i .i64 0, .s [], .sl true []]]⟩), (13, ⟨48, 4, [eC q.1]⟩)], us [12, 13]⟩) (fun q : E × RS => q = HP m s ∧ okS2 q.2) ?_ (fun q hJ => ?_)
   ·refine .seq (.rgn [] (by simp only [go_sem, seval, as_, ay_, hw]; rfl) ?_ ?_)
    ·first | trivial | simp
    refine .condB (by simp only [go_sem, seval, as_, ay_, hw]; rfl) (by simp only [go_sem, seval, as_, ay_, hw]) (fun h45 => ?_) (fun h45 => ?_)
    ·refine .rgn [cz_ [0] [] (LB (rf_ (by simp at h17; rw [h17]; simp)))] (by simp only [go_sem, seval, as_, ay_, hw]; rfl) ?_ ?_
     ·first | trivial | simp
     refine Exists.intro (HP m s) ⟨?_, ?_⟩
     ·exact ⟨rfl, xm_ hs (rf_ (by simp at h17; rw [h17]; simp)) m⟩
     exact Can.weak (Weak.lit (by simp only [go_sem, seval, as_, ay_, hw, an_, leV, al_, am_, V.inn, us, true_or, or_true]) (by simp only [go_sem, seval, as_, ay_, hw, an_, leV, al_, am_, V.inn, us, true_or, or_true]) (by simp only [go_sem, seval, as_, ay_, hw, an_, leV, al_, am_, V.inn, us, true_or, or_true] <;> (first | (rw [abj_ h45]; simp; done) | (rw [acx_ h45]; simp [HS, E0, E.kind, E.n, E.s, E.kids, eR]; done))))
    ·refine .skip ?_
     refine Exists.intro (HP m s) ⟨?_, ?_⟩
     ·exact ⟨rfl, xm_ hs (rf_ (by simp at h17; rw [h17]; simp)) m⟩
     refine Can.trans (Can.leAt 13 ([[.i .i64 0, .i .i64 0, .s [], .sl false []]]) (by simp only [go_sem, seval, as_, ay_, hw] <;> rfl) (by simp only [go_sem, seval, as_, ay_, hw, ler, les, leV] <;> (first | trivial | simp)) (by simp only [go_sem, seval, as_, ay_, hw] <;> rfl)) ?_
     exact Can.weak (Weak.lit (by simp only [go_sem, seval, as_, ay_, hw, an_, leV, al_, am_, V.inn, us, true_or, or_true]) (by simp only [go_sem, seval, as_, ay_, hw, an_, leV, al_, am_, V.inn, us, true_or, or_true]) (by simp only [go_sem, seval, as_, ay_, hw, an_, leV, al_, am_, V.inn, us, true_or, or_true] <;> (first | (rw [abj_ h45]; simp; done) | (rw [acx_ h45]; simp [HS, E0, E.kind, E.n, E.s, E.kids, eR]; done))))
   cases hb : q.2.bad
   ·refine .rgn [cz_ [0] [] (ln_ q.2 (by have := (hJ.2 : okS2 q.2).2.2; have := (hJ.2 : okS2 q.2).2.1; omega))] (by simp only [go_sem, seval, as_, ay_, hw, hb]; rfl) ?_ ?_
    ·(first | trivial | (simp; done) | (simp [hb]; done))
    refine Exists.intro (HQ q) ⟨?_, ?_⟩
    ·first | exact ⟨df_ (by rw [show ch_ s = [40] from by simpa using h17, i3_, hJ.1]), ll_ hJ.2⟩ | exact ⟨df_ (gq_ (by simpa using h17) (by simpa using h60)), h1⟩ | exact ⟨df_ (ft_ (by simpa using h17) (by simpa using h60) (by simpa using h64)), h1⟩ | exact ⟨df_ (h8_ (by simpa using h17) (by simpa using h60) (by simpa using h64)), h4_ h1 true⟩
    exact Can.weak (Weak.lit (by simp only [go_sem, seval, as_, ay_, hw, an_, leV, al_, am_, V.inn, us, true_or, or_true]) (by simp only [go_sem, seval, as_, ay_, hw, an_, leV, al_, am_, V.inn, us, true_or, or_true]) (by simp only [go_sem, seval, as_, ay_, hw, an_, leV, al_, am_, V.inn, us, true_or, or_true] <;> (first | (simp [HQ, hb]; done) | (simp [E.kind, E.n, E.s, E.kids, eR]; done) | (simp [E0, E.kind, E.n, E.s, E.kids, eR]; done))))
   ·refine .rgn [cz_ [0] [] (ln_ q.2 (by have := (hJ.2 : okS2 q.2).2.2; have := (hJ.2 : okS2 q.2).2.1; omega))] (by simp only [go_sem, seval, as_, ay_, hw, hb]; rfl) ?_ ?_
    ·(first | trivial | (simp; done) | (simp [hb]; done))
    refine Exists.intro (HQ q) ⟨?_, ?_⟩
    ·first | exact ⟨df_ (by rw [show ch_ s = [40] from by simpa using h17, i3_, hJ.1]), ll_ hJ.2⟩ | exact ⟨df_ (gq_ (by simpa using h17) (by simpa using h60)), h1⟩ | exact ⟨df_ (ft_ (by simpa using h17) (by simpa using h60) (by simpa using h64)), h1⟩ | exact ⟨df_ (h8_ (by simpa using h17) (by simpa using h60) (by simpa using h64)), h4_ h1 true⟩
    exact Can.weak (Weak.lit (by simp only [go_sem, seval, as_, ay_, hw, an_, leV, al_, am_, V.inn, us, true_or, or_true]) (by simp only [go_sem, seval, as_, ay_, hw, an_, leV, al_, am_, V.inn, us, true_or, or_true]) (by simp only [go_sem, seval, as_, ay_, hw, an_, leV, al_, am_, V.inn, us, true_or, or_true] <;> (first | (simp [HQ, hb]; done) | (simp [E.kind, E.n, E.s, E.kids, eR]; done) | (simp [E0, E.kind, E.n, E.s, E.kids, eR]; done))))
  ·refine .seq (.rgn [] (by simp only [go_sem, seval, as_, ay_, hw]; rfl) ?_ ?_)
   ·first | trivial | simp
   refine .condB (by simp only [go_sem, seval, as_, ay_, hw]; rfl) (by simp only [go_sem, seval, as_, ay_, hw]) (fun h60 => ?_) (fun h60 => ?_)
   ·refine .rgn [] (by simp only [go_sem, seval, as_, ay_, hw, hnv (by simpa using h60)]; rfl) ?_ ?_
    ·first | trivial | simp
    refine Exists.intro ((.mk 1 (b8_ (ch_ s)) [] [], b6_ s)) ⟨?_, ?_⟩
    ·first | exact ⟨df_ (by rw [show ch_ s = [40] from by simpa using h17, i3_, hJ.1]), ll_ hJ.2⟩ | exact ⟨df_ (gq_ (by simpa using h17) (by simpa using h60)), h1⟩ | exact ⟨df_ (ft_ (by simpa using h17) (by simpa using h60) (by simpa using h64)), h1⟩ | exact ⟨df_ (h8_ (by simpa using h17) (by simpa using h60) (by simpa using h64)), h4_ h1 true⟩
    refine Can.trans (Can.leAt 13 ([[.i .i64 1, .i .i64 (b8_ (ch_ s)), .s [], .sl false []]]) (by simp only [go_sem, seval, as_, ay_, hw] <;> rfl) (by simp only [go_sem, seval, as_, ay_, hw, ler, les, leV] <;> (first | trivial | simp)) (by simp only [go_sem, seval, as_, ay_, hw] <;> rfl)) ?_
    exact Can.weak (Weak.lit (by simp only [go_sem, seval, as_, ay_, hw, an_, leV, al_, am_, V.inn, us, true_or, or_true]) (by simp only [go_sem, seval, as_, ay_, hw, an_, leV, al_, am_, V.inn, us, true_or, or_true]) (by simp only [go_sem, seval, as_, ay_, hw, an_, leV, al_, am_, V.inn, us, true_or, or_true] <;> (first | (simp [HQ, hb]; done) | (simp [E.kind, E.n, E.s, E.kids, eR]; done) | (simp [E0, E.kind, E.n, E.s, E.kids, eR]; done))))
   ·refine .seq (.rgn [a2_ (ot_ (ch_ s) (by omega))] (by simp only [go_sem, seval, as_, ay_, hw]; rfl) ?_ ?_)
    ·first | trivial | simp
    refine .condB (by simp only [go_sem, seval, as_, ay_, hw]; rfl) (by simp only [go_sem, seval, as_, ay_, hw]) (fun h64 => ?_) (fun h64 => ?_)
    ·refine .rgn [] (by simp only [go_sem, seval, as_, ay_, hw]; rfl) ?_ ?_
     ·first | trivial | simp
     refine Exists.intro ((.mk 2 0 (ch_ s) [], b6_ s)) ⟨?_, ?_⟩
     ·first | exact ⟨df_ (by rw [show ch_ s = [40] from by simpa using h17, i3_, hJ.1]), ll_ hJ.2⟩ | exact ⟨df_ (gq_ (by simpa using h17) (by simpa using h60)), h1⟩ | exact ⟨df_ (ft_ (by simpa using h17) (by simpa using h60) (by simpa using h64)), h1⟩ | exact ⟨df_ (h8_ (by simpa using h17) (by simpa using h60) (by simpa using h64)), h4_ h1 true⟩
     refine Can.trans (Can.leAt 13 ([[.i .i64 2, .i .i64 0, .s (ch_ s), .sl false []]]) (by simp only [go_sem, seval, as_, ay_, hw] <;> rfl) (by simp only [go_sem, seval, as_, ay_, hw, ler, les, leV] <;> (first | trivial | simp)) (by simp only [go_sem, seval, as_, ay_, hw] <;> rfl)) ?_
     exact Can.weak (Weak.lit (by simp only [go_sem, seval, as_, ay_, hw, an_, leV, al_, am_, V.inn, us, true_or, or_true]) (by simp only [go_sem, seval, as_, ay_, hw, an_, leV, al_, am_, V.inn, us, true_or, or_true]) (by simp only [go_sem, seval, as_, ay_, hw, an_, leV, al_, am_, V.inn, us, true_or, or_true] <;> (first | (simp [HQ, hb]; done) | (simp [E.kind, E.n, E.s, E.kids, eR]; done) | (simp [E0, E.kind, E.n, E.s, E.kids, eR]; done))))
    ·refine .rgn [] (by simp only [go_sem, seval, as_, ay_, hw]; rfl) ?_ ?_
     ·first | trivial | simp
     refine Exists.intro ((E0, { b6_ s with bad := true })) ⟨?_, ?_⟩
     ·first | exact ⟨df_ (by rw [show ch_ s = [40] from by simpa using h17, i3_, hJ.1]), ll_ hJ.2⟩ | exact ⟨df_ (gq_ (by simpa using h17) (by simpa using h60)), h1⟩ | exact ⟨df_ (ft_ (by simpa using h17) (by simpa using h60) (by simpa using h64)), h1⟩ | exact ⟨df_ (h8_ (by simpa using h17) (by simpa using h60) (by simpa using h64)), h4_ h1 true⟩
     refine Can.trans (Can.leAt 13 ([[.i .i64 0, .i .i64 0, .s [], .sl false []]]) (by simp only [go_sem, seval, as_, ay_, hw] <;> rfl) (by simp only [go_sem, seval, as_, ay_, hw, ler, les, leV] <;> (first | trivial | simp)) (by simp only [go_sem, seval, as_, ay_, hw] <;> rfl)) ?_
     exact Can.weak (Weak.lit (by simp only [go_sem, seval, as_, ay_, hw, an_, leV, al_, am_, V.inn, us, true_or, or_true]) (by simp only [go_sem, seval, as_, ay_, hw, an_, leV, al_, am_, V.inn, us, true_or, or_true]) (by simp only [go_sem, seval, as_, ay_, hw, an_, leV, al_, am_, V.inn, us, true_or, or_true] <;> (first | (simp [HQ, hb]; done) | (simp [E.kind, E.n, E.s, E.kids, eR]; done) | (simp [E0, E.kind, E.n, E.s, E.kids, eR]; done))))
 refine .seq (.block (.loopK (fun p : E × RS => ⟨[.pt 0 3 0 0, .no, .pt 12 4 0 0, .pt 13 4 0 0, .no, .no, .no, .no, .no, .no, .no, .no, .no, .no, .no, .no, .no, .no, .no, .no, .no, .no, .no, .no, .no, .no, .no, .no, .no, .no, .no, .no, .no, .no, .no, .no, .no, .no, .no, .no, .no, .no, .no, .no, .no, .no, .no, .no, .no, .no, .no, .no, .no, .no, .no, .no, .no, .no, .no, .no, .no, .no, .no, .no, .no, .no, .no, .no, .no, .no, .no, .no, .no, .no, .no, .no, .no, .no, .no, .no], aw_ [(0, rsB p.2), (12, ⟨48, 4, [[.i .i64 0, .i .i64 0, .s [], .sl true []]]⟩), (13, ⟨48, 4, [eC p.1]⟩)], us [12, 13]⟩) (fun p : E × RS => asR q2.2 q2.1 = asR p.2 p.1 ∧ okS2 p.2) (fun p : E × RS => p.2.left.length) (q2) ?_ ?_ (fun p hI => ?_)))
 ·exact ⟨rfl, hJ.2⟩
 ·exact Can.weak (Weak.lit (by simp only [go_sem, seval, as_, ay_, hw, an_, leV, al_, am_, V.inn, us, true_or, or_true]) (by simp only [go_sem, seval, as_, ay_, hw, an_, leV, al_, am_, V.inn, us, true_or, or_true]) (by simp only [go_sem, seval, as_, ay_, hw, an_, leV, al_, am_, V.inn, us, true_or, or_true]))
 refine .seq (.seq (.rgn [cz_ [0] [] (at_a p.2 (by have := hI.2.2.2; have := hI.2.2.1; omega))] (by simp only [go_sem, seval, as_, ay_, hw]; rfl) ?_ ?_))
 ·first | trivial | simp
 refine .condB (by simp only [go_sem, seval, as_, ay_, hw]; rfl) (by simp only [go_sem, seval, as_, ay_, hw]) (fun h71 => ?_) (fun h71 => ?_)
 ·refine .skip (.block (.seq (.rgn [cz_ [0] [] (ln_ p.2 (by have := hI.2.2.2; have := hI.2.2.1; omega))] (by simp only [go_sem, seval, as_, ay_, hw]; rfl) ?_ ?_)))
  ·first | trivial | simp
  refine .rgnD [cz_ [0] [] (ln_ (b6_ p.2) (by have := hI.2.2.2; have := hI.2.2.1; have := gn_ p.2; omega))] enM (by simp only [go_sem, seval, as_, ay_, hw]; rfl) (by rfl) ?_ ?_
  ·first | trivial | simp
  refine Exists.intro ((.mk 4 0 (ch_ (b6_ p.2)) [p.1], b6_ (b6_ p.2))) ⟨?_, ?_, ?_⟩
  ·exact ⟨by rw [hI.1, (aca_ h71).1], ik_ (ik_ hI.2)⟩
  ·have q1 := iu_ (aca_ (e := p.1) h71).2; have q2 := gn_ (b6_ p.2); dsimp only; omega
  refine Can.trans (Can.leAt 13 ([[.i .i64 4, .i .i64 0, .s (ch_ (b6_ p.2)), .sl false [eC p.1]]]) (by simp only [go_sem, seval, as_, ay_, hw] <;> rfl) (by simp only [go_sem, seval, as_, ay_, hw, ler, les, leV] <;> (first | trivial | simp)) (by simp only [go_sem, seval, as_, ay_, hw] <;> rfl)) ?_
  exact Can.weak (Weak.lit (by simp only [go_sem, seval, as_, ay_, hw, an_, leV, al_, am_, V.inn, us, true_or, or_true]) (by simp only [go_sem, seval, as_, ay_, hw, an_, leV, al_, am_, V.inn, us, true_or, or_true]) (by simp only [go_sem, seval, as_, ay_, hw, an_, leV, al_, am_, V.inn, us, true_or, or_true] <;> (simp [E.kind, E.n, E.s, E.kids, eR, a3_])))
 ·refine .exit (.seq (.rgn [] (by simp only [go_sem, seval, as_, ay_, hw]; rfl) ?_ ?_))
  ·first | trivial | simp
  refine .ret ⟨.inr rfl, ?_⟩
  exact Out.mem' (by simp only [Tryz.results206]; rfl) (by simp only [aq_, a8_, go_sem, seval, as_, ay_, hw]) (by simp only [a7_, rns, rn, go_sem, seval, as_, ay_, hw] <;> (rw [hJ.1, hI.1, aa8_ h71])) (by simp) rfl (by decide) (by simp only [go_sem, seval, as_, ay_, hw]) (by simp only [ay_, go_sem, seval, as_, ay_, hw]) (by simp only [as_, go_sem, seval, as_, ay_, hw] <;> (rw [hJ.1, hI.1, aa8_ h71]; (try simp)))
theorem ac6_ (n : Nat) : wy_ n ∧ we_ n := by
 induction n using Nat.strongRecOn with
 | ind n ih =>
 refine ⟨?_, ?_⟩
 ·cases n with
  | zero => intro t s ht hs hn; omega
  | succ n => exact vz_ n (fun j hj => (ih j hj).1) (fun j hj => (ih j hj).2)
 ·match n with
  | 0 => intro s hs hn; omega
  | 1 => intro s hs hn; omega
  | m + 2 => exact yl_ m (fun j hj => (ih j hj).1)
end
section
set_option maxRecDepth 100000
set_option maxHeartbeats 8000000
theorem sc_ (e : E) (h : eok e = true) (hs : sm e = true) : ACall En 173 [.ag (eC e)] [] [.sl false (bm_ (wds e 1))] [] := by
 have hf := bk_ h
 have hm : many e ((5 : Nat) : Int) ≤ 12 := h3_ h
 have hw := db_ 5 e 0 hf
 have W : ACall En 144 [.ag (eC e), .i .i64 0, .pt 0 1 0 0] [⟨3, 1, [[.i .i64 0]]⟩] [.sl false (wdR (src e 0 0))] [⟨3, 1, [[.i .i64 (0 + cnt e)]]⟩] :=
  ACall.frzL (Lr := [⟨3, 1, [[.i .i64 (0 + cnt e)]]⟩]) (k0_ 5 e 0 0 hf hs (by omega) (by decide) (by omega) (by decide)) (by simp) (by simp [f7_, frz, ae_, List.take_of_length_le])
 have hl : (src e 0 0).length ≤ 1000000 := by rw [show (src e 0 0).length = (wds e 0).length by rw [← ej_ e 0 0, List.length_map]]; omega
 refine ah_ (fn := Tryz.f173) [] Tryz.func173 rfl rfl (by simp) fun C => ?_
 rw [ar_]
 simp only [Tryz.ntmps173, List.length_cons, List.length_nil, Nat.reduceAdd, Nat.reduceSub, List.replicate_succ, List.replicate_zero, List.cons_append, List.nil_append, bd_]
 refine .seq (.rgn [] (by simp only [go_sem, seval, as_, ay_, ad_]; rfl) ?_ ?_)
 ·first | trivial | simp
 refine .seq (.seq (.rgn [a2_ (gs_ e hs)] (by simp only [go_sem, seval, as_, ay_, ad_]; rfl) ?_ ?_))
 ·first | trivial | simp
 refine .condB (by simp only [go_sem, seval, as_, ay_, ad_]; rfl) (by simp only [go_sem, seval, as_, ay_, ad_]) (fun h6 => ?_) (fun h6 => ?_)
 ·simp [h] at h6
 ·refine .skip (.seq (.rgn [] (by simp only [go_sem, seval, as_, ay_, ad_]; rfl) ?_ ?_))
  ·first | trivial | simp
  refine .seq (.rgn [cz_ [13] [] W, a2_ (iv_ (src e 0 0) hl)] (by simp only [go_sem, seval, as_, ay_, ad_]; rfl) ?_ ?_)
  ·first | trivial | simp
  refine .ret ⟨.inr rfl, ?_⟩
  exact Out.plain (by simp only [Tryz.results173]; rfl) (by simp only [aq_, a8_, go_sem, seval, as_, ay_, ad_] <;> (split <;> rfl)) (by simp only [a7_, go_sem, seval, as_, ay_, ad_] <;> (rw [ej_, ev_ hf])) (by simp only [go_sem, seval, as_, ay_, ad_])
theorem y5_ {a b : List Str} {k : Nat} (ha : k < a.length) (hb : k < b.length) (h : a.take k = b.take k) (e : a.getD k [] = b.getD k []) : a.take (k + 1) = b.take (k + 1) := by
 rw [List.take_add_one (l := a), List.take_add_one (l := b), h, List.getElem?_eq_getElem ha, List.getElem?_eq_getElem hb]
 rw [List.getD_eq_getElem?_getD, List.getD_eq_getElem?_getD, List.getElem?_eq_getElem ha, List.getElem?_eq_getElem hb] at e
 rw [show a[k] = b[k] by simpa using e]
theorem aev_ (a b : List Str) (ha : a.length ≤ 1000000000000) (hb : b.length ≤ 1000000000000) : ACall En 172 [.sl false (bm_ a), .sl false (bm_ b)] [] [.b (a == b)] [] := by
 refine ah_ (fn := Tryz.f172) [] Tryz.func172 rfl rfl (by simp) fun C => ?_
 rw [ar_]
 simp only [Tryz.ntmps172, List.length_cons, List.length_nil, Nat.reduceAdd, Nat.reduceSub, List.replicate_succ, List.replicate_zero, List.cons_append, List.nil_append, bd_]
 refine .seq (.rgn [] (by simp only [go_sem, seval, ab_, aa_]; rfl) ?_ ?_)
 ·first | trivial | simp
 refine .seq (.seq (.rgn [] (by simp only [go_sem, seval, ab_, aa_]; rfl) ?_ ?_))
 ·first | trivial | simp
 refine .condB (by simp only [go_sem, seval, ab_, aa_]; rfl) (by simp only [go_sem, seval, ab_, aa_]) (fun h10 => ?_) (fun h10 => ?_)
 ·refine .seq (.rgn [] (by simp only [go_sem, seval, ab_, aa_]; rfl) ?_ ?_)
  ·first | trivial | simp
  refine .ret ⟨.inr rfl, ?_⟩
  exact Out.plain (by simp only [Tryz.results172]; rfl) (by simp only [aq_, a8_, go_sem, seval, ab_, aa_] <;> (split <;> rfl)) (by simp only [a7_, go_sem, seval, ab_, aa_] <;> (have : a ≠ b := (fun e => by simp [e] at h10); simp [this])) (by simp only [go_sem, seval, ab_, aa_])
 ·refine .skip (.seq (.seq (.rgn [] (by simp only [go_sem, seval, ab_, aa_]; rfl) ?_ ?_)))
  ·first | trivial | simp
  refine .block (.loopK (fun k : Nat => ⟨[.sl false (bm_ a), .sl false (bm_ b), .no, .no, .no, .no, .no, .no, .no, .no, .no, .no, .i .i64 a.length, .i .i64 k, .no, .no, .no, .no, .no, .no, .no, .no, .no, .no, .no, .no], aw_ [], us []⟩) (fun k : Nat => k ≤ a.length ∧ a.take k = b.take k) (fun k : Nat => a.length - k) (0) ?_ ?_ (fun k hI => ?_))
  ·exact ⟨Nat.zero_le _, rfl⟩
  ·exact Can.weak (Weak.lit (by simp only [go_sem, seval, ab_, aa_, an_, leV, al_, am_, V.inn, us, true_or, or_true] <;> (simp)) (by simp only [go_sem, seval, ab_, aa_, an_, leV, al_, am_, V.inn, us, true_or, or_true]) (by simp only [go_sem, seval, ab_, aa_, an_, leV, al_, am_, V.inn, us, true_or, or_true]))
  refine .seq (.rgn [] (by simp only [go_sem, seval, ab_, aa_]; rfl) ?_ ?_)
  ·first | trivial | simp
  refine .seq (.condB (by simp only [go_sem, seval, ab_, aa_]; rfl) (by simp only [go_sem, seval, ab_, aa_]) (fun h14 => ?_) (fun h14 => ?_))
  ·refine .skip (.seq (.block (.seq (.rgn [] (by simp only [go_sem, seval, ab_, aa_]; rfl) ?_ ?_))))
   ·first | trivial | simp
   refine .seq (.rgnD [] enM (by simp only [go_sem, seval, ab_, aa_, co_ (show k < a.length by simpa using h14), co_ (show k < b.length by simp at h14 h10; omega)]; rfl) (by rfl) ?_ ?_)
   ·simp at h14 h10; simp; omega
   refine .condB (by simp only [go_sem, seval, ab_, aa_]; rfl) (by simp only [go_sem, seval, ab_, aa_]) (fun h24 => ?_) (fun h24 => ?_)
   ·refine .seq (.rgn [] (by simp only [go_sem, seval, ab_, aa_]; rfl) ?_ ?_)
    ·first | trivial | simp
    refine .ret ⟨.inr rfl, ?_⟩
    exact Out.plain (by simp only [Tryz.results172]; rfl) (by simp only [aq_, a8_, go_sem, seval, ab_, aa_] <;> (split <;> rfl)) (by simp only [a7_, go_sem, seval, ab_, aa_] <;> (have : a ≠ b := (fun e => by simp [e] at h24); simp [this])) (by simp only [go_sem, seval, ab_, aa_])
   ·refine .skip (.rgn [] (by simp only [go_sem, seval, ab_, aa_]; rfl) ?_ ?_)
    ·first | trivial | simp
    refine Exists.intro (k + 1) ⟨?_, ?_, ?_⟩
    ·simp only [decide_eq_true_eq] at h14; simp at h10; exact ⟨by omega, y5_ (by omega) (by omega) hI.2 (by simpa using h24)⟩
    ·simp at h14; omega
    exact Can.weak (Weak.lit (by simp only [go_sem, seval, ab_, aa_, an_, leV, al_, am_, V.inn, us, true_or, or_true] <;> (rw [bc_ (by simp at h14; omega) (by simp at h14; omega)]; simp)) (by simp only [go_sem, seval, ab_, aa_, an_, leV, al_, am_, V.inn, us, true_or, or_true]) (by simp only [go_sem, seval, ab_, aa_, an_, leV, al_, am_, V.inn, us, true_or, or_true]))
  ·refine .exit (.seq (.rgn [] (by simp only [go_sem, seval, ab_, aa_]; rfl) ?_ ?_))
   ·first | trivial | simp
   refine .ret ⟨.inr rfl, ?_⟩
   exact Out.plain (by simp only [Tryz.results172]; rfl) (by simp only [aq_, a8_, go_sem, seval, ab_, aa_] <;> (split <;> rfl)) (by simp only [a7_, go_sem, seval, ab_, aa_] <;> (simp only [decide_eq_false_iff_not] at h14; simp at h10; have q := hI.2; rw [List.take_of_length_le (by omega), List.take_of_length_le (by omega)] at q; simp [q])) (by simp only [go_sem, seval, ab_, aa_])
def j3_ (w : List Str) : Bool := (fc_ w).isSome
theorem hi_ (w : List Str) (hw : smW w) (hl : w.length ≤ 1000000) : ACall En 113 [.sl false (bm_ w)] [] [.ag (eC (ex w)), .b (j3_ w)] [] := by
 have hR : w.length ≤ 40 → ACall En 171 [.pt 0 3 0 0, .i .i64 ((1 : Nat) : Int)] [rsB ⟨w, false, 0⟩] [.ag (eC (cu_ 500 1 ⟨w, false, 0⟩).1)] [rsB (cu_ 500 1 ⟨w, false, 0⟩).2] := fun h => (ac6_ 500).1 1 ⟨w, false, 0⟩ (by decide) ⟨hw, Int.le_refl _, by dsimp only; omega⟩ (by dsimp only; omega)
 have hS := ((i_sm 500).1 1 ⟨w, false, 0⟩ hw).1
 have hE : fc_ w = if w.length ≤ 40 then (if ((cu_ 500 1 ⟨w, false, 0⟩).2.bad || !(cu_ 500 1 ⟨w, false, 0⟩).2.left.isEmpty || !eok (cu_ 500 1 ⟨w, false, 0⟩).1 || !(wds (cu_ 500 1 ⟨w, false, 0⟩).1 1 == w)) then none else some (cu_ 500 1 ⟨w, false, 0⟩).1) else none := rfl
 have hL := (xq_ 500).1 1 ⟨w, false, 0⟩
 generalize cu_ 500 1 ⟨w, false, 0⟩ = q at *
 have hq : (!q.2.left.isEmpty) = decide ((q.2.left.length : Int) > 0) := by cases q.2.left <;> simp
 rw [hq] at hE
 have n1 : decide ((w.length : Int) > 40) = true → fc_ w = none := fun h => by rw [hE, if_neg (by simp at h; omega)]
 have n2 : decide ((w.length : Int) > 40) = false → (q.2.bad || decide ((q.2.left.length : Int) > 0) || !eok q.1 || !(wds q.1 1 == w)) = true → fc_ w = none := fun h h2 => by rw [hE, if_pos (by simp at h; omega), if_pos h2]
 have n3 : decide ((w.length : Int) > 40) = false → (q.2.bad || decide ((q.2.left.length : Int) > 0) || !eok q.1 || !(wds q.1 1 == w)) = false → fc_ w = some q.1 := fun h h2 => by rw [hE, if_pos (by simp at h; omega), h2]; rfl
 refine ah_ (fn := Tryz.f113) [] Tryz.func113 rfl rfl (by simp) fun C => ?_
 rw [ar_]
 simp only [Tryz.ntmps113, List.length_cons, List.length_nil, Nat.reduceAdd, Nat.reduceSub, List.replicate_succ, List.replicate_zero, List.cons_append, List.nil_append, bd_]
 refine .seq (.rgn [] (by simp only [go_sem, seval, as_, ay_, ab_, aa_]; rfl) ?_ ?_)
 ·first | trivial | simp
 refine .seq (.seq (.rgn [] (by simp only [go_sem, seval, as_, ay_, ab_, aa_]; rfl) ?_ ?_))
 ·first | trivial | simp
 refine .condB (by simp only [go_sem, seval, as_, ay_, ab_, aa_]; rfl) (by simp only [go_sem, seval, as_, ay_, ab_, aa_]) (fun h8 => ?_) (fun h8 => ?_)
 ·refine .seq (.rgn [] (by simp only [go_sem, seval, as_, ay_, ab_, aa_]; rfl) ?_ ?_)
  ·first | trivial | simp
  refine .ret ⟨.inr rfl, ?_⟩
  exact Out.plainL (by simp only [Tryz.results113]; rfl) (by simp only [aq_, a8_, go_sem, seval, as_, ay_, ab_, aa_] <;> (split <;> rfl)) (by simp only [a7_, go_sem, seval, as_, ay_, ab_, aa_] <;> (simp [ex, j3_, n1 h8, E0, E.kind, E.n, E.s, E.kids, eR, ler])) (by simp only [go_sem, seval, as_, ay_, ab_, aa_])
 ·refine .skip (.seq (.rgn [] (by simp only [go_sem, seval, as_, ay_, ab_, aa_]; rfl) ?_ ?_))
  ·first | trivial | simp
  refine .seq (.rgn [cz_ [22] [] (hR (by simp at h8; omega))] (by simp only [go_sem, seval, as_, ay_, ab_, aa_]; rfl) ?_ ?_)
  ·first | trivial | simp
  refine .seq (.seq (.rgn [a2_ (gs_ q.1 hS), c1_ (eok q.1 = true) (fun h => sc_ q.1 h hS), c1_ (eok q.1 = true) (fun h => aev_ (wds q.1 1) w (by have := (cn_ h 1).2.1; omega) (by omega))] (by simp only [go_sem, seval, as_, ay_, ab_, aa_]; rfl) ?_ ?_))
  ·(have key : ∀ x : Bool, x = false → (!x) = true := (fun x h => by rw [h]; rfl)); exact ⟨⟨⟨⟨key _, key _⟩, fun h => ⟨h, by simp at h; exact h.2⟩⟩, fun h => ⟨h, by simp at h; exact h.2⟩⟩, key _⟩
  refine .condB (by simp only [go_sem, seval, as_, ay_, ab_, aa_]; rfl) (by simp only [go_sem, seval, as_, ay_, ab_, aa_]) (fun h38 => ?_) (fun h38 => ?_)
  ·refine .seq (.rgn [] (by simp only [go_sem, seval, as_, ay_, ab_, aa_]; rfl) ?_ ?_)
   ·first | trivial | simp
   refine .ret ⟨.inr rfl, ?_⟩
   exact Out.plainL (by simp only [Tryz.results113]; rfl) (by simp only [aq_, a8_, go_sem, seval, as_, ay_, ab_, aa_] <;> (split <;> rfl)) (by simp only [a7_, go_sem, seval, as_, ay_, ab_, aa_] <;> (simp [ex, j3_, n2 h8 h38, E0, E.kind, E.n, E.s, E.kids, eR, ler])) (by simp only [go_sem, seval, as_, ay_, ab_, aa_])
  ·refine .skip (.seq (.rgn [] (by simp only [go_sem, seval, as_, ay_, ab_, aa_]; rfl) ?_ ?_))
   ·first | trivial | simp
   refine .ret ⟨.inr rfl, ?_⟩
   exact Out.plainL (by simp only [Tryz.results113]; rfl) (by simp only [aq_, a8_, go_sem, seval, as_, ay_, ab_, aa_] <;> (split <;> rfl)) (by simp only [a7_, go_sem, seval, as_, ay_, ab_, aa_] <;> (simp [ex, j3_, n3 h8 h38, ba_])) (by simp only [go_sem, seval, as_, ay_, ab_, aa_])
end
end Go.Proofs.YtefmbmafdgedmaaGreatDoor
