/- Plain laws of the program's reader: brackets are counted, texts are not made longer. Conditions: none. -/
import Derived.Test.YtefmbmafdgedmaaGreatDoorKd
import Derived.Test.YtefmbmafdgedmaaGreatDoorKb
import Derived.Test.YtefmbmafdgedmaaGreatDoorKn
import Derived.Test.YtefmbmafdgedmaaGreatDoorKh
import Derived.Test.YtefmbmafdgedmaaGreatDoorKi
import Derived.Test.YtefmbmafdgedmaaGreatDoorKj
set_option linter.unusedVariables false
set_option linter.unusedSimpArgs false
namespace Go.Proofs.YtefmbmafdgedmaaGreatDoor
section
def Dn (s' s : RS) (k : Int) : Prop := s.deep ≤ s'.deep ∧ s'.deep + s'.left.length ≤ s.deep + s.left.length + k ∧ s'.left.length ≤ s.left.length
theorem Dn.refl (s : RS) : Dn s s 0 := ⟨Int.le_refl _, by omega, Nat.le_refl _⟩
theorem Dn.trans {a b c : RS} {k m : Int} (h : Dn a b k) (g : Dn b c m) : Dn a c (k + m) := ⟨by have := h.1; have := g.1; omega, by have := h.2.1; have := g.2.1; omega, by have := h.2.2; have := g.2.2; omega⟩
theorem Dn.le {a b : RS} {k m : Int} (h : Dn a b k) (hm : k ≤ m) : Dn a b m := ⟨h.1, by have := h.2.1; omega, h.2.2⟩
theorem Dn.next (s : RS) : Dn (cn_ s) s (if s.left = [] then 0 else -1) := by
 unfold cn_ Dn
 cases h : s.left with
 | nil => simp [h]
 | cons x r => simp [h]; omega
theorem Dn.nx (s : RS) : Dn (cn_ s) s 0 := (Dn.next s).le (by split <;> omega)
theorem Dn.as (s : RS) (e : E) : Dn (asR s e).2 s 0 := by
 have h1 := aax_ s e
 have h2 := ac6_ s e
 exact ⟨by omega, by omega, h1⟩
theorem Dn.bad (s : RS) (b : Bool) : Dn { s with bad := b } s 0 := ⟨Int.le_refl _, by dsimp only; omega, Nat.le_refl _⟩
theorem afp_ : ∀ n : Nat, (∀ t s, Dn (dg_ n t s).2 s 0) ∧ (∀ t e s, Dn (d9_ n t e s).2 s 0) ∧ (∀ s, Dn (fw_ n s).2 s 0) ∧ (∀ w s, Dn (e0_ n w s).2 s (if w = [40] then 1 else 0))
 | 0 => ⟨fun t s => by simp only [dg_]; exact Dn.refl s, fun t e s => by simp only [d9_]; exact Dn.refl s, fun s => by simp only [fw_]; exact Dn.refl s, fun w s => by simp only [e0_]; exact (Dn.refl s).le (by split <;> omega)⟩
 | n + 1 => by
  obtain ⟨h1, h2, h3, h4⟩ := afp_ n
  refine ⟨fun t s => ?_, fun t e s => ?_, fun s => ?_, fun w s => ?_⟩
  ·simp only [dg_]
   split
   ·exact h3 s
   ·exact ((h2 t _ _).trans (h1 (t + 1) s)).le (by omega)
  ·simp only [d9_]
   split
   ·exact (((h2 t _ _).trans (h1 (t + 1) _)).trans (Dn.nx s)).le (by omega)
   ·exact Dn.refl s
  ·simp only [fw_]
   refine (((Dn.as _ _).trans (h4 (c1_ s) (cn_ s))).trans (Dn.next s)).le ?_
   unfold c1_
   cases hl : s.left with
   | nil => simp
   | cons x r => simp only [reduceCtorEq, if_false]; split <;> omega
  ·simp only [e0_]
   split
   ·split
    ·exact ⟨by dsimp only; omega, by dsimp only; omega, Nat.le_refl _⟩
    ·have hD : Dn { s with deep := s.deep + 1 } s 1 := ⟨by dsimp only; omega, by dsimp only; omega, Nat.le_refl _⟩
     dsimp only
     split
     ·exact ((h1 1 _).trans hD).le (by omega)
     ·have q := ((Dn.nx (dg_ n 1 { s with deep := s.deep + 1 }).2).trans ((h1 1 _).trans hD)).le (m := 1) (by omega)
      exact ⟨q.1, q.2.1, q.2.2⟩
   ·split
    ·exact Dn.refl s
    ·split
     ·exact Dn.refl s
     ·exact Dn.bad s true
def smW (l : List Str) : Prop := ∀ w ∈ l, w.length ≤ 281474976710656
theorem ht_ {s : RS} (h : smW s.left) : smW (cn_ s).left ∧ (c1_ s).length ≤ 281474976710656 := by
 unfold cn_ c1_
 cases hl : s.left with
 | nil => simp [smW, hl]
 | cons x r => rw [hl] at h; exact ⟨fun w hw => h w (List.mem_cons_of_mem _ hw), h x List.mem_cons_self⟩
theorem yt_ {a b : E} {k n : Int} {s : Str} (hs : s.length < 4611686018427387904) (ha : sm a = true) (hb : sm b = true) : sm (.mk k n s [a, b]) = true := by simp [sm, sms, ha, hb, hs]
theorem yk_ {a : E} {k n : Int} {s : Str} (hs : s.length < 4611686018427387904) (ha : sm a = true) : sm (.mk k n s [a]) = true := by simp [sm, sms, ha, hs]
theorem pf_ {k n : Int} {s : Str} (hs : s.length < 4611686018427387904) : sm (.mk k n s []) = true := by simp [sm, sms, hs]
theorem aeq_ : ∀ (l : List Str) (e : E) (d : Int), smW l → sm e = true → sm (asL l e d).1 = true ∧ smW (asL l e d).2.left
 | [], e, d, h, he => by simp only [asL]; exact ⟨he, h⟩
 | [w], e, d, h, he => by
  simp only [asL]; split
  ·exact ⟨yk_ (by simp) he, fun w hw => by cases hw⟩
  ·exact ⟨he, h⟩
 | w :: t :: r, e, d, h, he => by
  simp only [asL]; split
  ·exact aeq_ r _ d (fun x hx => h x (by simp [hx])) (yk_ (Nat.lt_of_le_of_lt (h t (by simp)) (by decide)) he)
  ·exact ⟨he, h⟩
theorem ala_ (s : RS) (e : E) (h : smW s.left) (he : sm e = true) : sm (asR s e).1 = true ∧ smW (asR s e).2.left := by
 unfold asR; split
 ·exact ⟨he, h⟩
 ·exact aeq_ _ _ _ h he
theorem i_sm : ∀ n : Nat, (∀ t s, smW s.left → sm (dg_ n t s).1 = true ∧ smW (dg_ n t s).2.left) ∧ (∀ t e s, sm e = true → smW s.left → sm (d9_ n t e s).1 = true ∧ smW (d9_ n t e s).2.left) ∧ (∀ s, smW s.left → sm (fw_ n s).1 = true ∧ smW (fw_ n s).2.left) ∧ (∀ w s, w.length < 4611686018427387904 → smW s.left → sm (e0_ n w s).1 = true ∧ smW (e0_ n w s).2.left)
 | 0 => ⟨fun t s h => by simp only [dg_]; exact ⟨by decide, h⟩, fun t e s he h => by simp only [d9_]; exact ⟨he, h⟩, fun s h => by simp only [fw_]; exact ⟨by decide, h⟩, fun w s hw h => by simp only [e0_]; exact ⟨by decide, h⟩⟩
 | n + 1 => by
  obtain ⟨h1, h2, h3, h4⟩ := i_sm n
  refine ⟨fun t s h => ?_, fun t e s he h => ?_, fun s h => ?_, fun w s hw h => ?_⟩
  ·simp only [dg_]
   split
   ·exact h3 s h
   ·exact h2 t _ _ (h1 (t + 1) s h).1 (h1 (t + 1) s h).2
  ·simp only [d9_]
   split
   ·have q := h1 (t + 1) (cn_ s) (ht_ h).1
    exact h2 t _ _ (yt_ (Nat.lt_of_le_of_lt (ht_ h).2 (by decide)) he q.1) q.2
   ·exact ⟨he, h⟩
  ·simp only [fw_]
   have q := h4 (c1_ s) (cn_ s) (Nat.lt_of_le_of_lt (ht_ h).2 (by decide)) (ht_ h).1
   exact ala_ _ _ q.2 q.1
  ·simp only [e0_]
   split
   ·split
    ·exact ⟨(show sm E0 = true by decide), h⟩
    ·have q := h1 1 { s with deep := s.deep + 1 } h
     dsimp only
     refine ⟨q.1, ?_⟩
     split
     ·exact q.2
     ·exact (ht_ q.2).1
   ·split
    ·exact ⟨pf_ (by simp), h⟩
    ·split
     ·exact ⟨pf_ hw, h⟩
     ·exact ⟨(show sm E0 = true by decide), h⟩
end
section
set_option maxRecDepth 100000
set_option maxHeartbeats 4000000
abbrev rsB (s : RS) : Blk := ⟨184, 3, [[.sl false (cb_ s.left), .b s.bad, .i .i64 s.deep]]⟩
theorem ne_ (s : RS) (hl : s.left.length < 4611686018427387904) : ACall En 207 [.pt 0 3 0 0] [rsB s] [.s (c1_ s)] [rsB (cn_ s)] := by
 obtain ⟨left, bad, deep⟩ := s
 cases left with
 | nil =>
 refine ao_ (fn := Tryz.f207) [0] Tryz.func207 rfl rfl (by simp) fun C => ?_
 rw [bb_]
 simp only [Tryz.ntmps207, T7_, List.length_nil, Nat.reduceAdd, Nat.reduceSub, List.replicate_succ, List.replicate_zero, List.cons_append, List.nil_append, bu_]
 refine .seq (.rgn [] (by simp only [go_sem, seval, ck_, cd_]; rfl) ?_ ?_)
 ·first | trivial | simp
 refine .seq (.seq (.rgn [] (by simp only [go_sem, seval, ck_, cd_]; rfl) ?_ ?_))
 ·first | trivial | simp
 refine .condB (by simp only [go_sem, seval, ck_, cd_]; rfl) (by simp only [go_sem, seval, ck_, cd_]) (fun h9 => ?_) (fun h9 => ?_)
 ·refine .seq (.rgn [] (by simp only [go_sem, seval, ck_, cd_]; rfl) ?_ ?_)
  ·first | trivial | simp
  refine .seq (.rgn [] (by simp only [go_sem, seval, ck_, cd_]; rfl) ?_ ?_)
  ·first | trivial | simp
  refine .ret ⟨.inr rfl, ?_⟩
  exact Out.mem' (by simp only [Tryz.results207]; rfl) (by simp only [bd_, bo_, go_sem, seval, ck_, cd_]) (by simp only [bn_, rns, rn, go_sem, seval, ck_, cd_] <;> (rfl)) (by simp) rfl (by decide) (by simp only [go_sem, seval, ck_, cd_]) (by simp only [ar_, go_sem, seval, ck_, cd_]) (by simp only [an_, go_sem, seval, ck_, cd_] <;> (simp [cn_, ck_]))
 ·exact absurd h9 (by simp)
 | cons x r =>
 refine ao_ (fn := Tryz.f207) [0] Tryz.func207 rfl rfl (by simp) fun C => ?_
 rw [bb_]
 simp only [Tryz.ntmps207, T7_, List.length_nil, Nat.reduceAdd, Nat.reduceSub, List.replicate_succ, List.replicate_zero, List.cons_append, List.nil_append, bu_]
 refine .seq (.rgn [] (by simp only [go_sem, seval, ck_, cd_]; rfl) ?_ ?_)
 ·first | trivial | simp
 refine .seq (.seq (.rgn [] (by simp only [go_sem, seval, ck_, cd_]; rfl) ?_ ?_))
 ·first | trivial | simp
 refine .condB (by simp only [go_sem, seval, ck_, cd_]; rfl) (by simp only [go_sem, seval, ck_, cd_]) (fun h9 => ?_) (fun h9 => ?_)
 ·simp at h9; omega
 ·refine .skip (.seq (.rgn [] (by simp only [go_sem, seval, ck_, cd_]; rfl) ?_ ?_))
  ·first | trivial | simp
  refine .seq (.rgn [] (by simp only [go_sem, seval, ck_, cd_]; rfl) ?_ ?_)
  ·refine ⟨⟨by omega, by omega⟩, .inr fun q hq => ?_⟩; rcases List.mem_cons.1 hq with rfl | hq; rfl; exact qf_ hq
  refine .seq (.rgn [] (by simp only [go_sem, seval, ck_, cd_]; rfl) ?_ ?_)
  ·first | trivial | simp
  refine .ret ⟨.inr rfl, ?_⟩
  exact Out.mem' (by simp only [Tryz.results207]; rfl) (by simp only [bd_, bo_, go_sem, seval, ck_, cd_]) (by simp only [bn_, rns, rn, go_sem, seval, ck_, cd_] <;> (rfl)) (by simp) rfl (by decide) (by simp only [go_sem, seval, ck_, cd_]) (by simp only [ar_, go_sem, seval, ck_, cd_]) (by simp only [an_, go_sem, seval, ck_, cd_] <;> (simp [cn_, T1_, ab_]))
theorem at_a (s : RS) (hl : s.left.length < 4611686018427387904) : ACall En 233 [.pt 0 3 0 0, .sl false [[.s [97, 115]]]] [rsB s] [.b (!s.bad && (!s.left.isEmpty && c1_ s == wAs))] [rsB s] := by
 obtain ⟨left, bad, deep⟩ := s
 cases left with
 | nil =>
 refine ao_ (fn := Tryz.f233) [0] Tryz.func233 rfl rfl (by simp) fun C => ?_
 rw [bb_]
 simp only [Tryz.ntmps233, T7_, List.length_nil, Nat.reduceAdd, Nat.reduceSub, List.replicate_succ, List.replicate_zero, List.cons_append, List.nil_append, bu_]
 refine .seq (.rgn [] (by simp only [go_sem, seval, asO, ck_, cd_, wAs]; rfl) ?_ ?_)
 ·first | trivial | simp
 refine .seq (.rgnS [25] [asO En { v := .s [] }, bj_ (lf_ [wAs] [] (by decide))] (by simp only [go_sem, seval, asO, ck_, cd_, wAs]; rfl) ?_ ?_)
 ·first | trivial | simp
 refine .ret ⟨.inr rfl, ?_⟩
 exact Out.mem' (by simp only [Tryz.results233]; rfl) (by simp only [bd_, bo_, go_sem, seval, asO, ck_, cd_, wAs]) (by simp only [bn_, rns, rn, go_sem, seval, asO, ck_, cd_, wAs] <;> (simp)) (by simp) rfl (by decide) (by simp only [go_sem, seval, asO, ck_, cd_, wAs]) (by simp only [ar_, go_sem, seval, asO, ck_, cd_, wAs]) (by simp only [an_, go_sem, seval, asO, ck_, cd_, wAs] <;> (simp [ck_]))
 | cons x r =>
 refine ao_ (fn := Tryz.f233) [0] Tryz.func233 rfl rfl (by simp) fun C => ?_
 rw [bb_]
 simp only [Tryz.ntmps233, T7_, List.length_nil, Nat.reduceAdd, Nat.reduceSub, List.replicate_succ, List.replicate_zero, List.cons_append, List.nil_append, bu_]
 refine .seq (.rgn [] (by simp only [go_sem, seval, ck_, cd_, wAs]; rfl) ?_ ?_)
 ·first | trivial | simp
 refine .seq (.rgn [bj_ (lf_ [wAs] x (by decide))] (by simp only [go_sem, seval, ck_, cd_, wAs]; rfl) ?_ ?_)
 ·first | trivial | simp
 refine .ret ⟨.inr rfl, ?_⟩
 exact Out.mem' (by simp only [Tryz.results233]; rfl) (by simp only [bd_, bo_, go_sem, seval, ck_, cd_, wAs]) (by simp only [bn_, rns, rn, go_sem, seval, ck_, cd_, wAs] <;> (simp [c1_, wAs])) (by simp) rfl (by decide) (by simp only [go_sem, seval, ck_, cd_, wAs]) (by simp only [ar_, go_sem, seval, ck_, cd_, wAs]) (by simp only [an_, go_sem, seval, ck_, cd_, wAs] <;> (simp [cd_]))
end
section
set_option maxRecDepth 100000
set_option maxHeartbeats 8000000
def okS2 (s : RS) : Prop := smW s.left ∧ 0 ≤ s.deep ∧ s.deep + s.left.length ≤ 1000000
theorem okS2.of {s s' : RS} (h : okS2 s) (d : Dn s' s 0) (w : smW s'.left) : okS2 s' := ⟨w, by have := d.1; have := h.2.1; omega, by have := d.2.1; have := h.2.2; omega⟩
def zm_ (n : Nat) : Prop := ∀ (t : Nat) (s : RS), t ≤ 4 → okS2 s → 10 * s.left.length + 10 - t ≤ n → ACall En 171 [.pt 0 3 0 0, .i .i64 t] [rsB s] [.ag (eC (dg_ n t s).1)] [rsB (dg_ n t s).2]
def x6_ (n : Nat) : Prop := ∀ (s : RS), okS2 s → 10 * s.left.length + 5 ≤ n → ACall En 206 [.pt 0 3 0 0] [rsB s] [.ag (eC (fw_ n s).1)] [rsB (fw_ n s).2]
theorem jn_ {s : RS} (h : okS2 s) : okS2 (cn_ s) := h.of (Dn.nx s) (ht_ h.1).1
theorem ye_ {s : RS} (h : okS2 s) (n t : Nat) : okS2 (dg_ n t s).2 := h.of ((afp_ n).1 t s) ((i_sm n).1 t s h.1).2
theorem jz_ {s : RS} (h : s.left ≠ []) : (cn_ s).left.length + 1 = s.left.length := by
 unfold cn_
 cases hl : s.left with
 | nil => exact absurd hl h
 | cons x r => rfl
theorem vc_ {s : RS} (h : s.left ≠ []) : (cb_ s.left).getD 0 [] = [.s (c1_ s)] := by
 unfold c1_
 cases hl : s.left with
 | nil => exact absurd hl h
 | cons x r => rfl
theorem agn_ {j t : Nat} {e : E} {s : RS} (h : ((!s.bad && decide ((s.left.length : Int) > 0)) && bt_ (c1_ s) == (t : Int)) = true) : d9_ (j + 1) t e s = d9_ j t (.mk 3 0 (c1_ s) [e, (dg_ j (t + 1) (cn_ s)).1]) (dg_ j (t + 1) (cn_ s)).2 ∧ s.left ≠ [] := by
 simp only [T5_, Bool.not_eq_true', T3_, beq_iff_eq] at h
 have hne : s.left ≠ [] := by intro e; rw [e] at h; simp at h
 simp only [d9_]
 rw [if_pos ⟨h.1.1, hne, h.2⟩]
 exact ⟨rfl, hne⟩
theorem ae8_ {j t : Nat} {e : E} {s : RS} (h : ((!s.bad && decide ((s.left.length : Int) > 0)) && bt_ (c1_ s) == (t : Int)) = false) : d9_ (j + 1) t e s = (e, s) := by
 simp only [d9_]
 rw [if_neg]
 rintro ⟨a, b, c⟩
 rw [a, c] at h
 cases hl : s.left with
 | nil => exact b hl
 | cons x r => rw [hl] at h; simp at h
theorem ad3_ {s : RS} (h : (!s.bad && decide ((s.left.length : Int) > 0)) = true) : s.left ≠ [] := by intro e; rw [e] at h; simp at h
theorem alq_ {s : RS} (h : (!s.bad && decide ((s.left.length : Int) > 0)) = true) : (0 : Int) < s.left.length := by simp at h; omega
theorem vh_ {s : RS} (h : s.left ≠ []) : ((cb_ s.left).getD 0 []).length = 1 := by rw [vc_ h]; rfl
theorem amd_ {s : RS} (h : s.left ≠ []) : ((cb_ s.left).getD 0 []).getD 0 .no = .s (c1_ s) := by rw [vc_ h]; rfl
def LI (n t : Nat) (s : RS) (q : Nat × E × RS) : Prop := okS2 q.2.2 ∧ 10 * q.2.2.left.length + 1 ≤ q.1 ∧ q.1 ≤ n ∧ d9_ n t (dg_ n (t + 1) s).1 (dg_ n (t + 1) s).2 = d9_ q.1 t q.2.1 q.2.2
def LN (t : Nat) (q : Nat × E × RS) : Nat × E × RS := (q.1 - 1, .mk 3 0 (c1_ q.2.2) [q.2.1, (dg_ (q.1 - 1) (t + 1) (cn_ q.2.2)).1], (dg_ (q.1 - 1) (t + 1) (cn_ q.2.2)).2)
theorem zx_ {n t : Nat} {s : RS} {q : Nat × E × RS} (h8 : ((t : Int) == 4) = false) (hI : LI n t s q) (h : ((!q.2.2.bad && decide ((q.2.2.left.length : Int) > 0)) && bt_ (c1_ q.2.2) == (t : Int)) = false) : dg_ (n + 1) t s = q.2 := by
 obtain ⟨j, e, s'⟩ := q
 obtain ⟨h1, h2, h3, h4⟩ := hI
 dsimp only at h1 h2 h3 h4 h ⊢
 obtain ⟨i, rfl⟩ : ∃ i, j = i + 1 := ⟨j - 1, by omega⟩
 rw [pn_ (by simp at h8; omega), h4, ae8_ h]
theorem w3_ {n t : Nat} {s : RS} {q : Nat × E × RS} (hI : LI n t s q) (h : ((!q.2.2.bad && decide ((q.2.2.left.length : Int) > 0)) && bt_ (c1_ q.2.2) == (t : Int)) = true) : LI n t s (LN t q) ∧ (LN t q).2.2.left.length < q.2.2.left.length := by
 obtain ⟨j, e, s'⟩ := q
 obtain ⟨h1, h2, h3, h4⟩ := hI
 unfold LI LN
 dsimp only at h1 h2 h3 h4 h ⊢
 obtain ⟨i, rfl⟩ : ∃ i, j = i + 1 := ⟨j - 1, by omega⟩
 obtain ⟨g1, g2⟩ := agn_ (j := i) (e := e) h
 have q1 := jz_ g2
 have q2 := (aac_ i).1 (t + 1) (cn_ s')
 simp only [Nat.add_sub_cancel]
 exact ⟨⟨ye_ (jn_ h1) _ _, by omega, by omega, by rw [h4, g1]⟩, by omega⟩
theorem x8_ (n : Nat) (ihL : ∀ j, j < n + 1 → zm_ j) (ihH : ∀ j, j < n + 1 → x6_ j) : zm_ (n + 1) := fun t s ht hs hn => by
 obtain ⟨s1, s2, s3⟩ := hs
 have hlen : s.left.length < 4611686018427387904 := by omega
 have L1 : t < 4 → okS2 (dg_ n (t + 1) s).2 ∧ (dg_ n (t + 1) s).2.left.length ≤ s.left.length := fun _ => ⟨ye_ ⟨s1, s2, s3⟩ n (t + 1), (aac_ n).1 (t + 1) s⟩
 have LJ : ∀ q : Nat × E × RS, okS2 q.2.2 → 10 * q.2.2.left.length + 1 ≤ q.1 → q.1 ≤ n → q.2.2.left ≠ [] → t < 4 → ACall En 171 [.pt 0 3 0 0, .i .i64 ((t + 1 : Nat) : Int)] [rsB (cn_ q.2.2)] [.ag (eC (dg_ (q.1 - 1) (t + 1) (cn_ q.2.2)).1)] [rsB (dg_ (q.1 - 1) (t + 1) (cn_ q.2.2)).2] := fun q h1 h2 h3 h4 h5 => by
  have := jz_ h4
  exact ihL (q.1 - 1) (by omega) (t + 1) (cn_ q.2.2) (by omega) (jn_ h1) (by omega)
 have hw : IntKind.i64.wrap ((t : Int) + 1) = ((t + 1 : Nat) : Int) := by rw [bx_ (by omega) (by omega)]; rfl
 refine ao_ (fn := Tryz.f171) [0] Tryz.func171 rfl rfl (by simp) fun C => ?_
 rw [bb_]
 simp only [Tryz.ntmps171, T7_, List.length_nil, Nat.reduceAdd, Nat.reduceSub, List.replicate_succ, List.replicate_zero, List.cons_append, List.nil_append, bu_]
 refine .seq (.rgn [] (by simp only [go_sem, seval, asO, an_, ar_, hw, ab_]; rfl) ?_ ?_)
 ·first | trivial | simp
 refine .seq (.seq (.rgn [] (by simp only [go_sem, seval, asO, an_, ar_, hw, ab_]; rfl) ?_ ?_))
 ·first | trivial | simp
 refine .condB (by simp only [go_sem, seval, asO, an_, ar_, hw, ab_]; rfl) (by simp only [go_sem, seval, asO, an_, ar_, hw, ab_]) (fun h8 => ?_) (fun h8 => ?_)
 ·refine .seq (.rgn [c4_ [0] [] (ihH n (by omega) s ⟨s1, s2, s3⟩ (by simp at h8; omega))] (by simp only [go_sem, seval, asO, an_, ar_, hw, ab_]; rfl) ?_ ?_)
  ·first | trivial | simp
  refine .ret ⟨.inr rfl, ?_⟩
  exact Out.mem' (by simp only [Tryz.results171]; rfl) (by simp only [bd_, bo_, go_sem, seval, asO, an_, ar_, hw, ab_]) (by simp only [bn_, rns, rn, go_sem, seval, asO, an_, ar_, hw, ab_] <;> ((obtain rfl : t = 4 := (by simp at h8; omega)); simp [o3_])) (by simp) rfl (by decide) (by simp only [go_sem, seval, asO, an_, ar_, hw, ab_]) (by simp only [ar_, go_sem, seval, asO, an_, ar_, hw, ab_]) (by simp only [an_, go_sem, seval, asO, an_, ar_, hw, ab_] <;> ((obtain rfl : t = 4 := (by simp at h8; omega)); simp [o3_]))
 ·refine .skip (.seq (.rgn [c4_ [0] [] (ihL n (by omega) (t + 1) s (by simp at h8; omega) ⟨s1, s2, s3⟩ (by simp at h8; omega))] (by simp only [go_sem, seval, asO, an_, ar_, hw, ab_]; rfl) ?_ ?_))
  ·first | trivial | simp
  refine .seq (.block (.loopK (fun q : Nat × E × RS => ⟨[.pt 0 3 0 0, .i .i64 t, .no, .no, .pt 14 4 0 0, .pt 15 4 0 0, .no, .no, .no, .no, .no, .no, .no, .no, .no, .no, .no, .no, .no, .no, .no, .no, .no, .no, .no, .no, .no, .no, .no, .no, .no, .no, .no, .no, .no, .no, .no, .no, .no, .no, .no, .no, .no, .no, .no, .no, .no, .no, .no, .no], bk_ [(0, rsB q.2.2), (14, ⟨48, 4, [[.i .i64 0, .i .i64 0, .s [], .sl true []]]⟩), (15, ⟨48, 4, [eC q.2.1]⟩)], us [14, 15]⟩) (fun q : Nat × E × RS => LI n t s q) (fun q : Nat × E × RS => q.2.2.left.length) ((n, (dg_ n (t + 1) s).1, (dg_ n (t + 1) s).2)) ?_ ?_ (fun q hI => ?_)))
  ·exact ⟨(L1 (by simp at h8; omega)).1, by have := (L1 (by simp at h8; omega)).2; dsimp only; simp at h8; omega, Nat.le_refl _, rfl⟩
  ·exact Can.weak (Weak.lit (by simp only [go_sem, seval, asO, an_, ar_, hw, ab_, ay_, leV, aw_, ax_, V.inn, us, T9_, Ta_]) (by simp only [go_sem, seval, asO, an_, ar_, hw, ab_, ay_, leV, aw_, ax_, V.inn, us, T9_, Ta_]) (by simp only [go_sem, seval, asO, an_, ar_, hw, ab_, ay_, leV, aw_, ax_, V.inn, us, T9_, Ta_]))
  refine .seq (.seq (.rgnS [34] [asO En { v := .s (c1_ q.2.2) }, bj_ (j5_ (c1_ q.2.2))] (by simp only [go_sem, seval, asO, an_, ar_, hw, ab_]; rfl) ?_ ?_))
  ·exact ⟨fun h => ⟨h, alq_ h, vh_ (ad3_ h)⟩, fun h => ⟨⟨h, by rw [vh_ (ad3_ h)]; exact Nat.le_refl _⟩, by rw [amd_ (ad3_ h)]⟩⟩
  refine .condB (by simp only [go_sem, seval, asO, an_, ar_, hw, ab_]; rfl) (by simp only [go_sem, seval, asO, an_, ar_, hw, ab_]) (fun h38 => ?_) (fun h38 => ?_)
  ·refine .skip (.block (.seq (.rgn [c4_ [0] [] (ne_ q.2.2 (by have := hI.1.2; omega))] (by simp only [go_sem, seval, asO, an_, ar_, hw, ab_]; rfl) ?_ ?_)))
   ·first | trivial | simp
   refine .rgnD [c4_ [0] [] (LJ q hI.1 hI.2.1 hI.2.2.1 (by simp at h38; intro e; simp [e] at h38) (by simp at h8; omega))] enM (by simp only [go_sem, seval, asO, an_, ar_, hw, ab_]; rfl) (by rfl) ?_ ?_
   ·first | trivial | simp
   refine Exists.intro (LN t q) ⟨?_, ?_, ?_⟩
   ·exact (w3_ hI h38).1
   ·exact (w3_ hI h38).2
   refine Can.trans (Can.leAt 15 ([[.i .i64 3, .i .i64 0, .s (c1_ q.2.2), .sl false [eC q.2.1, eC (dg_ (q.1 - 1) (t + 1) (cn_ q.2.2)).1]]]) (by simp only [go_sem, seval, asO, an_, ar_, hw, ab_] <;> rfl) (by simp only [go_sem, seval, asO, an_, ar_, hw, ab_, ler, les, leV] <;> (first | trivial | simp)) (by simp only [go_sem, seval, asO, an_, ar_, hw, ab_] <;> rfl)) ?_
   exact Can.weak (Weak.lit (by simp only [go_sem, seval, asO, an_, ar_, hw, ab_, ay_, leV, aw_, ax_, V.inn, us, T9_, Ta_]) (by simp only [go_sem, seval, asO, an_, ar_, hw, ab_, ay_, leV, aw_, ax_, V.inn, us, T9_, Ta_]) (by simp only [go_sem, seval, asO, an_, ar_, hw, ab_, ay_, leV, aw_, ax_, V.inn, us, T9_, Ta_] <;> (simp [LN, E.kind, E.n, E.s, E.kids, eR, bs_])))
  ·refine .exit (.seq (.rgn [] (by simp only [go_sem, seval, asO, an_, ar_, hw, ab_]; rfl) ?_ ?_))
   ·first | trivial | simp
   refine .ret ⟨.inr rfl, ?_⟩
   exact Out.mem' (by simp only [Tryz.results171]; rfl) (by simp only [bd_, bo_, go_sem, seval, asO, an_, ar_, hw, ab_]) (by simp only [bn_, rns, rn, go_sem, seval, asO, an_, ar_, hw, ab_] <;> (rw [zx_ h8 hI h38])) (by simp) rfl (by decide) (by simp only [go_sem, seval, asO, an_, ar_, hw, ab_]) (by simp only [ar_, go_sem, seval, asO, an_, ar_, hw, ab_]) (by simp only [an_, go_sem, seval, asO, an_, ar_, hw, ab_] <;> (rw [zx_ h8 hI h38]; (try simp)))
end
section
set_option maxRecDepth 100000
set_option maxHeartbeats 8000000
theorem ag1_ {s : RS} {e : E} (h : (!s.bad && (!s.left.isEmpty && c1_ s == wAs)) = true) : asR s e = asR (cn_ (cn_ s)) (.mk 4 0 (c1_ (cn_ s)) [e]) ∧ s.left ≠ [] := by
 obtain ⟨left, bad, deep⟩ := s
 cases left with
 | nil => simp at h
 | cons x r =>
  simp only [T5_, Bool.not_eq_true', beq_iff_eq, c1_] at h
  obtain ⟨rfl, _, rfl⟩ := h
  refine ⟨?_, by simp⟩
  cases r with
  | nil => simp [asR, asL, cn_, c1_]
  | cons t r => simp [asR, asL, cn_, c1_]
theorem af8_ {s : RS} {e : E} (h : (!s.bad && (!s.left.isEmpty && c1_ s == wAs)) = false) : asR s e = (e, s) := by
 obtain ⟨left, bad, deep⟩ := s
 cases bad with
 | true => simp [asR]
 | false =>
  match left with
  | [] => simp [asR, asL]
  | [x] => simp [c1_] at h; simp [asR, asL, h]
  | x :: t :: r => simp [c1_] at h; simp [asR, asL, h]
def HS (s : RS) : RS := ⟨(cn_ s).left, (cn_ s).bad || decide ((cn_ s).deep + 1 > 40), (cn_ s).deep + 1⟩
def HP (m : Nat) (s : RS) : E × RS := if (HS s).bad then (E0, HS s) else dg_ m 1 (HS s)
def HQ (q : E × RS) : E × RS := (q.1, if q.2.bad then q.2 else { cn_ q.2 with bad := !(c1_ q.2 == [41]) })
theorem afs_ {m : Nat} {s : RS} (h : (!((cn_ s).bad || decide ((cn_ s).deep + 1 > 40))) = true) : HP m s = dg_ m 1 (HS s) := by
 unfold HP
 have : (HS s).bad = false := by simpa [HS] using h
 rw [this]; rfl
theorem ahl_ {m : Nat} {s : RS} (h : (!((cn_ s).bad || decide ((cn_ s).deep + 1 > 40))) = false) : HP m s = (E0, HS s) := by
 unfold HP
 have : (HS s).bad = true := by simp only [Bool.not_eq_false'] at h; exact h
 rw [this]; rfl
theorem j9_ {m : Nat} {s : RS} : e0_ (m + 1) [40] (cn_ s) = HQ (HP m s) := by
 simp only [e0_, if_true]
 by_cases h : (cn_ s).bad = true ∨ 40 < (cn_ s).deep + 1
 ·rw [if_pos h]
  have hx : ((cn_ s).bad || decide ((cn_ s).deep + 1 > 40)) = true := by simpa using h
  rw [ahl_ (by rw [hx]; rfl)]
  simp only [HQ, HS, hx, if_true]
 ·rw [if_neg h]
  have hx : ((cn_ s).bad || decide ((cn_ s).deep + 1 > 40)) = false := by simp at h ⊢; exact ⟨h.1, by omega⟩
  have hb : (cn_ s).bad = false := by simp at h; exact h.1
  have e : HS s = { cn_ s with deep := (cn_ s).deep + 1 } := by unfold HS; rw [hx, ← hb]
  rw [afs_ (by rw [hx]; rfl), e]; rfl
theorem iu_ {n : Nat} {w : Str} {s : RS} (h : w ≠ [40]) (h1 : do_ w = false) (h2 : g8_ w = false) : e0_ (n + 1) w s = (E0, { s with bad := true }) := by simp [e0_, h, h1, h2]
theorem i7_ {s : RS} (h : okS2 s) (b : Bool) : okS2 { s with bad := b } := h
theorem uo_ {s : RS} (h : okS2 s) (hn : s.left ≠ []) : okS2 (HS s) := by
 have := jz_ hn
 have h1 := jn_ h
 exact ⟨h1.1, by have := h1.2.1; simp only [HS]; omega, by have := ro_ s; have := h.2.2; simp only [HS]; omega⟩
theorem zn_ {s : RS} (h : okS2 s) (hn : s.left ≠ []) (m : Nat) : okS2 (HP m s).2 := by
 unfold HP; split
 ·exact uo_ h hn
 ·exact ye_ (uo_ h hn) m 1
theorem mq_ {q : E × RS} (h : okS2 q.2) : okS2 (HQ q).2 := by
 unfold HQ; dsimp only; split
 ·exact h
 ·exact i7_ (jn_ h) _
theorem uf_ {s : RS} (h : c1_ s ≠ []) : s.left ≠ [] := by unfold c1_ at h; intro e; rw [e] at h; exact h rfl
theorem d0_ {n : Nat} {s : RS} {q : E × RS} (h : e0_ n (c1_ s) (cn_ s) = q) : fw_ (n + 1) s = asR q.2 q.1 := by simp only [fw_, h]
theorem ajt_ (s : Str) : eo_ (ke_ s) = true := by unfold ke_; split <;> rfl
theorem ab9_ (m : Nat) (ihL : ∀ j, j < m + 2 → zm_ j) : x6_ (m + 2) := fun s hs hn => by
 have h1 := jn_ hs
 have hd := ro_ s
 have hl1 := hs_ s
 have hb := hs.2.2
 have hb0 := hs.2.1
 have hH := (ht_ hs.1).2
 have hw : IntKind.i64.wrap ((cn_ s).deep + 1) = (cn_ s).deep + 1 := bx_ (by omega) (by omega)
 have hnv : do_ (c1_ s) = true → ke_ (c1_ s) = .i .i64 (cp_ (c1_ s)) := fun h => by simp [ke_, h]
 have LB : s.left ≠ [] → ACall En 171 [.pt 0 3 0 0, .i .i64 ((1 : Nat) : Int)] [rsB (HS s)] [.ag (eC (dg_ m 1 (HS s)).1)] [rsB (dg_ m 1 (HS s)).2] := fun h => ihL m (by omega) 1 (HS s) (by omega) (uo_ hs h) (by have := jz_ h; show 10 * (cn_ s).left.length + 10 - 1 ≤ m; omega)
 refine ao_ (fn := Tryz.f206) [0] Tryz.func206 rfl rfl (by simp) fun C => ?_
 rw [bb_]
 simp only [Tryz.ntmps206, T7_, List.length_nil, Nat.reduceAdd, Nat.reduceSub, List.replicate_succ, List.replicate_zero, List.cons_append, List.nil_append, bu_]
 refine .seq (.rgn [] (by simp only [go_sem, seval, an_, ar_, hw]; rfl) ?_ ?_)
 ·first | trivial | simp
 refine .seq (.rgn [] (by simp only [go_sem, seval, an_, ar_, hw]; rfl) ?_ ?_)
 ·first | trivial | simp
 refine .seq (.rgn [c4_ [0] [] (ne_ s (by omega))] (by simp only [go_sem, seval, an_, ar_, hw]; rfl) ?_ ?_)
 ·first | trivial | simp
 refine .seq (.rgn [bj_ (wq_ (c1_ s) hH)] (by simp only [go_sem, seval, an_, ar_, hw]; rfl) ?_ ?_)
 ·exact ⟨cy_ _, ajt_ _⟩
 refine .seqJ (fun q2 : E × RS => ⟨[.pt 0 3 0 0, .no, .pt 12 4 0 0, .pt 13 4 0 0, .no, .no, .no, .no, .no, .no, .no, .no, .no, .no, .no, .no, .no, .no, .no, .no, .no, .no, .no, .no, .no, .no, .no, .no, .no, .no, .no, .no, .no, .no, .no, .no, .no, .no, .no, .no, .no, .no, .no, .no, .no, .no, .no, .no, .no, .no, .no, .no, .no, .no, .no, .no, .no, .no, .no, .no, .no, .no, .no, .no, .no, .no, .no, .no, .no, .no, .no, .no, .no, .no, .no, .no, .no, .no, .no, .no], bk_ [(0, rsB q2.2), (12, ⟨48, 4, [[.i .i64 0, .i .i64 0, .s [], .sl true []]]⟩), (13, ⟨48, 4, [eC q2.1]⟩)], us [12, 13]⟩) (fun q2 : E × RS => fw_ (m + 2) s = asR q2.2 q2.1 ∧ okS2 q2.2) ?_ (fun q2 hJ => ?_)
 ·refine .block (.seq (.rgn [] (by simp only [go_sem, seval, an_, ar_, hw]; rfl) ?_ ?_))
  ·first | trivial | simp
  refine .condB (by simp only [go_sem, seval, an_, ar_, hw]; rfl) (by simp only [go_sem, seval, an_, ar_, hw]) (fun h17 => ?_) (fun h17 => ?_)
  ·refine .seq (.rgn [] (by simp only [go_sem, seval, an_, ar_, hw]; rfl) ?_ ?_)
   ·first | trivial | simp
   refine .seq (.rgn [] (by simp only [go_sem, seval, an_, ar_, hw]; rfl) ?_ ?_)
   ·first | trivial | simp
   refine .seqJ (fun q : E × RS => ⟨[.pt 0 3 0 0, .no, .pt 12 4 0 0, .pt 13 4 0 0, .no, .no, .no, .no, .no, .no, .no, .no, .no, .no, .no, .no, .no, .no, .no, .no, .no, .no, .no, .no, .no, .no, .no, .no, .no, .no, .no, .no, .no, .no, .no, .no, .no, .no, .no, .no, .no, .no, .no, .no, .no, .no, .no, .no, .no, .no, .no, .no, .no, .no, .no, .no, .no, .no, .no, .no, .no, .no, .no, .no, .no, .no, .no, .no, .no, .no, .no, .no, .no, .no, .no, .no, .no, .no, .no, .no], bk_ [(0, rsB q.2), (12, ⟨48, 4, [[.i .i64 0, .i .i64 0, .s [], .sl true []]]⟩), (13, ⟨48, 4, [eC q.1]⟩)], us [12, 13]⟩) (fun q : E × RS => q = HP m s ∧ okS2 q.2) ?_ (fun q hJ => ?_)
   ·refine .seq (.rgn [] (by simp only [go_sem, seval, an_, ar_, hw]; rfl) ?_ ?_)
    ·first | trivial | simp
    refine .condB (by simp only [go_sem, seval, an_, ar_, hw]; rfl) (by simp only [go_sem, seval, an_, ar_, hw]) (fun h45 => ?_) (fun h45 => ?_)
    ·refine .rgn [c4_ [0] [] (LB (uf_ (by simp at h17; rw [h17]; simp)))] (by simp only [go_sem, seval, an_, ar_, hw]; rfl) ?_ ?_
     ·first | trivial | simp
     refine Exists.intro (HP m s) ⟨?_, ?_⟩
     ·exact ⟨rfl, zn_ hs (uf_ (by simp at h17; rw [h17]; simp)) m⟩
     exact Can.weak (Weak.lit (by simp only [go_sem, seval, an_, ar_, hw, ay_, leV, aw_, ax_, V.inn, us, T9_, Ta_]) (by simp only [go_sem, seval, an_, ar_, hw, ay_, leV, aw_, ax_, V.inn, us, T9_, Ta_]) (by simp only [go_sem, seval, an_, ar_, hw, ay_, leV, aw_, ax_, V.inn, us, T9_, Ta_] <;> (first | (rw [afs_ h45]; simp; done) | (rw [ahl_ h45]; simp [HS, E0, E.kind, E.n, E.s, E.kids, eR]; done))))
    ·refine .skip ?_
     refine Exists.intro (HP m s) ⟨?_, ?_⟩
     ·exact ⟨rfl, zn_ hs (uf_ (by simp at h17; rw [h17]; simp)) m⟩
     refine Can.trans (Can.leAt 13 ([[.i .i64 0, .i .i64 0, .s [], .sl false []]]) (by simp only [go_sem, seval, an_, ar_, hw] <;> rfl) (by simp only [go_sem, seval, an_, ar_, hw, ler, les, leV] <;> (first | trivial | simp)) (by simp only [go_sem, seval, an_, ar_, hw] <;> rfl)) ?_
     exact Can.weak (Weak.lit (by simp only [go_sem, seval, an_, ar_, hw, ay_, leV, aw_, ax_, V.inn, us, T9_, Ta_]) (by simp only [go_sem, seval, an_, ar_, hw, ay_, leV, aw_, ax_, V.inn, us, T9_, Ta_]) (by simp only [go_sem, seval, an_, ar_, hw, ay_, leV, aw_, ax_, V.inn, us, T9_, Ta_] <;> (first | (rw [afs_ h45]; simp; done) | (rw [ahl_ h45]; simp [HS, E0, E.kind, E.n, E.s, E.kids, eR]; done))))
   cases hb : q.2.bad
   ·refine .rgn [c4_ [0] [] (ne_ q.2 (by have := (hJ.2 : okS2 q.2).2.2; have := (hJ.2 : okS2 q.2).2.1; omega))] (by simp only [go_sem, seval, an_, ar_, hw, hb]; rfl) ?_ ?_
    ·(first | trivial | (simp; done) | (simp [hb]; done))
    refine Exists.intro (HQ q) ⟨?_, ?_⟩
    ·first | exact ⟨d0_ (by rw [show c1_ s = [40] from by simpa using h17, j9_, hJ.1]), mq_ hJ.2⟩ | exact ⟨d0_ (hp_ (by simpa using h17) (by simpa using h60)), h1⟩ | exact ⟨d0_ (gz_ (by simpa using h17) (by simpa using h60) (by simpa using h64)), h1⟩ | exact ⟨d0_ (iu_ (by simpa using h17) (by simpa using h60) (by simpa using h64)), i7_ h1 true⟩
    exact Can.weak (Weak.lit (by simp only [go_sem, seval, an_, ar_, hw, ay_, leV, aw_, ax_, V.inn, us, T9_, Ta_]) (by simp only [go_sem, seval, an_, ar_, hw, ay_, leV, aw_, ax_, V.inn, us, T9_, Ta_]) (by simp only [go_sem, seval, an_, ar_, hw, ay_, leV, aw_, ax_, V.inn, us, T9_, Ta_] <;> (first | (simp [HQ, hb]; done) | (simp [E.kind, E.n, E.s, E.kids, eR]; done) | (simp [E0, E.kind, E.n, E.s, E.kids, eR]; done))))
   ·refine .rgn [c4_ [0] [] (ne_ q.2 (by have := (hJ.2 : okS2 q.2).2.2; have := (hJ.2 : okS2 q.2).2.1; omega))] (by simp only [go_sem, seval, an_, ar_, hw, hb]; rfl) ?_ ?_
    ·(first | trivial | (simp; done) | (simp [hb]; done))
    refine Exists.intro (HQ q) ⟨?_, ?_⟩
    ·first | exact ⟨d0_ (by rw [show c1_ s = [40] from by simpa using h17, j9_, hJ.1]), mq_ hJ.2⟩ | exact ⟨d0_ (hp_ (by simpa using h17) (by simpa using h60)), h1⟩ | exact ⟨d0_ (gz_ (by simpa using h17) (by simpa using h60) (by simpa using h64)), h1⟩ | exact ⟨d0_ (iu_ (by simpa using h17) (by simpa using h60) (by simpa using h64)), i7_ h1 true⟩
    exact Can.weak (Weak.lit (by simp only [go_sem, seval, an_, ar_, hw, ay_, leV, aw_, ax_, V.inn, us, T9_, Ta_]) (by simp only [go_sem, seval, an_, ar_, hw, ay_, leV, aw_, ax_, V.inn, us, T9_, Ta_]) (by simp only [go_sem, seval, an_, ar_, hw, ay_, leV, aw_, ax_, V.inn, us, T9_, Ta_] <;> (first | (simp [HQ, hb]; done) | (simp [E.kind, E.n, E.s, E.kids, eR]; done) | (simp [E0, E.kind, E.n, E.s, E.kids, eR]; done))))
  ·refine .seq (.rgn [] (by simp only [go_sem, seval, an_, ar_, hw]; rfl) ?_ ?_)
   ·first | trivial | simp
   refine .condB (by simp only [go_sem, seval, an_, ar_, hw]; rfl) (by simp only [go_sem, seval, an_, ar_, hw]) (fun h60 => ?_) (fun h60 => ?_)
   ·refine .rgn [] (by simp only [go_sem, seval, an_, ar_, hw, hnv (by simpa using h60)]; rfl) ?_ ?_
    ·first | trivial | simp
    refine Exists.intro ((.mk 1 (cp_ (c1_ s)) [] [], cn_ s)) ⟨?_, ?_⟩
    ·first | exact ⟨d0_ (by rw [show c1_ s = [40] from by simpa using h17, j9_, hJ.1]), mq_ hJ.2⟩ | exact ⟨d0_ (hp_ (by simpa using h17) (by simpa using h60)), h1⟩ | exact ⟨d0_ (gz_ (by simpa using h17) (by simpa using h60) (by simpa using h64)), h1⟩ | exact ⟨d0_ (iu_ (by simpa using h17) (by simpa using h60) (by simpa using h64)), i7_ h1 true⟩
    refine Can.trans (Can.leAt 13 ([[.i .i64 1, .i .i64 (cp_ (c1_ s)), .s [], .sl false []]]) (by simp only [go_sem, seval, an_, ar_, hw] <;> rfl) (by simp only [go_sem, seval, an_, ar_, hw, ler, les, leV] <;> (first | trivial | simp)) (by simp only [go_sem, seval, an_, ar_, hw] <;> rfl)) ?_
    exact Can.weak (Weak.lit (by simp only [go_sem, seval, an_, ar_, hw, ay_, leV, aw_, ax_, V.inn, us, T9_, Ta_]) (by simp only [go_sem, seval, an_, ar_, hw, ay_, leV, aw_, ax_, V.inn, us, T9_, Ta_]) (by simp only [go_sem, seval, an_, ar_, hw, ay_, leV, aw_, ax_, V.inn, us, T9_, Ta_] <;> (first | (simp [HQ, hb]; done) | (simp [E.kind, E.n, E.s, E.kids, eR]; done) | (simp [E0, E.kind, E.n, E.s, E.kids, eR]; done))))
   ·refine .seq (.rgn [bj_ (pv_ (c1_ s) (by omega))] (by simp only [go_sem, seval, an_, ar_, hw]; rfl) ?_ ?_)
    ·first | trivial | simp
    refine .condB (by simp only [go_sem, seval, an_, ar_, hw]; rfl) (by simp only [go_sem, seval, an_, ar_, hw]) (fun h64 => ?_) (fun h64 => ?_)
    ·refine .rgn [] (by simp only [go_sem, seval, an_, ar_, hw]; rfl) ?_ ?_
     ·first | trivial | simp
     refine Exists.intro ((.mk 2 0 (c1_ s) [], cn_ s)) ⟨?_, ?_⟩
     ·first | exact ⟨d0_ (by rw [show c1_ s = [40] from by simpa using h17, j9_, hJ.1]), mq_ hJ.2⟩ | exact ⟨d0_ (hp_ (by simpa using h17) (by simpa using h60)), h1⟩ | exact ⟨d0_ (gz_ (by simpa using h17) (by simpa using h60) (by simpa using h64)), h1⟩ | exact ⟨d0_ (iu_ (by simpa using h17) (by simpa using h60) (by simpa using h64)), i7_ h1 true⟩
     refine Can.trans (Can.leAt 13 ([[.i .i64 2, .i .i64 0, .s (c1_ s), .sl false []]]) (by simp only [go_sem, seval, an_, ar_, hw] <;> rfl) (by simp only [go_sem, seval, an_, ar_, hw, ler, les, leV] <;> (first | trivial | simp)) (by simp only [go_sem, seval, an_, ar_, hw] <;> rfl)) ?_
     exact Can.weak (Weak.lit (by simp only [go_sem, seval, an_, ar_, hw, ay_, leV, aw_, ax_, V.inn, us, T9_, Ta_]) (by simp only [go_sem, seval, an_, ar_, hw, ay_, leV, aw_, ax_, V.inn, us, T9_, Ta_]) (by simp only [go_sem, seval, an_, ar_, hw, ay_, leV, aw_, ax_, V.inn, us, T9_, Ta_] <;> (first | (simp [HQ, hb]; done) | (simp [E.kind, E.n, E.s, E.kids, eR]; done) | (simp [E0, E.kind, E.n, E.s, E.kids, eR]; done))))
    ·refine .rgn [] (by simp only [go_sem, seval, an_, ar_, hw]; rfl) ?_ ?_
     ·first | trivial | simp
     refine Exists.intro ((E0, { cn_ s with bad := true })) ⟨?_, ?_⟩
     ·first | exact ⟨d0_ (by rw [show c1_ s = [40] from by simpa using h17, j9_, hJ.1]), mq_ hJ.2⟩ | exact ⟨d0_ (hp_ (by simpa using h17) (by simpa using h60)), h1⟩ | exact ⟨d0_ (gz_ (by simpa using h17) (by simpa using h60) (by simpa using h64)), h1⟩ | exact ⟨d0_ (iu_ (by simpa using h17) (by simpa using h60) (by simpa using h64)), i7_ h1 true⟩
     refine Can.trans (Can.leAt 13 ([[.i .i64 0, .i .i64 0, .s [], .sl false []]]) (by simp only [go_sem, seval, an_, ar_, hw] <;> rfl) (by simp only [go_sem, seval, an_, ar_, hw, ler, les, leV] <;> (first | trivial | simp)) (by simp only [go_sem, seval, an_, ar_, hw] <;> rfl)) ?_
     exact Can.weak (Weak.lit (by simp only [go_sem, seval, an_, ar_, hw, ay_, leV, aw_, ax_, V.inn, us, T9_, Ta_]) (by simp only [go_sem, seval, an_, ar_, hw, ay_, leV, aw_, ax_, V.inn, us, T9_, Ta_]) (by simp only [go_sem, seval, an_, ar_, hw, ay_, leV, aw_, ax_, V.inn, us, T9_, Ta_] <;> (first | (simp [HQ, hb]; done) | (simp [E.kind, E.n, E.s, E.kids, eR]; done) | (simp [E0, E.kind, E.n, E.s, E.kids, eR]; done))))
 refine .seq (.block (.loopK (fun p : E × RS => ⟨[.pt 0 3 0 0, .no, .pt 12 4 0 0, .pt 13 4 0 0, .no, .no, .no, .no, .no, .no, .no, .no, .no, .no, .no, .no, .no, .no, .no, .no, .no, .no, .no, .no, .no, .no, .no, .no, .no, .no, .no, .no, .no, .no, .no, .no, .no, .no, .no, .no, .no, .no, .no, .no, .no, .no, .no, .no, .no, .no, .no, .no, .no, .no, .no, .no, .no, .no, .no, .no, .no, .no, .no, .no, .no, .no, .no, .no, .no, .no, .no, .no, .no, .no, .no, .no, .no, .no, .no, .no], bk_ [(0, rsB p.2), (12, ⟨48, 4, [[.i .i64 0, .i .i64 0, .s [], .sl true []]]⟩), (13, ⟨48, 4, [eC p.1]⟩)], us [12, 13]⟩) (fun p : E × RS => asR q2.2 q2.1 = asR p.2 p.1 ∧ okS2 p.2) (fun p : E × RS => p.2.left.length) (q2) ?_ ?_ (fun p hI => ?_)))
 ·exact ⟨rfl, hJ.2⟩
 ·exact Can.weak (Weak.lit (by simp only [go_sem, seval, an_, ar_, hw, ay_, leV, aw_, ax_, V.inn, us, T9_, Ta_]) (by simp only [go_sem, seval, an_, ar_, hw, ay_, leV, aw_, ax_, V.inn, us, T9_, Ta_]) (by simp only [go_sem, seval, an_, ar_, hw, ay_, leV, aw_, ax_, V.inn, us, T9_, Ta_]))
 refine .seq (.seq (.rgn [c4_ [0] [] (at_a p.2 (by have := hI.2.2.2; have := hI.2.2.1; omega))] (by simp only [go_sem, seval, an_, ar_, hw]; rfl) ?_ ?_))
 ·first | trivial | simp
 refine .condB (by simp only [go_sem, seval, an_, ar_, hw]; rfl) (by simp only [go_sem, seval, an_, ar_, hw]) (fun h71 => ?_) (fun h71 => ?_)
 ·refine .skip (.block (.seq (.rgn [c4_ [0] [] (ne_ p.2 (by have := hI.2.2.2; have := hI.2.2.1; omega))] (by simp only [go_sem, seval, an_, ar_, hw]; rfl) ?_ ?_)))
  ·first | trivial | simp
  refine .rgnD [c4_ [0] [] (ne_ (cn_ p.2) (by have := hI.2.2.2; have := hI.2.2.1; have := hs_ p.2; omega))] enM (by simp only [go_sem, seval, an_, ar_, hw]; rfl) (by rfl) ?_ ?_
  ·first | trivial | simp
  refine Exists.intro ((.mk 4 0 (c1_ (cn_ p.2)) [p.1], cn_ (cn_ p.2))) ⟨?_, ?_, ?_⟩
  ·exact ⟨by rw [hI.1, (ag1_ h71).1], jn_ (jn_ hI.2)⟩
  ·have q1 := jz_ (ag1_ (e := p.1) h71).2; have q2 := hs_ (cn_ p.2); dsimp only; omega
  refine Can.trans (Can.leAt 13 ([[.i .i64 4, .i .i64 0, .s (c1_ (cn_ p.2)), .sl false [eC p.1]]]) (by simp only [go_sem, seval, an_, ar_, hw] <;> rfl) (by simp only [go_sem, seval, an_, ar_, hw, ler, les, leV] <;> (first | trivial | simp)) (by simp only [go_sem, seval, an_, ar_, hw] <;> rfl)) ?_
  exact Can.weak (Weak.lit (by simp only [go_sem, seval, an_, ar_, hw, ay_, leV, aw_, ax_, V.inn, us, T9_, Ta_]) (by simp only [go_sem, seval, an_, ar_, hw, ay_, leV, aw_, ax_, V.inn, us, T9_, Ta_]) (by simp only [go_sem, seval, an_, ar_, hw, ay_, leV, aw_, ax_, V.inn, us, T9_, Ta_] <;> (simp [E.kind, E.n, E.s, E.kids, eR, bs_])))
 ·refine .exit (.seq (.rgn [] (by simp only [go_sem, seval, an_, ar_, hw]; rfl) ?_ ?_))
  ·first | trivial | simp
  refine .ret ⟨.inr rfl, ?_⟩
  exact Out.mem' (by simp only [Tryz.results206]; rfl) (by simp only [bd_, bo_, go_sem, seval, an_, ar_, hw]) (by simp only [bn_, rns, rn, go_sem, seval, an_, ar_, hw] <;> (rw [hJ.1, hI.1, af8_ h71])) (by simp) rfl (by decide) (by simp only [go_sem, seval, an_, ar_, hw]) (by simp only [ar_, go_sem, seval, an_, ar_, hw]) (by simp only [an_, go_sem, seval, an_, ar_, hw] <;> (rw [hJ.1, hI.1, af8_ h71]; (try simp)))
theorem aft_ (n : Nat) : zm_ n ∧ x6_ n := by
 induction n using Nat.strongRecOn with
 | ind n ih =>
 refine ⟨?_, ?_⟩
 ·cases n with
  | zero => intro t s ht hs hn; omega
  | succ n => exact x8_ n (fun j hj => (ih j hj).1) (fun j hj => (ih j hj).2)
 ·match n with
  | 0 => intro s hs hn; omega
  | 1 => intro s hs hn; omega
  | m + 2 => exact ab9_ m (fun j hj => (ih j hj).1)
end
section
set_option maxRecDepth 100000
set_option maxHeartbeats 8000000
theorem ut_ (e : E) (h : eok e = true) (hs : sm e = true) : ACall En 173 [.ag (eC e)] [] [.sl false (cb_ (wds e 1))] [] := by
 have hf := b9_ h
 have hm : many e ((5 : Nat) : Int) ≤ 12 := iv_ h
 have hw := dw_ 5 e 0 hf
 have W : ACall En 144 [.ag (eC e), .i .i64 0, .pt 0 1 0 0] [⟨3, 1, [[.i .i64 0]]⟩] [.sl false (wdR (src e 0 0))] [⟨3, 1, [[.i .i64 (0 + cnt e)]]⟩] :=
  ACall.frzL (Lr := [⟨3, 1, [[.i .i64 (0 + cnt e)]]⟩]) (mw_ 5 e 0 0 hf hs (by omega) (by decide) (by omega) (by decide)) (by simp) (by simp [gi_, frz, ag_, T1_])
 have hl : (src e 0 0).length ≤ 1000000 := by rw [show (src e 0 0).length = (wds e 0).length by rw [← e9_ e 0 0, List.length_map]]; omega
 refine ao_ (fn := Tryz.f173) [] Tryz.func173 rfl rfl (by simp) fun C => ?_
 rw [bb_]
 simp only [Tryz.ntmps173, T7_, List.length_nil, Nat.reduceAdd, Nat.reduceSub, List.replicate_succ, List.replicate_zero, List.cons_append, List.nil_append, bu_]
 refine .seq (.rgn [] (by simp only [go_sem, seval, an_, ar_, af_]; rfl) ?_ ?_)
 ·first | trivial | simp
 refine .seq (.seq (.rgn [bj_ (ho_ e hs)] (by simp only [go_sem, seval, an_, ar_, af_]; rfl) ?_ ?_))
 ·first | trivial | simp
 refine .condB (by simp only [go_sem, seval, an_, ar_, af_]; rfl) (by simp only [go_sem, seval, an_, ar_, af_]) (fun h6 => ?_) (fun h6 => ?_)
 ·simp [h] at h6
 ·refine .skip (.seq (.rgn [] (by simp only [go_sem, seval, an_, ar_, af_]; rfl) ?_ ?_))
  ·first | trivial | simp
  refine .seq (.rgn [c4_ [13] [] W, bj_ (j2_ (src e 0 0) hl)] (by simp only [go_sem, seval, an_, ar_, af_]; rfl) ?_ ?_)
  ·first | trivial | simp
  refine .ret ⟨.inr rfl, ?_⟩
  exact Out.plain (by simp only [Tryz.results173]; rfl) (by simp only [bd_, bo_, go_sem, seval, an_, ar_, af_] <;> (split <;> rfl)) (by simp only [bn_, go_sem, seval, an_, ar_, af_] <;> (rw [e9_, fg_ hf])) (by simp only [go_sem, seval, an_, ar_, af_])
theorem acv_ {a b : List Str} {k : Nat} (ha : k < a.length) (hb : k < b.length) (h : a.take k = b.take k) (e : a.getD k [] = b.getD k []) : a.take (k + 1) = b.take (k + 1) := by
 rw [List.take_add_one (l := a), List.take_add_one (l := b), h, T6_ ha, T6_ hb]
 rw [T8_, T8_, T6_ ha, T6_ hb] at e
 rw [show a[k] = b[k] by simpa using e]
theorem ahr_ (a b : List Str) (ha : a.length ≤ 1000000000000) (hb : b.length ≤ 1000000000000) : ACall En 172 [.sl false (cb_ a), .sl false (cb_ b)] [] [.b (a == b)] [] := by
 refine ao_ (fn := Tryz.f172) [] Tryz.func172 rfl rfl (by simp) fun C => ?_
 rw [bb_]
 simp only [Tryz.ntmps172, T7_, List.length_nil, Nat.reduceAdd, Nat.reduceSub, List.replicate_succ, List.replicate_zero, List.cons_append, List.nil_append, bu_]
 refine .seq (.rgn [] (by simp only [go_sem, seval, ab_, aa_]; rfl) ?_ ?_)
 ·first | trivial | simp
 refine .seq (.seq (.rgn [] (by simp only [go_sem, seval, ab_, aa_]; rfl) ?_ ?_))
 ·first | trivial | simp
 refine .condB (by simp only [go_sem, seval, ab_, aa_]; rfl) (by simp only [go_sem, seval, ab_, aa_]) (fun h10 => ?_) (fun h10 => ?_)
 ·refine .seq (.rgn [] (by simp only [go_sem, seval, ab_, aa_]; rfl) ?_ ?_)
  ·first | trivial | simp
  refine .ret ⟨.inr rfl, ?_⟩
  exact Out.plain (by simp only [Tryz.results172]; rfl) (by simp only [bd_, bo_, go_sem, seval, ab_, aa_] <;> (split <;> rfl)) (by simp only [bn_, go_sem, seval, ab_, aa_] <;> (have : a ≠ b := (fun e => by simp [e] at h10); simp [this])) (by simp only [go_sem, seval, ab_, aa_])
 ·refine .skip (.seq (.seq (.rgn [] (by simp only [go_sem, seval, ab_, aa_]; rfl) ?_ ?_)))
  ·first | trivial | simp
  refine .block (.loopK (fun k : Nat => ⟨[.sl false (cb_ a), .sl false (cb_ b), .no, .no, .no, .no, .no, .no, .no, .no, .no, .no, .i .i64 a.length, .i .i64 k, .no, .no, .no, .no, .no, .no, .no, .no, .no, .no, .no, .no], bk_ [], us []⟩) (fun k : Nat => k ≤ a.length ∧ a.take k = b.take k) (fun k : Nat => a.length - k) (0) ?_ ?_ (fun k hI => ?_))
  ·exact ⟨Nat.zero_le _, rfl⟩
  ·exact Can.weak (Weak.lit (by simp only [go_sem, seval, ab_, aa_, ay_, leV, aw_, ax_, V.inn, us, T9_, Ta_] <;> (simp)) (by simp only [go_sem, seval, ab_, aa_, ay_, leV, aw_, ax_, V.inn, us, T9_, Ta_]) (by simp only [go_sem, seval, ab_, aa_, ay_, leV, aw_, ax_, V.inn, us, T9_, Ta_]))
  refine .seq (.rgn [] (by simp only [go_sem, seval, ab_, aa_]; rfl) ?_ ?_)
  ·first | trivial | simp
  refine .seq (.condB (by simp only [go_sem, seval, ab_, aa_]; rfl) (by simp only [go_sem, seval, ab_, aa_]) (fun h14 => ?_) (fun h14 => ?_))
  ·refine .skip (.seq (.block (.seq (.rgn [] (by simp only [go_sem, seval, ab_, aa_]; rfl) ?_ ?_))))
   ·first | trivial | simp
   refine .seq (.rgnD [] enM (by simp only [go_sem, seval, ab_, aa_, db_ (show k < a.length by simpa using h14), db_ (show k < b.length by simp at h14 h10; omega)]; rfl) (by rfl) ?_ ?_)
   ·simp at h14 h10; simp; omega
   refine .condB (by simp only [go_sem, seval, ab_, aa_]; rfl) (by simp only [go_sem, seval, ab_, aa_]) (fun h24 => ?_) (fun h24 => ?_)
   ·refine .seq (.rgn [] (by simp only [go_sem, seval, ab_, aa_]; rfl) ?_ ?_)
    ·first | trivial | simp
    refine .ret ⟨.inr rfl, ?_⟩
    exact Out.plain (by simp only [Tryz.results172]; rfl) (by simp only [bd_, bo_, go_sem, seval, ab_, aa_] <;> (split <;> rfl)) (by simp only [bn_, go_sem, seval, ab_, aa_] <;> (have : a ≠ b := (fun e => by simp [e] at h24); simp [this])) (by simp only [go_sem, seval, ab_, aa_])
   ·refine .skip (.rgn [] (by simp only [go_sem, seval, ab_, aa_]; rfl) ?_ ?_)
    ·first | trivial | simp
    refine Exists.intro (k + 1) ⟨?_, ?_, ?_⟩
    ·simp only [T3_] at h14; simp at h10; exact ⟨by omega, acv_ (by omega) (by omega) hI.2 (by simpa using h24)⟩
    ·simp at h14; omega
    exact Can.weak (Weak.lit (by simp only [go_sem, seval, ab_, aa_, ay_, leV, aw_, ax_, V.inn, us, T9_, Ta_] <;> (rw [bx_ (by simp at h14; omega) (by simp at h14; omega)]; simp)) (by simp only [go_sem, seval, ab_, aa_, ay_, leV, aw_, ax_, V.inn, us, T9_, Ta_]) (by simp only [go_sem, seval, ab_, aa_, ay_, leV, aw_, ax_, V.inn, us, T9_, Ta_]))
  ·refine .exit (.seq (.rgn [] (by simp only [go_sem, seval, ab_, aa_]; rfl) ?_ ?_))
   ·first | trivial | simp
   refine .ret ⟨.inr rfl, ?_⟩
   exact Out.plain (by simp only [Tryz.results172]; rfl) (by simp only [bd_, bo_, go_sem, seval, ab_, aa_] <;> (split <;> rfl)) (by simp only [bn_, go_sem, seval, ab_, aa_] <;> (simp only [T4_] at h14; simp at h10; have q := hI.2; rw [T1_ (by omega), T1_ (by omega)] at q; simp [q])) (by simp only [go_sem, seval, ab_, aa_])
def la_ (w : List Str) : Bool := (f5_ w).isSome
theorem ib_ (w : List Str) (hw : smW w) (hl : w.length ≤ 1000000) : ACall En 113 [.sl false (cb_ w)] [] [.ag (eC (ex w)), .b (la_ w)] [] := by
 have hR : w.length ≤ 40 → ACall En 171 [.pt 0 3 0 0, .i .i64 ((1 : Nat) : Int)] [rsB ⟨w, false, 0⟩] [.ag (eC (dg_ 500 1 ⟨w, false, 0⟩).1)] [rsB (dg_ 500 1 ⟨w, false, 0⟩).2] := fun h => (aft_ 500).1 1 ⟨w, false, 0⟩ (by decide) ⟨hw, Int.le_refl _, by dsimp only; omega⟩ (by dsimp only; omega)
 have hS := ((i_sm 500).1 1 ⟨w, false, 0⟩ hw).1
 have hE : f5_ w = if w.length ≤ 40 then (if ((dg_ 500 1 ⟨w, false, 0⟩).2.bad || !(dg_ 500 1 ⟨w, false, 0⟩).2.left.isEmpty || !eok (dg_ 500 1 ⟨w, false, 0⟩).1 || !(wds (dg_ 500 1 ⟨w, false, 0⟩).1 1 == w)) then none else some (dg_ 500 1 ⟨w, false, 0⟩).1) else none := rfl
 have hL := (aac_ 500).1 1 ⟨w, false, 0⟩
 generalize dg_ 500 1 ⟨w, false, 0⟩ = q at *
 have hq : (!q.2.left.isEmpty) = decide ((q.2.left.length : Int) > 0) := by cases q.2.left <;> simp
 rw [hq] at hE
 have n1 : decide ((w.length : Int) > 40) = true → f5_ w = none := fun h => by rw [hE, if_neg (by simp at h; omega)]
 have n2 : decide ((w.length : Int) > 40) = false → (q.2.bad || decide ((q.2.left.length : Int) > 0) || !eok q.1 || !(wds q.1 1 == w)) = true → f5_ w = none := fun h h2 => by rw [hE, if_pos (by simp at h; omega), if_pos h2]
 have n3 : decide ((w.length : Int) > 40) = false → (q.2.bad || decide ((q.2.left.length : Int) > 0) || !eok q.1 || !(wds q.1 1 == w)) = false → f5_ w = some q.1 := fun h h2 => by rw [hE, if_pos (by simp at h; omega), h2]; rfl
 refine ao_ (fn := Tryz.f113) [] Tryz.func113 rfl rfl (by simp) fun C => ?_
 rw [bb_]
 simp only [Tryz.ntmps113, T7_, List.length_nil, Nat.reduceAdd, Nat.reduceSub, List.replicate_succ, List.replicate_zero, List.cons_append, List.nil_append, bu_]
 refine .seq (.rgn [] (by simp only [go_sem, seval, an_, ar_, ab_, aa_]; rfl) ?_ ?_)
 ·first | trivial | simp
 refine .seq (.seq (.rgn [] (by simp only [go_sem, seval, an_, ar_, ab_, aa_]; rfl) ?_ ?_))
 ·first | trivial | simp
 refine .condB (by simp only [go_sem, seval, an_, ar_, ab_, aa_]; rfl) (by simp only [go_sem, seval, an_, ar_, ab_, aa_]) (fun h8 => ?_) (fun h8 => ?_)
 ·refine .seq (.rgn [] (by simp only [go_sem, seval, an_, ar_, ab_, aa_]; rfl) ?_ ?_)
  ·first | trivial | simp
  refine .ret ⟨.inr rfl, ?_⟩
  exact Out.plainL (by simp only [Tryz.results113]; rfl) (by simp only [bd_, bo_, go_sem, seval, an_, ar_, ab_, aa_] <;> (split <;> rfl)) (by simp only [bn_, go_sem, seval, an_, ar_, ab_, aa_] <;> (simp [ex, la_, n1 h8, E0, E.kind, E.n, E.s, E.kids, eR, ler])) (by simp only [go_sem, seval, an_, ar_, ab_, aa_])
 ·refine .skip (.seq (.rgn [] (by simp only [go_sem, seval, an_, ar_, ab_, aa_]; rfl) ?_ ?_))
  ·first | trivial | simp
  refine .seq (.rgn [c4_ [22] [] (hR (by simp at h8; omega))] (by simp only [go_sem, seval, an_, ar_, ab_, aa_]; rfl) ?_ ?_)
  ·first | trivial | simp
  refine .seq (.seq (.rgn [bj_ (ho_ q.1 hS), dc_ (eok q.1 = true) (fun h => ut_ q.1 h hS), dc_ (eok q.1 = true) (fun h => ahr_ (wds q.1 1) w (by have := (c8_ h 1).2.1; omega) (by omega))] (by simp only [go_sem, seval, an_, ar_, ab_, aa_]; rfl) ?_ ?_))
  ·(have key : ∀ x : Bool, x = false → (!x) = true := (fun x h => by rw [h]; rfl)); exact ⟨⟨⟨⟨key _, key _⟩, fun h => ⟨h, by simp at h; exact h.2⟩⟩, fun h => ⟨h, by simp at h; exact h.2⟩⟩, key _⟩
  refine .condB (by simp only [go_sem, seval, an_, ar_, ab_, aa_]; rfl) (by simp only [go_sem, seval, an_, ar_, ab_, aa_]) (fun h38 => ?_) (fun h38 => ?_)
  ·refine .seq (.rgn [] (by simp only [go_sem, seval, an_, ar_, ab_, aa_]; rfl) ?_ ?_)
   ·first | trivial | simp
   refine .ret ⟨.inr rfl, ?_⟩
   exact Out.plainL (by simp only [Tryz.results113]; rfl) (by simp only [bd_, bo_, go_sem, seval, an_, ar_, ab_, aa_] <;> (split <;> rfl)) (by simp only [bn_, go_sem, seval, an_, ar_, ab_, aa_] <;> (simp [ex, la_, n2 h8 h38, E0, E.kind, E.n, E.s, E.kids, eR, ler])) (by simp only [go_sem, seval, an_, ar_, ab_, aa_])
  ·refine .skip (.seq (.rgn [] (by simp only [go_sem, seval, an_, ar_, ab_, aa_]; rfl) ?_ ?_))
   ·first | trivial | simp
   refine .ret ⟨.inr rfl, ?_⟩
   exact Out.plainL (by simp only [Tryz.results113]; rfl) (by simp only [bd_, bo_, go_sem, seval, an_, ar_, ab_, aa_] <;> (split <;> rfl)) (by simp only [bn_, go_sem, seval, an_, ar_, ab_, aa_] <;> (simp [ex, la_, n3 h8 h38, by_])) (by simp only [go_sem, seval, an_, ar_, ab_, aa_])
end
end Go.Proofs.YtefmbmafdgedmaaGreatDoor
