/- Plain laws of the program's reader: brackets are counted, texts are not made longer. Conditions: none. -/
import Derived.Test.YtpikbndepapbhaaGreatDoorKd
import Derived.Test.YtpikbndepapbhaaGreatDoorKb
import Derived.Test.YtpikbndepapbhaaGreatDoorKn
import Derived.Test.YtpikbndepapbhaaGreatDoorKh
import Derived.Test.YtpikbndepapbhaaGreatDoorKi
import Derived.Test.YtpikbndepapbhaaGreatDoorKj
set_option linter.unusedVariables false
set_option linter.unusedSimpArgs false
namespace Go.Proofs.YtpikbndepapbhaaGreatDoor
section
def Dn (s' s : RS) (k : Int) : Prop := s.deep ≤ s'.deep ∧ s'.deep + s'.left.length ≤ s.deep + s.left.length + k ∧ s'.left.length ≤ s.left.length
theorem Dn.refl (s : RS) : Dn s s 0 := ⟨Int.le_refl _, by omega, Nat.le_refl _⟩
theorem Dn.trans {a b c : RS} {k m : Int} (h : Dn a b k) (g : Dn b c m) : Dn a c (k + m) := ⟨by have := h.1; have := g.1; omega, by have := h.2.1; have := g.2.1; omega, by have := h.2.2; have := g.2.2; omega⟩
theorem Dn.le {a b : RS} {k m : Int} (h : Dn a b k) (hm : k ≤ m) : Dn a b m := ⟨h.1, by have := h.2.1; omega, h.2.2⟩
theorem Dn.next (s : RS) : Dn (b4_ s) s (if s.left = [] then 0 else -1) := by
 unfold b4_ Dn
 cases h : s.left with
 | nil => simp [h]
 | cons x r => simp [h]; omega
theorem Dn.nx (s : RS) : Dn (b4_ s) s 0 := (Dn.next s).le (by split <;> omega)
theorem Dn.as (s : RS) (e : E) : Dn (asR s e).2 s 0 := by
 have h1 := zn_ s e
 have h2 := aeb_ s e
 exact ⟨by omega, by omega, h1⟩
theorem Dn.bad (s : RS) (b : Bool) : Dn { s with bad := b } s 0 := ⟨Int.le_refl _, by dsimp only; omega, Nat.le_refl _⟩
theorem adz_ : ∀ n : Nat, (∀ t s, Dn (cw_ n t s).2 s 0) ∧ (∀ t e s, Dn (dr_ n t e s).2 s 0) ∧ (∀ s, Dn (e8_ n s).2 s 0) ∧ (∀ w s, Dn (ef_ n w s).2 s (if w = [40] then 1 else 0))
 | 0 => ⟨fun t s => by simp only [cw_]; exact Dn.refl s, fun t e s => by simp only [dr_]; exact Dn.refl s, fun s => by simp only [e8_]; exact Dn.refl s, fun w s => by simp only [ef_]; exact (Dn.refl s).le (by split <;> omega)⟩
 | n + 1 => by
  obtain ⟨h1, h2, h3, h4⟩ := adz_ n
  refine ⟨fun t s => ?_, fun t e s => ?_, fun s => ?_, fun w s => ?_⟩
  ·simp only [cw_]
   split
   ·exact h3 s
   ·exact ((h2 t _ _).trans (h1 (t + 1) s)).le (by omega)
  ·simp only [dr_]
   split
   ·exact (((h2 t _ _).trans (h1 (t + 1) _)).trans (Dn.nx s)).le (by omega)
   ·exact Dn.refl s
  ·simp only [e8_]
   refine (((Dn.as _ _).trans (h4 (ck_ s) (b4_ s))).trans (Dn.next s)).le ?_
   unfold ck_
   cases hl : s.left with
   | nil => simp
   | cons x r => simp only [reduceCtorEq, if_false]; split <;> omega
  ·simp only [ef_]
   split
   ·split
    ·exact ⟨by dsimp only; omega, by dsimp only; omega, Nat.le_refl _⟩
    ·have hD : Dn { s with deep := s.deep + 1 } s 1 := ⟨by dsimp only; omega, by dsimp only; omega, Nat.le_refl _⟩
     dsimp only
     split
     ·exact ((h1 1 _).trans hD).le (by omega)
     ·have q := ((Dn.nx (cw_ n 1 { s with deep := s.deep + 1 }).2).trans ((h1 1 _).trans hD)).le (m := 1) (by omega)
      exact ⟨q.1, q.2.1, q.2.2⟩
   ·split
    ·exact Dn.refl s
    ·split
     ·exact Dn.refl s
     ·exact Dn.bad s true
def smW (l : List Str) : Prop := ∀ w ∈ l, w.length ≤ 281474976710656
theorem hh_ {s : RS} (h : smW s.left) : smW (b4_ s).left ∧ (ck_ s).length ≤ 281474976710656 := by
 unfold b4_ ck_
 cases hl : s.left with
 | nil => simp [smW, hl]
 | cons x r => rw [hl] at h; exact ⟨fun w hw => h w (List.mem_cons_of_mem _ hw), h x List.mem_cons_self⟩
theorem w6_ {a b : E} {k n : Int} {s : Str} (hs : s.length < 4611686018427387904) (ha : sm a = true) (hb : sm b = true) : sm (.mk k n s [a, b]) = true := by simp [sm, sms, ha, hb, hs]
theorem xt_ {a : E} {k n : Int} {s : Str} (hs : s.length < 4611686018427387904) (ha : sm a = true) : sm (.mk k n s [a]) = true := by simp [sm, sms, ha, hs]
theorem of_ {k n : Int} {s : Str} (hs : s.length < 4611686018427387904) : sm (.mk k n s []) = true := by simp [sm, sms, hs]
theorem acp_ : ∀ (l : List Str) (e : E) (d : Int), smW l → sm e = true → sm (asL l e d).1 = true ∧ smW (asL l e d).2.left
 | [], e, d, h, he => by simp only [asL]; exact ⟨he, h⟩
 | [w], e, d, h, he => by
  simp only [asL]; split
  ·exact ⟨xt_ (by simp) he, fun w hw => by cases hw⟩
  ·exact ⟨he, h⟩
 | w :: t :: r, e, d, h, he => by
  simp only [asL]; split
  ·exact acp_ r _ d (fun x hx => h x (by simp [hx])) (xt_ (Nat.lt_of_le_of_lt (h t (by simp)) (by decide)) he)
  ·exact ⟨he, h⟩
theorem ako_ (s : RS) (e : E) (h : smW s.left) (he : sm e = true) : sm (asR s e).1 = true ∧ smW (asR s e).2.left := by
 unfold asR; split
 ·exact ⟨he, h⟩
 ·exact acp_ _ _ _ h he
theorem i_sm : ∀ n : Nat, (∀ t s, smW s.left → sm (cw_ n t s).1 = true ∧ smW (cw_ n t s).2.left) ∧ (∀ t e s, sm e = true → smW s.left → sm (dr_ n t e s).1 = true ∧ smW (dr_ n t e s).2.left) ∧ (∀ s, smW s.left → sm (e8_ n s).1 = true ∧ smW (e8_ n s).2.left) ∧ (∀ w s, w.length < 4611686018427387904 → smW s.left → sm (ef_ n w s).1 = true ∧ smW (ef_ n w s).2.left)
 | 0 => ⟨fun t s h => by simp only [cw_]; exact ⟨by decide, h⟩, fun t e s he h => by simp only [dr_]; exact ⟨he, h⟩, fun s h => by simp only [e8_]; exact ⟨by decide, h⟩, fun w s hw h => by simp only [ef_]; exact ⟨by decide, h⟩⟩
 | n + 1 => by
  obtain ⟨h1, h2, h3, h4⟩ := i_sm n
  refine ⟨fun t s h => ?_, fun t e s he h => ?_, fun s h => ?_, fun w s hw h => ?_⟩
  ·simp only [cw_]
   split
   ·exact h3 s h
   ·exact h2 t _ _ (h1 (t + 1) s h).1 (h1 (t + 1) s h).2
  ·simp only [dr_]
   split
   ·have q := h1 (t + 1) (b4_ s) (hh_ h).1
    exact h2 t _ _ (w6_ (Nat.lt_of_le_of_lt (hh_ h).2 (by decide)) he q.1) q.2
   ·exact ⟨he, h⟩
  ·simp only [e8_]
   have q := h4 (ck_ s) (b4_ s) (Nat.lt_of_le_of_lt (hh_ h).2 (by decide)) (hh_ h).1
   exact ako_ _ _ q.2 q.1
  ·simp only [ef_]
   split
   ·split
    ·exact ⟨(show sm E0 = true by decide), h⟩
    ·have q := h1 1 { s with deep := s.deep + 1 } h
     dsimp only
     refine ⟨q.1, ?_⟩
     split
     ·exact q.2
     ·exact (hh_ q.2).1
   ·split
    ·exact ⟨of_ (by simp), h⟩
    ·split
     ·exact ⟨of_ hw, h⟩
     ·exact ⟨(show sm E0 = true by decide), h⟩
end
section
set_option maxRecDepth 100000
set_option maxHeartbeats 4000000
abbrev rsB (s : RS) : Blk := ⟨165, 3, [[.sl false (bm_ s.left), .b s.bad, .i .i64 s.deep]]⟩
theorem mn_ (s : RS) (hl : s.left.length < 4611686018427387904) : ACall En 184 [.pt 0 3 0 0] [rsB s] [.s (ck_ s)] [rsB (b4_ s)] := by
 obtain ⟨left, bad, deep⟩ := s
 cases left with
 | nil =>
 refine al_ (fn := Tryz.f184) [0] Tryz.func184 rfl rfl (by simp) fun C => ?_
 rw [av_]
 simp only [Tryz.ntmps184, T7_, List.length_nil, Nat.reduceAdd, Nat.reduceSub, List.replicate_succ, List.replicate_zero, List.cons_append, List.nil_append, bt_]
 refine .seq (.rgn [] (by simp only [go_sem, seval, ao_, am_]; rfl) ?_ ?_)
 ·first | trivial | simp
 refine .seq (.seq (.rgn [] (by simp only [go_sem, seval, ao_, am_]; rfl) ?_ ?_))
 ·first | trivial | simp
 refine .condB (by simp only [go_sem, seval, ao_, am_]; rfl) (by simp only [go_sem, seval, ao_, am_]) (fun h9 => ?_) (fun h9 => ?_)
 ·refine .seq (.rgn [] (by simp only [go_sem, seval, ao_, am_]; rfl) ?_ ?_)
  ·first | trivial | simp
  refine .seq (.rgn [] (by simp only [go_sem, seval, ao_, am_]; rfl) ?_ ?_)
  ·first | trivial | simp
  refine .ret ⟨.inr rfl, ?_⟩
  exact Out.mem' (by simp only [Tryz.results184]; rfl) (by simp only [ax_, a6_, go_sem, seval, ao_, am_]) (by simp only [a4_, rns, rn, go_sem, seval, ao_, am_] <;> (rfl)) (by simp) rfl (by decide) (by simp only [go_sem, seval, ao_, am_]) (by simp only [ak_, go_sem, seval, ao_, am_]) (by simp only [ag_, go_sem, seval, ao_, am_] <;> (simp [b4_, ao_]))
 ·exact absurd h9 (by simp)
 | cons x r =>
 refine al_ (fn := Tryz.f184) [0] Tryz.func184 rfl rfl (by simp) fun C => ?_
 rw [av_]
 simp only [Tryz.ntmps184, T7_, List.length_nil, Nat.reduceAdd, Nat.reduceSub, List.replicate_succ, List.replicate_zero, List.cons_append, List.nil_append, bt_]
 refine .seq (.rgn [] (by simp only [go_sem, seval, ao_, am_]; rfl) ?_ ?_)
 ·first | trivial | simp
 refine .seq (.seq (.rgn [] (by simp only [go_sem, seval, ao_, am_]; rfl) ?_ ?_))
 ·first | trivial | simp
 refine .condB (by simp only [go_sem, seval, ao_, am_]; rfl) (by simp only [go_sem, seval, ao_, am_]) (fun h9 => ?_) (fun h9 => ?_)
 ·simp at h9; omega
 ·refine .skip (.seq (.rgn [] (by simp only [go_sem, seval, ao_, am_]; rfl) ?_ ?_))
  ·first | trivial | simp
  refine .seq (.rgn [] (by simp only [go_sem, seval, ao_, am_]; rfl) ?_ ?_)
  ·refine ⟨⟨by omega, by omega⟩, .inr fun q hq => ?_⟩; rcases List.mem_cons.1 hq with rfl | hq; rfl; exact p1_ hq
  refine .seq (.rgn [] (by simp only [go_sem, seval, ao_, am_]; rfl) ?_ ?_)
  ·first | trivial | simp
  refine .ret ⟨.inr rfl, ?_⟩
  exact Out.mem' (by simp only [Tryz.results184]; rfl) (by simp only [ax_, a6_, go_sem, seval, ao_, am_]) (by simp only [a4_, rns, rn, go_sem, seval, ao_, am_] <;> (rfl)) (by simp) rfl (by decide) (by simp only [go_sem, seval, ao_, am_]) (by simp only [ak_, go_sem, seval, ao_, am_]) (by simp only [ag_, go_sem, seval, ao_, am_] <;> (simp [b4_, T1_, ab_]))
theorem at_a (s : RS) (hl : s.left.length < 4611686018427387904) : ACall En 202 [.pt 0 3 0 0, .sl false [[.s [97, 115]]]] [rsB s] [.b (!s.bad && (!s.left.isEmpty && ck_ s == wAs))] [rsB s] := by
 obtain ⟨left, bad, deep⟩ := s
 cases left with
 | nil =>
 refine al_ (fn := Tryz.f202) [0] Tryz.func202 rfl rfl (by simp) fun C => ?_
 rw [av_]
 simp only [Tryz.ntmps202, T7_, List.length_nil, Nat.reduceAdd, Nat.reduceSub, List.replicate_succ, List.replicate_zero, List.cons_append, List.nil_append, bt_]
 refine .seq (.rgn [] (by simp only [go_sem, seval, asO, ao_, am_, wAs]; rfl) ?_ ?_)
 ·first | trivial | simp
 refine .seq (.rgnS [25] [asO En { v := .s [] }, a3_ (ks_ [wAs] [] (by decide))] (by simp only [go_sem, seval, asO, ao_, am_, wAs]; rfl) ?_ ?_)
 ·first | trivial | simp
 refine .ret ⟨.inr rfl, ?_⟩
 exact Out.mem' (by simp only [Tryz.results202]; rfl) (by simp only [ax_, a6_, go_sem, seval, asO, ao_, am_, wAs]) (by simp only [a4_, rns, rn, go_sem, seval, asO, ao_, am_, wAs] <;> (simp)) (by simp) rfl (by decide) (by simp only [go_sem, seval, asO, ao_, am_, wAs]) (by simp only [ak_, go_sem, seval, asO, ao_, am_, wAs]) (by simp only [ag_, go_sem, seval, asO, ao_, am_, wAs] <;> (simp [ao_]))
 | cons x r =>
 refine al_ (fn := Tryz.f202) [0] Tryz.func202 rfl rfl (by simp) fun C => ?_
 rw [av_]
 simp only [Tryz.ntmps202, T7_, List.length_nil, Nat.reduceAdd, Nat.reduceSub, List.replicate_succ, List.replicate_zero, List.cons_append, List.nil_append, bt_]
 refine .seq (.rgn [] (by simp only [go_sem, seval, ao_, am_, wAs]; rfl) ?_ ?_)
 ·first | trivial | simp
 refine .seq (.rgn [a3_ (ks_ [wAs] x (by decide))] (by simp only [go_sem, seval, ao_, am_, wAs]; rfl) ?_ ?_)
 ·first | trivial | simp
 refine .ret ⟨.inr rfl, ?_⟩
 exact Out.mem' (by simp only [Tryz.results202]; rfl) (by simp only [ax_, a6_, go_sem, seval, ao_, am_, wAs]) (by simp only [a4_, rns, rn, go_sem, seval, ao_, am_, wAs] <;> (simp [ck_, wAs])) (by simp) rfl (by decide) (by simp only [go_sem, seval, ao_, am_, wAs]) (by simp only [ak_, go_sem, seval, ao_, am_, wAs]) (by simp only [ag_, go_sem, seval, ao_, am_, wAs] <;> (simp [am_]))
end
section
set_option maxRecDepth 100000
set_option maxHeartbeats 8000000
def okS2 (s : RS) : Prop := smW s.left ∧ 0 ≤ s.deep ∧ s.deep + s.left.length ≤ 1000000
theorem okS2.of {s s' : RS} (h : okS2 s) (d : Dn s' s 0) (w : smW s'.left) : okS2 s' := ⟨w, by have := d.1; have := h.2.1; omega, by have := d.2.1; have := h.2.2; omega⟩
def y0_ (n : Nat) : Prop := ∀ (t : Nat) (s : RS), t ≤ 4 → okS2 s → 10 * s.left.length + 10 - t ≤ n → ACall En 152 [.pt 0 3 0 0, .i .i64 t] [rsB s] [.ag (eC (cw_ n t s).1)] [rsB (cw_ n t s).2]
def x0_ (n : Nat) : Prop := ∀ (s : RS), okS2 s → 10 * s.left.length + 5 ≤ n → ACall En 183 [.pt 0 3 0 0] [rsB s] [.ag (eC (e8_ n s).1)] [rsB (e8_ n s).2]
theorem ix_ {s : RS} (h : okS2 s) : okS2 (b4_ s) := h.of (Dn.nx s) (hh_ h.1).1
theorem w3_ {s : RS} (h : okS2 s) (n t : Nat) : okS2 (cw_ n t s).2 := h.of ((adz_ n).1 t s) ((i_sm n).1 t s h.1).2
theorem js_ {s : RS} (h : s.left ≠ []) : (b4_ s).left.length + 1 = s.left.length := by
 unfold b4_
 cases hl : s.left with
 | nil => exact absurd hl h
 | cons x r => rfl
theorem u7_ {s : RS} (h : s.left ≠ []) : (bm_ s.left).getD 0 [] = [.s (ck_ s)] := by
 unfold ck_
 cases hl : s.left with
 | nil => exact absurd hl h
 | cons x r => rfl
theorem afi_ {j t : Nat} {e : E} {s : RS} (h : ((!s.bad && decide ((s.left.length : Int) > 0)) && bb_ (ck_ s) == (t : Int)) = true) : dr_ (j + 1) t e s = dr_ j t (.mk 3 0 (ck_ s) [e, (cw_ j (t + 1) (b4_ s)).1]) (cw_ j (t + 1) (b4_ s)).2 ∧ s.left ≠ [] := by
 simp only [T5_, Bool.not_eq_true', T3_, beq_iff_eq] at h
 have hne : s.left ≠ [] := by intro e; rw [e] at h; simp at h
 simp only [dr_]
 rw [if_pos ⟨h.1.1, hne, h.2⟩]
 exact ⟨rfl, hne⟩
theorem ac2_ {j t : Nat} {e : E} {s : RS} (h : ((!s.bad && decide ((s.left.length : Int) > 0)) && bb_ (ck_ s) == (t : Int)) = false) : dr_ (j + 1) t e s = (e, s) := by
 simp only [dr_]
 rw [if_neg]
 rintro ⟨a, b, c⟩
 rw [a, c] at h
 cases hl : s.left with
 | nil => exact b hl
 | cons x r => rw [hl] at h; simp at h
theorem aeg_ {s : RS} (h : (!s.bad && decide ((s.left.length : Int) > 0)) = true) : s.left ≠ [] := by intro e; rw [e] at h; simp at h
theorem ak3_ {s : RS} (h : (!s.bad && decide ((s.left.length : Int) > 0)) = true) : (0 : Int) < s.left.length := by simp at h; omega
theorem wi_ {s : RS} (h : s.left ≠ []) : ((bm_ s.left).getD 0 []).length = 1 := by rw [u7_ h]; rfl
theorem ajw_ {s : RS} (h : s.left ≠ []) : ((bm_ s.left).getD 0 []).getD 0 .no = .s (ck_ s) := by rw [u7_ h]; rfl
def LI (n t : Nat) (s : RS) (q : Nat × E × RS) : Prop := okS2 q.2.2 ∧ 10 * q.2.2.left.length + 1 ≤ q.1 ∧ q.1 ≤ n ∧ dr_ n t (cw_ n (t + 1) s).1 (cw_ n (t + 1) s).2 = dr_ q.1 t q.2.1 q.2.2
def LN (t : Nat) (q : Nat × E × RS) : Nat × E × RS := (q.1 - 1, .mk 3 0 (ck_ q.2.2) [q.2.1, (cw_ (q.1 - 1) (t + 1) (b4_ q.2.2)).1], (cw_ (q.1 - 1) (t + 1) (b4_ q.2.2)).2)
theorem yl_ {n t : Nat} {s : RS} {q : Nat × E × RS} (h8 : ((t : Int) == 4) = false) (hI : LI n t s q) (h : ((!q.2.2.bad && decide ((q.2.2.left.length : Int) > 0)) && bb_ (ck_ q.2.2) == (t : Int)) = false) : cw_ (n + 1) t s = q.2 := by
 obtain ⟨j, e, s'⟩ := q
 obtain ⟨h1, h2, h3, h4⟩ := hI
 dsimp only at h1 h2 h3 h4 h ⊢
 obtain ⟨i, rfl⟩ : ∃ i, j = i + 1 := ⟨j - 1, by omega⟩
 rw [oh_ (by simp at h8; omega), h4, ac2_ h]
theorem t1_ {n t : Nat} {s : RS} {q : Nat × E × RS} (hI : LI n t s q) (h : ((!q.2.2.bad && decide ((q.2.2.left.length : Int) > 0)) && bb_ (ck_ q.2.2) == (t : Int)) = true) : LI n t s (LN t q) ∧ (LN t q).2.2.left.length < q.2.2.left.length := by
 obtain ⟨j, e, s'⟩ := q
 obtain ⟨h1, h2, h3, h4⟩ := hI
 unfold LI LN
 dsimp only at h1 h2 h3 h4 h ⊢
 obtain ⟨i, rfl⟩ : ∃ i, j = i + 1 := ⟨j - 1, by omega⟩
 obtain ⟨g1, g2⟩ := afi_ (j := i) (e := e) h
 have q1 := js_ g2
 have q2 := (yv_ i).1 (t + 1) (b4_ s')
 simp only [Nat.add_sub_cancel]
 exact ⟨⟨w3_ (ix_ h1) _ _, by omega, by omega, by rw [h4, g1]⟩, by omega⟩
theorem xg_ (n : Nat) (ihL : ∀ j, j < n + 1 → y0_ j) (ihH : ∀ j, j < n + 1 → x0_ j) : y0_ (n + 1) := fun t s ht hs hn => by
 obtain ⟨s1, s2, s3⟩ := hs
 have hlen : s.left.length < 4611686018427387904 := by omega
 have L1 : t < 4 → okS2 (cw_ n (t + 1) s).2 ∧ (cw_ n (t + 1) s).2.left.length ≤ s.left.length := fun _ => ⟨w3_ ⟨s1, s2, s3⟩ n (t + 1), (yv_ n).1 (t + 1) s⟩
 have LJ : ∀ q : Nat × E × RS, okS2 q.2.2 → 10 * q.2.2.left.length + 1 ≤ q.1 → q.1 ≤ n → q.2.2.left ≠ [] → t < 4 → ACall En 152 [.pt 0 3 0 0, .i .i64 ((t + 1 : Nat) : Int)] [rsB (b4_ q.2.2)] [.ag (eC (cw_ (q.1 - 1) (t + 1) (b4_ q.2.2)).1)] [rsB (cw_ (q.1 - 1) (t + 1) (b4_ q.2.2)).2] := fun q h1 h2 h3 h4 h5 => by
  have := js_ h4
  exact ihL (q.1 - 1) (by omega) (t + 1) (b4_ q.2.2) (by omega) (ix_ h1) (by omega)
 have hw : IntKind.i64.wrap ((t : Int) + 1) = ((t + 1 : Nat) : Int) := by rw [bd_ (by omega) (by omega)]; rfl
 refine al_ (fn := Tryz.f152) [0] Tryz.func152 rfl rfl (by simp) fun C => ?_
 rw [av_]
 simp only [Tryz.ntmps152, T7_, List.length_nil, Nat.reduceAdd, Nat.reduceSub, List.replicate_succ, List.replicate_zero, List.cons_append, List.nil_append, bt_]
 refine .seq (.rgn [] (by simp only [go_sem, seval, asO, ag_, ak_, hw, ab_]; rfl) ?_ ?_)
 ·first | trivial | simp
 refine .seq (.seq (.rgn [] (by simp only [go_sem, seval, asO, ag_, ak_, hw, ab_]; rfl) ?_ ?_))
 ·first | trivial | simp
 refine .condB (by simp only [go_sem, seval, asO, ag_, ak_, hw, ab_]; rfl) (by simp only [go_sem, seval, asO, ag_, ak_, hw, ab_]) (fun h8 => ?_) (fun h8 => ?_)
 ·refine .seq (.rgn [bw_ [0] [] (ihH n (by omega) s ⟨s1, s2, s3⟩ (by simp at h8; omega))] (by simp only [go_sem, seval, asO, ag_, ak_, hw, ab_]; rfl) ?_ ?_)
  ·first | trivial | simp
  refine .ret ⟨.inr rfl, ?_⟩
  exact Out.mem' (by simp only [Tryz.results152]; rfl) (by simp only [ax_, a6_, go_sem, seval, asO, ag_, ak_, hw, ab_]) (by simp only [a4_, rns, rn, go_sem, seval, asO, ag_, ak_, hw, ab_] <;> ((obtain rfl : t = 4 := (by simp at h8; omega)); simp [oc_])) (by simp) rfl (by decide) (by simp only [go_sem, seval, asO, ag_, ak_, hw, ab_]) (by simp only [ak_, go_sem, seval, asO, ag_, ak_, hw, ab_]) (by simp only [ag_, go_sem, seval, asO, ag_, ak_, hw, ab_] <;> ((obtain rfl : t = 4 := (by simp at h8; omega)); simp [oc_]))
 ·refine .skip (.seq (.rgn [bw_ [0] [] (ihL n (by omega) (t + 1) s (by simp at h8; omega) ⟨s1, s2, s3⟩ (by simp at h8; omega))] (by simp only [go_sem, seval, asO, ag_, ak_, hw, ab_]; rfl) ?_ ?_))
  ·first | trivial | simp
  refine .seq (.block (.loopK (fun q : Nat × E × RS => ⟨[.pt 0 3 0 0, .i .i64 t, .no, .no, .pt 14 4 0 0, .pt 15 4 0 0, .no, .no, .no, .no, .no, .no, .no, .no, .no, .no, .no, .no, .no, .no, .no, .no, .no, .no, .no, .no, .no, .no, .no, .no, .no, .no, .no, .no, .no, .no, .no, .no, .no, .no, .no, .no, .no, .no, .no, .no, .no, .no, .no, .no], be_ [(0, rsB q.2.2), (14, ⟨64, 4, [[.i .i64 0, .i .i64 0, .s [], .sl true []]]⟩), (15, ⟨64, 4, [eC q.2.1]⟩)], us [14, 15]⟩) (fun q : Nat × E × RS => LI n t s q) (fun q : Nat × E × RS => q.2.2.left.length) ((n, (cw_ n (t + 1) s).1, (cw_ n (t + 1) s).2)) ?_ ?_ (fun q hI => ?_)))
  ·exact ⟨(L1 (by simp at h8; omega)).1, by have := (L1 (by simp at h8; omega)).2; dsimp only; simp at h8; omega, Nat.le_refl _, rfl⟩
  ·exact Can.weak (Weak.lit (by simp only [go_sem, seval, asO, ag_, ak_, hw, ab_, as_, leV, aq_, ar_, V.inn, us, T9_, Ta_]) (by simp only [go_sem, seval, asO, ag_, ak_, hw, ab_, as_, leV, aq_, ar_, V.inn, us, T9_, Ta_]) (by simp only [go_sem, seval, asO, ag_, ak_, hw, ab_, as_, leV, aq_, ar_, V.inn, us, T9_, Ta_]))
  refine .seq (.seq (.rgnS [34] [asO En { v := .s (ck_ q.2.2) }, a3_ (ja_ (ck_ q.2.2))] (by simp only [go_sem, seval, asO, ag_, ak_, hw, ab_]; rfl) ?_ ?_))
  ·exact ⟨fun h => ⟨h, ak3_ h, wi_ (aeg_ h)⟩, fun h => ⟨⟨h, by rw [wi_ (aeg_ h)]; exact Nat.le_refl _⟩, by rw [ajw_ (aeg_ h)]⟩⟩
  refine .condB (by simp only [go_sem, seval, asO, ag_, ak_, hw, ab_]; rfl) (by simp only [go_sem, seval, asO, ag_, ak_, hw, ab_]) (fun h38 => ?_) (fun h38 => ?_)
  ·refine .skip (.block (.seq (.rgn [bw_ [0] [] (mn_ q.2.2 (by have := hI.1.2; omega))] (by simp only [go_sem, seval, asO, ag_, ak_, hw, ab_]; rfl) ?_ ?_)))
   ·first | trivial | simp
   refine .rgnD [bw_ [0] [] (LJ q hI.1 hI.2.1 hI.2.2.1 (by simp at h38; intro e; simp [e] at h38) (by simp at h8; omega))] enM (by simp only [go_sem, seval, asO, ag_, ak_, hw, ab_]; rfl) (by rfl) ?_ ?_
   ·first | trivial | simp
   refine Exists.intro (LN t q) ⟨?_, ?_, ?_⟩
   ·exact (t1_ hI h38).1
   ·exact (t1_ hI h38).2
   refine Can.trans (Can.leAt 15 ([[.i .i64 3, .i .i64 0, .s (ck_ q.2.2), .sl false [eC q.2.1, eC (cw_ (q.1 - 1) (t + 1) (b4_ q.2.2)).1]]]) (by simp only [go_sem, seval, asO, ag_, ak_, hw, ab_] <;> rfl) (by simp only [go_sem, seval, asO, ag_, ak_, hw, ab_, ler, les, leV] <;> (first | trivial | simp)) (by simp only [go_sem, seval, asO, ag_, ak_, hw, ab_] <;> rfl)) ?_
   exact Can.weak (Weak.lit (by simp only [go_sem, seval, asO, ag_, ak_, hw, ab_, as_, leV, aq_, ar_, V.inn, us, T9_, Ta_]) (by simp only [go_sem, seval, asO, ag_, ak_, hw, ab_, as_, leV, aq_, ar_, V.inn, us, T9_, Ta_]) (by simp only [go_sem, seval, asO, ag_, ak_, hw, ab_, as_, leV, aq_, ar_, V.inn, us, T9_, Ta_] <;> (simp [LN, E.kind, E.n, E.s, E.kids, eR, a7_])))
  ·refine .exit (.seq (.rgn [] (by simp only [go_sem, seval, asO, ag_, ak_, hw, ab_]; rfl) ?_ ?_))
   ·first | trivial | simp
   refine .ret ⟨.inr rfl, ?_⟩
   exact Out.mem' (by simp only [Tryz.results152]; rfl) (by simp only [ax_, a6_, go_sem, seval, asO, ag_, ak_, hw, ab_]) (by simp only [a4_, rns, rn, go_sem, seval, asO, ag_, ak_, hw, ab_] <;> (rw [yl_ h8 hI h38])) (by simp) rfl (by decide) (by simp only [go_sem, seval, asO, ag_, ak_, hw, ab_]) (by simp only [ak_, go_sem, seval, asO, ag_, ak_, hw, ab_]) (by simp only [ag_, go_sem, seval, asO, ag_, ak_, hw, ab_] <;> (rw [yl_ h8 hI h38]; (try simp)))
end
section
set_option maxRecDepth 100000
set_option maxHeartbeats 8000000
theorem aby_ {s : RS} {e : E} (h : (!s.bad && (!s.left.isEmpty && ck_ s == wAs)) = true) : asR s e = asR (b4_ (b4_ s)) (.mk 4 0 (ck_ (b4_ s)) [e]) ∧ s.left ≠ [] := by
 obtain ⟨left, bad, deep⟩ := s
 cases left with
 | nil => simp at h
 | cons x r =>
  simp only [T5_, Bool.not_eq_true', beq_iff_eq, ck_] at h
  obtain ⟨rfl, _, rfl⟩ := h
  refine ⟨?_, by simp⟩
  cases r with
  | nil => simp [asR, asL, b4_, ck_]
  | cons t r => simp [asR, asL, b4_, ck_]
theorem ach_ {s : RS} {e : E} (h : (!s.bad && (!s.left.isEmpty && ck_ s == wAs)) = false) : asR s e = (e, s) := by
 obtain ⟨left, bad, deep⟩ := s
 cases bad with
 | true => simp [asR]
 | false =>
  match left with
  | [] => simp [asR, asL]
  | [x] => simp [ck_] at h; simp [asR, asL, h]
  | x :: t :: r => simp [ck_] at h; simp [asR, asL, h]
def HS (s : RS) : RS := ⟨(b4_ s).left, (b4_ s).bad || decide ((b4_ s).deep + 1 > 40), (b4_ s).deep + 1⟩
def HP (m : Nat) (s : RS) : E × RS := if (HS s).bad then (E0, HS s) else cw_ m 1 (HS s)
def HQ (q : E × RS) : E × RS := (q.1, if q.2.bad then q.2 else { b4_ q.2 with bad := !(ck_ q.2 == [41]) })
theorem ad5_ {m : Nat} {s : RS} (h : (!((b4_ s).bad || decide ((b4_ s).deep + 1 > 40))) = true) : HP m s = cw_ m 1 (HS s) := by
 unfold HP
 have : (HS s).bad = false := by simpa [HS] using h
 rw [this]; rfl
theorem ae0_ {m : Nat} {s : RS} (h : (!((b4_ s).bad || decide ((b4_ s).deep + 1 > 40))) = false) : HP m s = (E0, HS s) := by
 unfold HP
 have : (HS s).bad = true := by simp only [Bool.not_eq_false'] at h; exact h
 rw [this]; rfl
theorem jg_ {m : Nat} {s : RS} : ef_ (m + 1) [40] (b4_ s) = HQ (HP m s) := by
 simp only [ef_, if_true]
 by_cases h : (b4_ s).bad = true ∨ 40 < (b4_ s).deep + 1
 ·rw [if_pos h]
  have hx : ((b4_ s).bad || decide ((b4_ s).deep + 1 > 40)) = true := by simpa using h
  rw [ae0_ (by rw [hx]; rfl)]
  simp only [HQ, HS, hx, if_true]
 ·rw [if_neg h]
  have hx : ((b4_ s).bad || decide ((b4_ s).deep + 1 > 40)) = false := by simp at h ⊢; exact ⟨h.1, by omega⟩
  have hb : (b4_ s).bad = false := by simp at h; exact h.1
  have e : HS s = { b4_ s with deep := (b4_ s).deep + 1 } := by unfold HS; rw [hx, ← hb]
  rw [ad5_ (by rw [hx]; rfl), e]; rfl
theorem if_ {n : Nat} {w : Str} {s : RS} (h : w ≠ [40]) (h1 : c4_ w = false) (h2 : ga_ w = false) : ef_ (n + 1) w s = (E0, { s with bad := true }) := by simp [ef_, h, h1, h2]
theorem h8_ {s : RS} (h : okS2 s) (b : Bool) : okS2 { s with bad := b } := h
theorem sl_ {s : RS} (h : okS2 s) (hn : s.left ≠ []) : okS2 (HS s) := by
 have := js_ hn
 have h1 := ix_ h
 exact ⟨h1.1, by have := h1.2.1; simp only [HS]; omega, by have := qb_ s; have := h.2.2; simp only [HS]; omega⟩
theorem yq_ {s : RS} (h : okS2 s) (hn : s.left ≠ []) (m : Nat) : okS2 (HP m s).2 := by
 unfold HP; split
 ·exact sl_ h hn
 ·exact w3_ (sl_ h hn) m 1
theorem k9_ {q : E × RS} (h : okS2 q.2) : okS2 (HQ q).2 := by
 unfold HQ; dsimp only; split
 ·exact h
 ·exact h8_ (ix_ h) _
theorem sd_ {s : RS} (h : ck_ s ≠ []) : s.left ≠ [] := by unfold ck_ at h; intro e; rw [e] at h; exact h rfl
theorem dh_ {n : Nat} {s : RS} {q : E × RS} (h : ef_ n (ck_ s) (b4_ s) = q) : e8_ (n + 1) s = asR q.2 q.1 := by simp only [e8_, h]
theorem agq_ (s : Str) : d7_ (jt_ s) = true := by unfold jt_; split <;> rfl
theorem aa4_ (m : Nat) (ihL : ∀ j, j < m + 2 → y0_ j) : x0_ (m + 2) := fun s hs hn => by
 have h1 := ix_ hs
 have hd := qb_ s
 have hl1 := g2_ s
 have hb := hs.2.2
 have hb0 := hs.2.1
 have hH := (hh_ hs.1).2
 have hw : IntKind.i64.wrap ((b4_ s).deep + 1) = (b4_ s).deep + 1 := bd_ (by omega) (by omega)
 have hnv : c4_ (ck_ s) = true → jt_ (ck_ s) = .i .i64 (b7_ (ck_ s)) := fun h => by simp [jt_, h]
 have LB : s.left ≠ [] → ACall En 152 [.pt 0 3 0 0, .i .i64 ((1 : Nat) : Int)] [rsB (HS s)] [.ag (eC (cw_ m 1 (HS s)).1)] [rsB (cw_ m 1 (HS s)).2] := fun h => ihL m (by omega) 1 (HS s) (by omega) (sl_ hs h) (by have := js_ h; show 10 * (b4_ s).left.length + 10 - 1 ≤ m; omega)
 refine al_ (fn := Tryz.f183) [0] Tryz.func183 rfl rfl (by simp) fun C => ?_
 rw [av_]
 simp only [Tryz.ntmps183, T7_, List.length_nil, Nat.reduceAdd, Nat.reduceSub, List.replicate_succ, List.replicate_zero, List.cons_append, List.nil_append, bt_]
 refine .seq (.rgn [] (by simp only [go_sem, seval, ag_, ak_, hw]; rfl) ?_ ?_)
 ·first | trivial | simp
 refine .seq (.rgn [] (by simp only [go_sem, seval, ag_, ak_, hw]; rfl) ?_ ?_)
 ·first | trivial | simp
 refine .seq (.rgn [bw_ [0] [] (mn_ s (by omega))] (by simp only [go_sem, seval, ag_, ak_, hw]; rfl) ?_ ?_)
 ·first | trivial | simp
 refine .seq (.rgn [a3_ (v2_ (ck_ s) hH)] (by simp only [go_sem, seval, ag_, ak_, hw]; rfl) ?_ ?_)
 ·exact ⟨cg_ _, agq_ _⟩
 refine .seqJ (fun q2 : E × RS => ⟨[.pt 0 3 0 0, .no, .pt 12 4 0 0, .pt 13 4 0 0, .no, .no, .no, .no, .no, .no, .no, .no, .no, .no, .no, .no, .no, .no, .no, .no, .no, .no, .no, .no, .no, .no, .no, .no, .no, .no, .no, .no, .no, .no, .no, .no, .no, .no, .no, .no, .no, .no, .no, .no, .no, .no, .no, .no, .no, .no, .no, .no, .no, .no, .no, .no, .no, .no, .no, .no, .no, .no, .no, .no, .no, .no, .no, .no, .no, .no, .no, .no, .no, .no, .no, .no, .no, .no, .no, .no], be_ [(0, rsB q2.2), (12, ⟨64, 4, [[.i .i64 0, .i .i64 0, .s [], .sl true []]]⟩), (13, ⟨64, 4, [eC q2.1]⟩)], us [12, 13]⟩) (fun q2 : E × RS => e8_ (m + 2) s = asR q2.2 q2.1 ∧ okS2 q2.2) ?_ (fun q2 hJ => ?_)
 ·refine .block (.seq (.rgn [] (by simp only [go_sem, seval, ag_, ak_, hw]; rfl) ?_ ?_))
  ·first | trivial | simp
  refine .condB (by simp only [go_sem, seval, ag_, ak_, hw]; rfl) (by simp only [go_sem, seval, ag_, ak_, hw]) (fun h17 => ?_) (fun h17 => ?_)
  ·refine .seq (.rgn [] (by simp only [go_sem, seval, ag_, ak_, hw]; rfl) ?_ ?_)
   ·first | trivial | simp
   refine .seq (.rgn [] (by simp only [go_sem, seval, ag_, ak_, hw]; rfl) ?_ ?_)
   ·first | trivial | simp
   refine .seqJ (fun q : E × RS => ⟨[.pt 0 3 0 0, .no, .pt 12 4 0 0, .pt 13 4 0 0, .no, .no, .no, .no, .no, .no, .no, .no, .no, .no, .no, .no, .no, .no, .no, .no, .no, .no, .no, .no, .no, .no, .no, .no, .no, .no, .no, .no, .no, .no, .no, .no, .no, .no, .no, .no, .no, .no, .no, .no, .no, .no, .no, .no, .no, .no, .no, .no, .no, .no, .no, .no, .no, .no, .no, .no, .no, .no, .no, .no, .no, .no, .no, .no, .no, .no, .no, .no, .no, .no, .no, .no, .no, .no, .no, .no], be_ [(0, rsB q.2), (12, ⟨64, 4, [[.i .i64 0, .i .i64 0, .s [], .sl true []]]⟩), (13, ⟨64, 4, [eC q.1]⟩)], us [12, 13]⟩) (fun q : E × RS => q = HP m s ∧ okS2 q.2) ?_ (fun q hJ => ?_)
   ·refine .seq (.rgn [] (by simp only [go_sem, seval, ag_, ak_, hw]; rfl) ?_ ?_)
    ·first | trivial | simp
    refine .condB (by simp only [go_sem, seval, ag_, ak_, hw]; rfl) (by simp only [go_sem, seval, ag_, ak_, hw]) (fun h45 => ?_) (fun h45 => ?_)
    ·refine .rgn [bw_ [0] [] (LB (sd_ (by simp at h17; rw [h17]; simp)))] (by simp only [go_sem, seval, ag_, ak_, hw]; rfl) ?_ ?_
     ·first | trivial | simp
     refine Exists.intro (HP m s) ⟨?_, ?_⟩
     ·exact ⟨rfl, yq_ hs (sd_ (by simp at h17; rw [h17]; simp)) m⟩
     exact Can.weak (Weak.lit (by simp only [go_sem, seval, ag_, ak_, hw, as_, leV, aq_, ar_, V.inn, us, T9_, Ta_]) (by simp only [go_sem, seval, ag_, ak_, hw, as_, leV, aq_, ar_, V.inn, us, T9_, Ta_]) (by simp only [go_sem, seval, ag_, ak_, hw, as_, leV, aq_, ar_, V.inn, us, T9_, Ta_] <;> (first | (rw [ad5_ h45]; simp; done) | (rw [ae0_ h45]; simp [HS, E0, E.kind, E.n, E.s, E.kids, eR]; done))))
    ·refine .skip ?_
     refine Exists.intro (HP m s) ⟨?_, ?_⟩
     ·exact ⟨rfl, yq_ hs (sd_ (by simp at h17; rw [h17]; simp)) m⟩
     refine Can.trans (Can.leAt 13 ([[.i .i64 0, .i .i64 0, .s [], .sl false []]]) (by simp only [go_sem, seval, ag_, ak_, hw] <;> rfl) (by simp only [go_sem, seval, ag_, ak_, hw, ler, les, leV] <;> (first | trivial | simp)) (by simp only [go_sem, seval, ag_, ak_, hw] <;> rfl)) ?_
     exact Can.weak (Weak.lit (by simp only [go_sem, seval, ag_, ak_, hw, as_, leV, aq_, ar_, V.inn, us, T9_, Ta_]) (by simp only [go_sem, seval, ag_, ak_, hw, as_, leV, aq_, ar_, V.inn, us, T9_, Ta_]) (by simp only [go_sem, seval, ag_, ak_, hw, as_, leV, aq_, ar_, V.inn, us, T9_, Ta_] <;> (first | (rw [ad5_ h45]; simp; done) | (rw [ae0_ h45]; simp [HS, E0, E.kind, E.n, E.s, E.kids, eR]; done))))
   cases hb : q.2.bad
   ·refine .rgn [bw_ [0] [] (mn_ q.2 (by have := (hJ.2 : okS2 q.2).2.2; have := (hJ.2 : okS2 q.2).2.1; omega))] (by simp only [go_sem, seval, ag_, ak_, hw, hb]; rfl) ?_ ?_
    ·(first | trivial | (simp; done) | (simp [hb]; done))
    refine Exists.intro (HQ q) ⟨?_, ?_⟩
    ·first | exact ⟨dh_ (by rw [show ck_ s = [40] from by simpa using h17, jg_, hJ.1]), k9_ hJ.2⟩ | exact ⟨dh_ (g4_ (by simpa using h17) (by simpa using h60)), h1⟩ | exact ⟨dh_ (f6_ (by simpa using h17) (by simpa using h60) (by simpa using h64)), h1⟩ | exact ⟨dh_ (if_ (by simpa using h17) (by simpa using h60) (by simpa using h64)), h8_ h1 true⟩
    exact Can.weak (Weak.lit (by simp only [go_sem, seval, ag_, ak_, hw, as_, leV, aq_, ar_, V.inn, us, T9_, Ta_]) (by simp only [go_sem, seval, ag_, ak_, hw, as_, leV, aq_, ar_, V.inn, us, T9_, Ta_]) (by simp only [go_sem, seval, ag_, ak_, hw, as_, leV, aq_, ar_, V.inn, us, T9_, Ta_] <;> (first | (simp [HQ, hb]; done) | (simp [E.kind, E.n, E.s, E.kids, eR]; done) | (simp [E0, E.kind, E.n, E.s, E.kids, eR]; done))))
   ·refine .rgn [bw_ [0] [] (mn_ q.2 (by have := (hJ.2 : okS2 q.2).2.2; have := (hJ.2 : okS2 q.2).2.1; omega))] (by simp only [go_sem, seval, ag_, ak_, hw, hb]; rfl) ?_ ?_
    ·(first | trivial | (simp; done) | (simp [hb]; done))
    refine Exists.intro (HQ q) ⟨?_, ?_⟩
    ·first | exact ⟨dh_ (by rw [show ck_ s = [40] from by simpa using h17, jg_, hJ.1]), k9_ hJ.2⟩ | exact ⟨dh_ (g4_ (by simpa using h17) (by simpa using h60)), h1⟩ | exact ⟨dh_ (f6_ (by simpa using h17) (by simpa using h60) (by simpa using h64)), h1⟩ | exact ⟨dh_ (if_ (by simpa using h17) (by simpa using h60) (by simpa using h64)), h8_ h1 true⟩
    exact Can.weak (Weak.lit (by simp only [go_sem, seval, ag_, ak_, hw, as_, leV, aq_, ar_, V.inn, us, T9_, Ta_]) (by simp only [go_sem, seval, ag_, ak_, hw, as_, leV, aq_, ar_, V.inn, us, T9_, Ta_]) (by simp only [go_sem, seval, ag_, ak_, hw, as_, leV, aq_, ar_, V.inn, us, T9_, Ta_] <;> (first | (simp [HQ, hb]; done) | (simp [E.kind, E.n, E.s, E.kids, eR]; done) | (simp [E0, E.kind, E.n, E.s, E.kids, eR]; done))))
  ·refine .seq (.rgn [] (by simp only [go_sem, seval, ag_, ak_, hw]; rfl) ?_ ?_)
   ·first | trivial | simp
   refine .condB (by simp only [go_sem, seval, ag_, ak_, hw]; rfl) (by simp only [go_sem, seval, ag_, ak_, hw]) (fun h60 => ?_) (fun h60 => ?_)
   ·refine .rgn [] (by simp only [go_sem, seval, ag_, ak_, hw, hnv (by simpa using h60)]; rfl) ?_ ?_
    ·first | trivial | simp
    refine Exists.intro ((.mk 1 (b7_ (ck_ s)) [] [], b4_ s)) ⟨?_, ?_⟩
    ·first | exact ⟨dh_ (by rw [show ck_ s = [40] from by simpa using h17, jg_, hJ.1]), k9_ hJ.2⟩ | exact ⟨dh_ (g4_ (by simpa using h17) (by simpa using h60)), h1⟩ | exact ⟨dh_ (f6_ (by simpa using h17) (by simpa using h60) (by simpa using h64)), h1⟩ | exact ⟨dh_ (if_ (by simpa using h17) (by simpa using h60) (by simpa using h64)), h8_ h1 true⟩
    refine Can.trans (Can.leAt 13 ([[.i .i64 1, .i .i64 (b7_ (ck_ s)), .s [], .sl false []]]) (by simp only [go_sem, seval, ag_, ak_, hw] <;> rfl) (by simp only [go_sem, seval, ag_, ak_, hw, ler, les, leV] <;> (first | trivial | simp)) (by simp only [go_sem, seval, ag_, ak_, hw] <;> rfl)) ?_
    exact Can.weak (Weak.lit (by simp only [go_sem, seval, ag_, ak_, hw, as_, leV, aq_, ar_, V.inn, us, T9_, Ta_]) (by simp only [go_sem, seval, ag_, ak_, hw, as_, leV, aq_, ar_, V.inn, us, T9_, Ta_]) (by simp only [go_sem, seval, ag_, ak_, hw, as_, leV, aq_, ar_, V.inn, us, T9_, Ta_] <;> (first | (simp [HQ, hb]; done) | (simp [E.kind, E.n, E.s, E.kids, eR]; done) | (simp [E0, E.kind, E.n, E.s, E.kids, eR]; done))))
   ·refine .seq (.rgn [a3_ (pm_ (ck_ s) (by omega))] (by simp only [go_sem, seval, ag_, ak_, hw]; rfl) ?_ ?_)
    ·first | trivial | simp
    refine .condB (by simp only [go_sem, seval, ag_, ak_, hw]; rfl) (by simp only [go_sem, seval, ag_, ak_, hw]) (fun h64 => ?_) (fun h64 => ?_)
    ·refine .rgn [] (by simp only [go_sem, seval, ag_, ak_, hw]; rfl) ?_ ?_
     ·first | trivial | simp
     refine Exists.intro ((.mk 2 0 (ck_ s) [], b4_ s)) ⟨?_, ?_⟩
     ·first | exact ⟨dh_ (by rw [show ck_ s = [40] from by simpa using h17, jg_, hJ.1]), k9_ hJ.2⟩ | exact ⟨dh_ (g4_ (by simpa using h17) (by simpa using h60)), h1⟩ | exact ⟨dh_ (f6_ (by simpa using h17) (by simpa using h60) (by simpa using h64)), h1⟩ | exact ⟨dh_ (if_ (by simpa using h17) (by simpa using h60) (by simpa using h64)), h8_ h1 true⟩
     refine Can.trans (Can.leAt 13 ([[.i .i64 2, .i .i64 0, .s (ck_ s), .sl false []]]) (by simp only [go_sem, seval, ag_, ak_, hw] <;> rfl) (by simp only [go_sem, seval, ag_, ak_, hw, ler, les, leV] <;> (first | trivial | simp)) (by simp only [go_sem, seval, ag_, ak_, hw] <;> rfl)) ?_
     exact Can.weak (Weak.lit (by simp only [go_sem, seval, ag_, ak_, hw, as_, leV, aq_, ar_, V.inn, us, T9_, Ta_]) (by simp only [go_sem, seval, ag_, ak_, hw, as_, leV, aq_, ar_, V.inn, us, T9_, Ta_]) (by simp only [go_sem, seval, ag_, ak_, hw, as_, leV, aq_, ar_, V.inn, us, T9_, Ta_] <;> (first | (simp [HQ, hb]; done) | (simp [E.kind, E.n, E.s, E.kids, eR]; done) | (simp [E0, E.kind, E.n, E.s, E.kids, eR]; done))))
    ·refine .rgn [] (by simp only [go_sem, seval, ag_, ak_, hw]; rfl) ?_ ?_
     ·first | trivial | simp
     refine Exists.intro ((E0, { b4_ s with bad := true })) ⟨?_, ?_⟩
     ·first | exact ⟨dh_ (by rw [show ck_ s = [40] from by simpa using h17, jg_, hJ.1]), k9_ hJ.2⟩ | exact ⟨dh_ (g4_ (by simpa using h17) (by simpa using h60)), h1⟩ | exact ⟨dh_ (f6_ (by simpa using h17) (by simpa using h60) (by simpa using h64)), h1⟩ | exact ⟨dh_ (if_ (by simpa using h17) (by simpa using h60) (by simpa using h64)), h8_ h1 true⟩
     refine Can.trans (Can.leAt 13 ([[.i .i64 0, .i .i64 0, .s [], .sl false []]]) (by simp only [go_sem, seval, ag_, ak_, hw] <;> rfl) (by simp only [go_sem, seval, ag_, ak_, hw, ler, les, leV] <;> (first | trivial | simp)) (by simp only [go_sem, seval, ag_, ak_, hw] <;> rfl)) ?_
     exact Can.weak (Weak.lit (by simp only [go_sem, seval, ag_, ak_, hw, as_, leV, aq_, ar_, V.inn, us, T9_, Ta_]) (by simp only [go_sem, seval, ag_, ak_, hw, as_, leV, aq_, ar_, V.inn, us, T9_, Ta_]) (by simp only [go_sem, seval, ag_, ak_, hw, as_, leV, aq_, ar_, V.inn, us, T9_, Ta_] <;> (first | (simp [HQ, hb]; done) | (simp [E.kind, E.n, E.s, E.kids, eR]; done) | (simp [E0, E.kind, E.n, E.s, E.kids, eR]; done))))
 refine .seq (.block (.loopK (fun p : E × RS => ⟨[.pt 0 3 0 0, .no, .pt 12 4 0 0, .pt 13 4 0 0, .no, .no, .no, .no, .no, .no, .no, .no, .no, .no, .no, .no, .no, .no, .no, .no, .no, .no, .no, .no, .no, .no, .no, .no, .no, .no, .no, .no, .no, .no, .no, .no, .no, .no, .no, .no, .no, .no, .no, .no, .no, .no, .no, .no, .no, .no, .no, .no, .no, .no, .no, .no, .no, .no, .no, .no, .no, .no, .no, .no, .no, .no, .no, .no, .no, .no, .no, .no, .no, .no, .no, .no, .no, .no, .no, .no], be_ [(0, rsB p.2), (12, ⟨64, 4, [[.i .i64 0, .i .i64 0, .s [], .sl true []]]⟩), (13, ⟨64, 4, [eC p.1]⟩)], us [12, 13]⟩) (fun p : E × RS => asR q2.2 q2.1 = asR p.2 p.1 ∧ okS2 p.2) (fun p : E × RS => p.2.left.length) (q2) ?_ ?_ (fun p hI => ?_)))
 ·exact ⟨rfl, hJ.2⟩
 ·exact Can.weak (Weak.lit (by simp only [go_sem, seval, ag_, ak_, hw, as_, leV, aq_, ar_, V.inn, us, T9_, Ta_]) (by simp only [go_sem, seval, ag_, ak_, hw, as_, leV, aq_, ar_, V.inn, us, T9_, Ta_]) (by simp only [go_sem, seval, ag_, ak_, hw, as_, leV, aq_, ar_, V.inn, us, T9_, Ta_]))
 refine .seq (.seq (.rgn [bw_ [0] [] (at_a p.2 (by have := hI.2.2.2; have := hI.2.2.1; omega))] (by simp only [go_sem, seval, ag_, ak_, hw]; rfl) ?_ ?_))
 ·first | trivial | simp
 refine .condB (by simp only [go_sem, seval, ag_, ak_, hw]; rfl) (by simp only [go_sem, seval, ag_, ak_, hw]) (fun h71 => ?_) (fun h71 => ?_)
 ·refine .skip (.block (.seq (.rgn [bw_ [0] [] (mn_ p.2 (by have := hI.2.2.2; have := hI.2.2.1; omega))] (by simp only [go_sem, seval, ag_, ak_, hw]; rfl) ?_ ?_)))
  ·first | trivial | simp
  refine .rgnD [bw_ [0] [] (mn_ (b4_ p.2) (by have := hI.2.2.2; have := hI.2.2.1; have := g2_ p.2; omega))] enM (by simp only [go_sem, seval, ag_, ak_, hw]; rfl) (by rfl) ?_ ?_
  ·first | trivial | simp
  refine Exists.intro ((.mk 4 0 (ck_ (b4_ p.2)) [p.1], b4_ (b4_ p.2))) ⟨?_, ?_, ?_⟩
  ·exact ⟨by rw [hI.1, (aby_ h71).1], ix_ (ix_ hI.2)⟩
  ·have q1 := js_ (aby_ (e := p.1) h71).2; have q2 := g2_ (b4_ p.2); dsimp only; omega
  refine Can.trans (Can.leAt 13 ([[.i .i64 4, .i .i64 0, .s (ck_ (b4_ p.2)), .sl false [eC p.1]]]) (by simp only [go_sem, seval, ag_, ak_, hw] <;> rfl) (by simp only [go_sem, seval, ag_, ak_, hw, ler, les, leV] <;> (first | trivial | simp)) (by simp only [go_sem, seval, ag_, ak_, hw] <;> rfl)) ?_
  exact Can.weak (Weak.lit (by simp only [go_sem, seval, ag_, ak_, hw, as_, leV, aq_, ar_, V.inn, us, T9_, Ta_]) (by simp only [go_sem, seval, ag_, ak_, hw, as_, leV, aq_, ar_, V.inn, us, T9_, Ta_]) (by simp only [go_sem, seval, ag_, ak_, hw, as_, leV, aq_, ar_, V.inn, us, T9_, Ta_] <;> (simp [E.kind, E.n, E.s, E.kids, eR, a7_])))
 ·refine .exit (.seq (.rgn [] (by simp only [go_sem, seval, ag_, ak_, hw]; rfl) ?_ ?_))
  ·first | trivial | simp
  refine .ret ⟨.inr rfl, ?_⟩
  exact Out.mem' (by simp only [Tryz.results183]; rfl) (by simp only [ax_, a6_, go_sem, seval, ag_, ak_, hw]) (by simp only [a4_, rns, rn, go_sem, seval, ag_, ak_, hw] <;> (rw [hJ.1, hI.1, ach_ h71])) (by simp) rfl (by decide) (by simp only [go_sem, seval, ag_, ak_, hw]) (by simp only [ak_, go_sem, seval, ag_, ak_, hw]) (by simp only [ag_, go_sem, seval, ag_, ak_, hw] <;> (rw [hJ.1, hI.1, ach_ h71]; (try simp)))
theorem ad9_ (n : Nat) : y0_ n ∧ x0_ n := by
 induction n using Nat.strongRecOn with
 | ind n ih =>
 refine ⟨?_, ?_⟩
 ·cases n with
  | zero => intro t s ht hs hn; omega
  | succ n => exact xg_ n (fun j hj => (ih j hj).1) (fun j hj => (ih j hj).2)
 ·match n with
  | 0 => intro s hs hn; omega
  | 1 => intro s hs hn; omega
  | m + 2 => exact aa4_ m (fun j hj => (ih j hj).1)
end
section
set_option maxRecDepth 100000
set_option maxHeartbeats 8000000
theorem tg_ (e : E) (h : eok e = true) (hs : sm e = true) : ACall En 154 [.ag (eC e)] [] [.sl false (bm_ (wds e 1))] [] := by
 have hf := bx_ h
 have hm : many e ((5 : Nat) : Int) ≤ 12 := h2_ h
 have hw := de_ 5 e 0 hf
 have W : ACall En 121 [.ag (eC e), .i .i64 0, .pt 0 1 0 0] [⟨3, 1, [[.i .i64 0]]⟩] [.sl false (wdR (src e 0 0))] [⟨3, 1, [[.i .i64 (0 + cnt e)]]⟩] :=
  ACall.frzL (Lr := [⟨3, 1, [[.i .i64 (0 + cnt e)]]⟩]) (lk_ 5 e 0 0 hf hs (by omega) (by decide) (by omega) (by decide)) (by simp) (by simp [fx_, frz, ah_, T1_])
 have hl : (src e 0 0).length ≤ 1000000 := by rw [show (src e 0 0).length = (wds e 0).length by rw [← em_ e 0 0, List.length_map]]; omega
 refine al_ (fn := Tryz.f154) [] Tryz.func154 rfl rfl (by simp) fun C => ?_
 rw [av_]
 simp only [Tryz.ntmps154, T7_, List.length_nil, Nat.reduceAdd, Nat.reduceSub, List.replicate_succ, List.replicate_zero, List.cons_append, List.nil_append, bt_]
 refine .seq (.rgn [] (by simp only [go_sem, seval, ag_, ak_, ae_]; rfl) ?_ ?_)
 ·first | trivial | simp
 refine .seq (.seq (.rgn [a3_ (g5_ e hs)] (by simp only [go_sem, seval, ag_, ak_, ae_]; rfl) ?_ ?_))
 ·first | trivial | simp
 refine .condB (by simp only [go_sem, seval, ag_, ak_, ae_]; rfl) (by simp only [go_sem, seval, ag_, ak_, ae_]) (fun h6 => ?_) (fun h6 => ?_)
 ·simp [h] at h6
 ·refine .skip (.seq (.rgn [] (by simp only [go_sem, seval, ag_, ak_, ae_]; rfl) ?_ ?_))
  ·first | trivial | simp
  refine .seq (.rgn [bw_ [13] [] W, a3_ (jp_ (src e 0 0) hl)] (by simp only [go_sem, seval, ag_, ak_, ae_]; rfl) ?_ ?_)
  ·first | trivial | simp
  refine .ret ⟨.inr rfl, ?_⟩
  exact Out.plain (by simp only [Tryz.results154]; rfl) (by simp only [ax_, a6_, go_sem, seval, ag_, ak_, ae_] <;> (split <;> rfl)) (by simp only [a4_, go_sem, seval, ag_, ak_, ae_] <;> (rw [em_, e2_ hf])) (by simp only [go_sem, seval, ag_, ak_, ae_])
theorem abg_ {a b : List Str} {k : Nat} (ha : k < a.length) (hb : k < b.length) (h : a.take k = b.take k) (e : a.getD k [] = b.getD k []) : a.take (k + 1) = b.take (k + 1) := by
 rw [List.take_add_one (l := a), List.take_add_one (l := b), h, T6_ ha, T6_ hb]
 rw [T8_, T8_, T6_ ha, T6_ hb] at e
 rw [show a[k] = b[k] by simpa using e]
theorem aiq_ (a b : List Str) (ha : a.length ≤ 1000000000000) (hb : b.length ≤ 1000000000000) : ACall En 153 [.sl false (bm_ a), .sl false (bm_ b)] [] [.b (a == b)] [] := by
 refine al_ (fn := Tryz.f153) [] Tryz.func153 rfl rfl (by simp) fun C => ?_
 rw [av_]
 simp only [Tryz.ntmps153, T7_, List.length_nil, Nat.reduceAdd, Nat.reduceSub, List.replicate_succ, List.replicate_zero, List.cons_append, List.nil_append, bt_]
 refine .seq (.rgn [] (by simp only [go_sem, seval, ab_, aa_]; rfl) ?_ ?_)
 ·first | trivial | simp
 refine .seq (.seq (.rgn [] (by simp only [go_sem, seval, ab_, aa_]; rfl) ?_ ?_))
 ·first | trivial | simp
 refine .condB (by simp only [go_sem, seval, ab_, aa_]; rfl) (by simp only [go_sem, seval, ab_, aa_]) (fun h10 => ?_) (fun h10 => ?_)
 ·refine .seq (.rgn [] (by simp only [go_sem, seval, ab_, aa_]; rfl) ?_ ?_)
  ·first | trivial | simp
  refine .ret ⟨.inr rfl, ?_⟩
  exact Out.plain (by simp only [Tryz.results153]; rfl) (by simp only [ax_, a6_, go_sem, seval, ab_, aa_] <;> (split <;> rfl)) (by simp only [a4_, go_sem, seval, ab_, aa_] <;> (have : a ≠ b := (fun e => by simp [e] at h10); simp [this])) (by simp only [go_sem, seval, ab_, aa_])
 ·refine .skip (.seq (.seq (.rgn [] (by simp only [go_sem, seval, ab_, aa_]; rfl) ?_ ?_)))
  ·first | trivial | simp
  refine .block (.loopK (fun k : Nat => ⟨[.sl false (bm_ a), .sl false (bm_ b), .no, .no, .no, .no, .no, .no, .no, .no, .no, .no, .i .i64 a.length, .i .i64 k, .no, .no, .no, .no, .no, .no, .no, .no, .no, .no, .no, .no], be_ [], us []⟩) (fun k : Nat => k ≤ a.length ∧ a.take k = b.take k) (fun k : Nat => a.length - k) (0) ?_ ?_ (fun k hI => ?_))
  ·exact ⟨Nat.zero_le _, rfl⟩
  ·exact Can.weak (Weak.lit (by simp only [go_sem, seval, ab_, aa_, as_, leV, aq_, ar_, V.inn, us, T9_, Ta_] <;> (simp)) (by simp only [go_sem, seval, ab_, aa_, as_, leV, aq_, ar_, V.inn, us, T9_, Ta_]) (by simp only [go_sem, seval, ab_, aa_, as_, leV, aq_, ar_, V.inn, us, T9_, Ta_]))
  refine .seq (.rgn [] (by simp only [go_sem, seval, ab_, aa_]; rfl) ?_ ?_)
  ·first | trivial | simp
  refine .seq (.condB (by simp only [go_sem, seval, ab_, aa_]; rfl) (by simp only [go_sem, seval, ab_, aa_]) (fun h14 => ?_) (fun h14 => ?_))
  ·refine .skip (.seq (.block (.seq (.rgn [] (by simp only [go_sem, seval, ab_, aa_]; rfl) ?_ ?_))))
   ·first | trivial | simp
   refine .seq (.rgnD [] enM (by simp only [go_sem, seval, ab_, aa_, cj_ (show k < a.length by simpa using h14), cj_ (show k < b.length by simp at h14 h10; omega)]; rfl) (by rfl) ?_ ?_)
   ·simp at h14 h10; simp; omega
   refine .condB (by simp only [go_sem, seval, ab_, aa_]; rfl) (by simp only [go_sem, seval, ab_, aa_]) (fun h24 => ?_) (fun h24 => ?_)
   ·refine .seq (.rgn [] (by simp only [go_sem, seval, ab_, aa_]; rfl) ?_ ?_)
    ·first | trivial | simp
    refine .ret ⟨.inr rfl, ?_⟩
    exact Out.plain (by simp only [Tryz.results153]; rfl) (by simp only [ax_, a6_, go_sem, seval, ab_, aa_] <;> (split <;> rfl)) (by simp only [a4_, go_sem, seval, ab_, aa_] <;> (have : a ≠ b := (fun e => by simp [e] at h24); simp [this])) (by simp only [go_sem, seval, ab_, aa_])
   ·refine .skip (.rgn [] (by simp only [go_sem, seval, ab_, aa_]; rfl) ?_ ?_)
    ·first | trivial | simp
    refine Exists.intro (k + 1) ⟨?_, ?_, ?_⟩
    ·simp only [T3_] at h14; simp at h10; exact ⟨by omega, abg_ (by omega) (by omega) hI.2 (by simpa using h24)⟩
    ·simp at h14; omega
    exact Can.weak (Weak.lit (by simp only [go_sem, seval, ab_, aa_, as_, leV, aq_, ar_, V.inn, us, T9_, Ta_] <;> (rw [bd_ (by simp at h14; omega) (by simp at h14; omega)]; simp)) (by simp only [go_sem, seval, ab_, aa_, as_, leV, aq_, ar_, V.inn, us, T9_, Ta_]) (by simp only [go_sem, seval, ab_, aa_, as_, leV, aq_, ar_, V.inn, us, T9_, Ta_]))
  ·refine .exit (.seq (.rgn [] (by simp only [go_sem, seval, ab_, aa_]; rfl) ?_ ?_))
   ·first | trivial | simp
   refine .ret ⟨.inr rfl, ?_⟩
   exact Out.plain (by simp only [Tryz.results153]; rfl) (by simp only [ax_, a6_, go_sem, seval, ab_, aa_] <;> (split <;> rfl)) (by simp only [a4_, go_sem, seval, ab_, aa_] <;> (simp only [T4_] at h14; simp at h10; have q := hI.2; rw [T1_ (by omega), T1_ (by omega)] at q; simp [q])) (by simp only [go_sem, seval, ab_, aa_])
def ku_ (w : List Str) : Bool := (fi_ w).isSome
theorem hm_ (w : List Str) (hw : smW w) (hl : w.length ≤ 1000000) : ACall En 112 [.sl false (bm_ w)] [] [.ag (eC (ex w)), .b (ku_ w)] [] := by
 have hR : w.length ≤ 40 → ACall En 152 [.pt 0 3 0 0, .i .i64 ((1 : Nat) : Int)] [rsB ⟨w, false, 0⟩] [.ag (eC (cw_ 500 1 ⟨w, false, 0⟩).1)] [rsB (cw_ 500 1 ⟨w, false, 0⟩).2] := fun h => (ad9_ 500).1 1 ⟨w, false, 0⟩ (by decide) ⟨hw, Int.le_refl _, by dsimp only; omega⟩ (by dsimp only; omega)
 have hS := ((i_sm 500).1 1 ⟨w, false, 0⟩ hw).1
 have hE : fi_ w = if w.length ≤ 40 then (if ((cw_ 500 1 ⟨w, false, 0⟩).2.bad || !(cw_ 500 1 ⟨w, false, 0⟩).2.left.isEmpty || !eok (cw_ 500 1 ⟨w, false, 0⟩).1 || !(wds (cw_ 500 1 ⟨w, false, 0⟩).1 1 == w)) then none else some (cw_ 500 1 ⟨w, false, 0⟩).1) else none := rfl
 have hL := (yv_ 500).1 1 ⟨w, false, 0⟩
 generalize cw_ 500 1 ⟨w, false, 0⟩ = q at *
 have hq : (!q.2.left.isEmpty) = decide ((q.2.left.length : Int) > 0) := by cases q.2.left <;> simp
 rw [hq] at hE
 have n1 : decide ((w.length : Int) > 40) = true → fi_ w = none := fun h => by rw [hE, if_neg (by simp at h; omega)]
 have n2 : decide ((w.length : Int) > 40) = false → (q.2.bad || decide ((q.2.left.length : Int) > 0) || !eok q.1 || !(wds q.1 1 == w)) = true → fi_ w = none := fun h h2 => by rw [hE, if_pos (by simp at h; omega), if_pos h2]
 have n3 : decide ((w.length : Int) > 40) = false → (q.2.bad || decide ((q.2.left.length : Int) > 0) || !eok q.1 || !(wds q.1 1 == w)) = false → fi_ w = some q.1 := fun h h2 => by rw [hE, if_pos (by simp at h; omega), h2]; rfl
 refine al_ (fn := Tryz.f112) [] Tryz.func112 rfl rfl (by simp) fun C => ?_
 rw [av_]
 simp only [Tryz.ntmps112, T7_, List.length_nil, Nat.reduceAdd, Nat.reduceSub, List.replicate_succ, List.replicate_zero, List.cons_append, List.nil_append, bt_]
 refine .seq (.rgn [] (by simp only [go_sem, seval, ag_, ak_, ab_, aa_]; rfl) ?_ ?_)
 ·first | trivial | simp
 refine .seq (.seq (.rgn [] (by simp only [go_sem, seval, ag_, ak_, ab_, aa_]; rfl) ?_ ?_))
 ·first | trivial | simp
 refine .condB (by simp only [go_sem, seval, ag_, ak_, ab_, aa_]; rfl) (by simp only [go_sem, seval, ag_, ak_, ab_, aa_]) (fun h8 => ?_) (fun h8 => ?_)
 ·refine .seq (.rgn [] (by simp only [go_sem, seval, ag_, ak_, ab_, aa_]; rfl) ?_ ?_)
  ·first | trivial | simp
  refine .ret ⟨.inr rfl, ?_⟩
  exact Out.plainL (by simp only [Tryz.results112]; rfl) (by simp only [ax_, a6_, go_sem, seval, ag_, ak_, ab_, aa_] <;> (split <;> rfl)) (by simp only [a4_, go_sem, seval, ag_, ak_, ab_, aa_] <;> (simp [ex, ku_, n1 h8, E0, E.kind, E.n, E.s, E.kids, eR, ler])) (by simp only [go_sem, seval, ag_, ak_, ab_, aa_])
 ·refine .skip (.seq (.rgn [] (by simp only [go_sem, seval, ag_, ak_, ab_, aa_]; rfl) ?_ ?_))
  ·first | trivial | simp
  refine .seq (.rgn [bw_ [22] [] (hR (by simp at h8; omega))] (by simp only [go_sem, seval, ag_, ak_, ab_, aa_]; rfl) ?_ ?_)
  ·first | trivial | simp
  refine .seq (.seq (.rgn [a3_ (g5_ q.1 hS), cm_ (eok q.1 = true) (fun h => tg_ q.1 h hS), cm_ (eok q.1 = true) (fun h => aiq_ (wds q.1 1) w (by have := (cq_ h 1).2.1; omega) (by omega))] (by simp only [go_sem, seval, ag_, ak_, ab_, aa_]; rfl) ?_ ?_))
  ·(have key : ∀ x : Bool, x = false → (!x) = true := (fun x h => by rw [h]; rfl)); exact ⟨⟨⟨⟨key _, key _⟩, fun h => ⟨h, by simp at h; exact h.2⟩⟩, fun h => ⟨h, by simp at h; exact h.2⟩⟩, key _⟩
  refine .condB (by simp only [go_sem, seval, ag_, ak_, ab_, aa_]; rfl) (by simp only [go_sem, seval, ag_, ak_, ab_, aa_]) (fun h38 => ?_) (fun h38 => ?_)
  ·refine .seq (.rgn [] (by simp only [go_sem, seval, ag_, ak_, ab_, aa_]; rfl) ?_ ?_)
   ·first | trivial | simp
   refine .ret ⟨.inr rfl, ?_⟩
   exact Out.plainL (by simp only [Tryz.results112]; rfl) (by simp only [ax_, a6_, go_sem, seval, ag_, ak_, ab_, aa_] <;> (split <;> rfl)) (by simp only [a4_, go_sem, seval, ag_, ak_, ab_, aa_] <;> (simp [ex, ku_, n2 h8 h38, E0, E.kind, E.n, E.s, E.kids, eR, ler])) (by simp only [go_sem, seval, ag_, ak_, ab_, aa_])
  ·refine .skip (.seq (.rgn [] (by simp only [go_sem, seval, ag_, ak_, ab_, aa_]; rfl) ?_ ?_))
   ·first | trivial | simp
   refine .ret ⟨.inr rfl, ?_⟩
   exact Out.plainL (by simp only [Tryz.results112]; rfl) (by simp only [ax_, a6_, go_sem, seval, ag_, ak_, ab_, aa_] <;> (split <;> rfl)) (by simp only [a4_, go_sem, seval, ag_, ak_, ab_, aa_] <;> (simp [ex, ku_, n3 h8 h38, a8_])) (by simp only [go_sem, seval, ag_, ak_, ab_, aa_])
end
end Go.Proofs.YtpikbndepapbhaaGreatDoor
