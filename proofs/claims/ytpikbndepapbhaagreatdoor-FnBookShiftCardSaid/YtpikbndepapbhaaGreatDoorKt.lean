/- Plain laws of the program's reader: brackets are counted, texts are not made longer. Conditions: none. -/
import Derived.Test.YtpikbndepapbhaaGreatDoorKd
import Derived.Test.YtpikbndepapbhaaGreatDoorKb
import Derived.Test.YtpikbndepapbhaaGreatDoorKn
import Derived.Test.YtpikbndepapbhaaGreatDoorKh
import Derived.Test.YtpikbndepapbhaaGreatDoorKi
import Derived.Test.YtpikbndepapbhaaGreatDoorKj
set_option linter.unusedVariables false
set_option linter.unusedSimpArgs false
namespace Go.Proofs.YtpikbndepapbhaaGreatDoor
section
def Dn (s' s : RS) (k : Int) : Prop := s.deep ≤ s'.deep ∧ s'.deep + s'.left.length ≤ s.deep + s.left.length + k ∧ s'.left.length ≤ s.left.length
theorem Dn.refl (s : RS) : Dn s s 0 := ⟨Int.le_refl _, by omega, Nat.le_refl _⟩
theorem Dn.trans {a b c : RS} {k m : Int} (h : Dn a b k) (g : Dn b c m) : Dn a c (k + m) := ⟨by have := h.1; have := g.1; omega, by have := h.2.1; have := g.2.1; omega, by have := h.2.2; have := g.2.2; omega⟩
theorem Dn.le {a b : RS} {k m : Int} (h : Dn a b k) (hm : k ≤ m) : Dn a b m := ⟨h.1, by have := h.2.1; omega, h.2.2⟩
theorem Dn.next (s : RS) : Dn (b3_ s) s (if s.left = [] then 0 else -1) := by
 unfold b3_ Dn
 cases h : s.left with
 | nil => simp [h]
 | cons x r => simp [h]; omega
theorem Dn.nx (s : RS) : Dn (b3_ s) s 0 := (Dn.next s).le (by split <;> omega)
theorem Dn.as (s : RS) (e : E) : Dn (asR s e).2 s 0 := by
 have h1 := zm_ s e
 have h2 := ag1_ s e
 exact ⟨by omega, by omega, h1⟩
theorem Dn.bad (s : RS) (b : Bool) : Dn { s with bad := b } s 0 := ⟨Int.le_refl _, by dsimp only; omega, Nat.le_refl _⟩
theorem afa_ : ∀ n : Nat, (∀ t s, Dn (cp_ n t s).2 s 0) ∧ (∀ t e s, Dn (dq_ n t e s).2 s 0) ∧ (∀ s, Dn (fc_ n s).2 s 0) ∧ (∀ w s, Dn (ef_ n w s).2 s (if w = [40] then 1 else 0))
 | 0 => ⟨fun t s => by simp only [cp_]; exact Dn.refl s, fun t e s => by simp only [dq_]; exact Dn.refl s, fun s => by simp only [fc_]; exact Dn.refl s, fun w s => by simp only [ef_]; exact (Dn.refl s).le (by split <;> omega)⟩
 | n + 1 => by
  obtain ⟨h1, h2, h3, h4⟩ := afa_ n
  refine ⟨fun t s => ?_, fun t e s => ?_, fun s => ?_, fun w s => ?_⟩
  ·simp only [cp_]
   split
   ·exact h3 s
   ·exact ((h2 t _ _).trans (h1 (t + 1) s)).le (by omega)
  ·simp only [dq_]
   split
   ·exact (((h2 t _ _).trans (h1 (t + 1) _)).trans (Dn.nx s)).le (by omega)
   ·exact Dn.refl s
  ·simp only [fc_]
   refine (((Dn.as _ _).trans (h4 (b9_ s) (b3_ s))).trans (Dn.next s)).le ?_
   unfold b9_
   cases hl : s.left with
   | nil => simp
   | cons x r => simp only [reduceCtorEq, if_false]; split <;> omega
  ·simp only [ef_]
   split
   ·split
    ·exact ⟨by dsimp only; omega, by dsimp only; omega, Nat.le_refl _⟩
    ·have hD : Dn { s with deep := s.deep + 1 } s 1 := ⟨by dsimp only; omega, by dsimp only; omega, Nat.le_refl _⟩
     dsimp only
     split
     ·exact ((h1 1 _).trans hD).le (by omega)
     ·have q := ((Dn.nx (cp_ n 1 { s with deep := s.deep + 1 }).2).trans ((h1 1 _).trans hD)).le (m := 1) (by omega)
      exact ⟨q.1, q.2.1, q.2.2⟩
   ·split
    ·exact Dn.refl s
    ·split
     ·exact Dn.refl s
     ·exact Dn.bad s true
def smW (l : List Str) : Prop := ∀ w ∈ l, w.length ≤ 281474976710656
theorem hb_ {s : RS} (h : smW s.left) : smW (b3_ s).left ∧ (b9_ s).length ≤ 281474976710656 := by
 unfold b3_ b9_
 cases hl : s.left with
 | nil => simp [smW, hl]
 | cons x r => rw [hl] at h; exact ⟨fun w hw => h w (List.mem_cons_of_mem _ hw), h x List.mem_cons_self⟩
theorem x9_ {a b : E} {k n : Int} {s : Str} (hs : s.length < 4611686018427387904) (ha : sm a = true) (hb : sm b = true) : sm (.mk k n s [a, b]) = true := by simp [sm, sms, ha, hb, hs]
theorem yf_ {a : E} {k n : Int} {s : Str} (hs : s.length < 4611686018427387904) (ha : sm a = true) : sm (.mk k n s [a]) = true := by simp [sm, sms, ha, hs]
theorem n7_ {k n : Int} {s : Str} (hs : s.length < 4611686018427387904) : sm (.mk k n s []) = true := by simp [sm, sms, hs]
theorem ahk_ : ∀ (l : List Str) (e : E) (d : Int), smW l → sm e = true → sm (asL l e d).1 = true ∧ smW (asL l e d).2.left
 | [], e, d, h, he => by simp only [asL]; exact ⟨he, h⟩
 | [w], e, d, h, he => by
  simp only [asL]; split
  ·exact ⟨yf_ (by simp) he, fun w hw => by cases hw⟩
  ·exact ⟨he, h⟩
 | w :: t :: r, e, d, h, he => by
  simp only [asL]; split
  ·exact ahk_ r _ d (fun x hx => h x (by simp [hx])) (yf_ (Nat.lt_of_le_of_lt (h t (by simp)) (by decide)) he)
  ·exact ⟨he, h⟩
theorem all_ (s : RS) (e : E) (h : smW s.left) (he : sm e = true) : sm (asR s e).1 = true ∧ smW (asR s e).2.left := by
 unfold asR; split
 ·exact ⟨he, h⟩
 ·exact ahk_ _ _ _ h he
theorem i_sm : ∀ n : Nat, (∀ t s, smW s.left → sm (cp_ n t s).1 = true ∧ smW (cp_ n t s).2.left) ∧ (∀ t e s, sm e = true → smW s.left → sm (dq_ n t e s).1 = true ∧ smW (dq_ n t e s).2.left) ∧ (∀ s, smW s.left → sm (fc_ n s).1 = true ∧ smW (fc_ n s).2.left) ∧ (∀ w s, w.length < 4611686018427387904 → smW s.left → sm (ef_ n w s).1 = true ∧ smW (ef_ n w s).2.left)
 | 0 => ⟨fun t s h => by simp only [cp_]; exact ⟨by decide, h⟩, fun t e s he h => by simp only [dq_]; exact ⟨he, h⟩, fun s h => by simp only [fc_]; exact ⟨by decide, h⟩, fun w s hw h => by simp only [ef_]; exact ⟨by decide, h⟩⟩
 | n + 1 => by
  obtain ⟨h1, h2, h3, h4⟩ := i_sm n
  refine ⟨fun t s h => ?_, fun t e s he h => ?_, fun s h => ?_, fun w s hw h => ?_⟩
  ·simp only [cp_]
   split
   ·exact h3 s h
   ·exact h2 t _ _ (h1 (t + 1) s h).1 (h1 (t + 1) s h).2
  ·simp only [dq_]
   split
   ·have q := h1 (t + 1) (b3_ s) (hb_ h).1
    exact h2 t _ _ (x9_ (Nat.lt_of_le_of_lt (hb_ h).2 (by decide)) he q.1) q.2
   ·exact ⟨he, h⟩
  ·simp only [fc_]
   have q := h4 (b9_ s) (b3_ s) (Nat.lt_of_le_of_lt (hb_ h).2 (by decide)) (hb_ h).1
   exact all_ _ _ q.2 q.1
  ·simp only [ef_]
   split
   ·split
    ·exact ⟨(show sm E0 = true by decide), h⟩
    ·have q := h1 1 { s with deep := s.deep + 1 } h
     dsimp only
     refine ⟨q.1, ?_⟩
     split
     ·exact q.2
     ·exact (hb_ q.2).1
   ·split
    ·exact ⟨n7_ (by simp), h⟩
    ·split
     ·exact ⟨n7_ hw, h⟩
     ·exact ⟨(show sm E0 = true by decide), h⟩
end
section
set_option maxRecDepth 100000
set_option maxHeartbeats 4000000
abbrev rsB (s : RS) : Blk := ⟨165, 3, [[.sl false (bp_ s.left), .b s.bad, .i .i64 s.deep]]⟩
theorem m5_ (s : RS) (hl : s.left.length < 4611686018427387904) : ACall En 184 [.pt 0 3 0 0] [rsB s] [.s (b9_ s)] [rsB (b3_ s)] := by
 obtain ⟨left, bad, deep⟩ := s
 cases left with
 | nil =>
 refine al_ (fn := Tryz.f184) [0] Tryz.func184 rfl rfl (by simp) fun C => ?_
 rw [aw_]
 simp only [Tryz.ntmps184, T7_, List.length_nil, Nat.reduceAdd, Nat.reduceSub, List.replicate_succ, List.replicate_zero, List.cons_append, List.nil_append, bo_]
 refine .seq (.rgn [] (by simp only [go_sem, seval, ao_, an_]; rfl) ?_ ?_)
 ·first | trivial | simp
 refine .seq (.seq (.rgn [] (by simp only [go_sem, seval, ao_, an_]; rfl) ?_ ?_))
 ·first | trivial | simp
 refine .condB (by simp only [go_sem, seval, ao_, an_]; rfl) (by simp only [go_sem, seval, ao_, an_]) (fun h9 => ?_) (fun h9 => ?_)
 ·refine .seq (.rgn [] (by simp only [go_sem, seval, ao_, an_]; rfl) ?_ ?_)
  ·first | trivial | simp
  refine .seq (.rgn [] (by simp only [go_sem, seval, ao_, an_]; rfl) ?_ ?_)
  ·first | trivial | simp
  refine .ret ⟨.inr rfl, ?_⟩
  exact Out.mem' (by simp only [Tryz.results184]; rfl) (by simp only [ay_, a6_, go_sem, seval, ao_, an_]) (by simp only [a5_, rns, rn, go_sem, seval, ao_, an_] <;> (rfl)) (by simp) rfl (by decide) (by simp only [go_sem, seval, ao_, an_]) (by simp only [ak_, go_sem, seval, ao_, an_]) (by simp only [ag_, go_sem, seval, ao_, an_] <;> (simp [b3_, ao_]))
 ·exact absurd h9 (by simp)
 | cons x r =>
 refine al_ (fn := Tryz.f184) [0] Tryz.func184 rfl rfl (by simp) fun C => ?_
 rw [aw_]
 simp only [Tryz.ntmps184, T7_, List.length_nil, Nat.reduceAdd, Nat.reduceSub, List.replicate_succ, List.replicate_zero, List.cons_append, List.nil_append, bo_]
 refine .seq (.rgn [] (by simp only [go_sem, seval, ao_, an_]; rfl) ?_ ?_)
 ·first | trivial | simp
 refine .seq (.seq (.rgn [] (by simp only [go_sem, seval, ao_, an_]; rfl) ?_ ?_))
 ·first | trivial | simp
 refine .condB (by simp only [go_sem, seval, ao_, an_]; rfl) (by simp only [go_sem, seval, ao_, an_]) (fun h9 => ?_) (fun h9 => ?_)
 ·simp at h9; omega
 ·refine .skip (.seq (.rgn [] (by simp only [go_sem, seval, ao_, an_]; rfl) ?_ ?_))
  ·first | trivial | simp
  refine .seq (.rgn [] (by simp only [go_sem, seval, ao_, an_]; rfl) ?_ ?_)
  ·refine ⟨⟨by omega, by omega⟩, .inr fun q hq => ?_⟩; rcases List.mem_cons.1 hq with rfl | hq; rfl; exact o6_ hq
  refine .seq (.rgn [] (by simp only [go_sem, seval, ao_, an_]; rfl) ?_ ?_)
  ·first | trivial | simp
  refine .ret ⟨.inr rfl, ?_⟩
  exact Out.mem' (by simp only [Tryz.results184]; rfl) (by simp only [ay_, a6_, go_sem, seval, ao_, an_]) (by simp only [a5_, rns, rn, go_sem, seval, ao_, an_] <;> (rfl)) (by simp) rfl (by decide) (by simp only [go_sem, seval, ao_, an_]) (by simp only [ak_, go_sem, seval, ao_, an_]) (by simp only [ag_, go_sem, seval, ao_, an_] <;> (simp [b3_, T1_, ab_]))
theorem at_a (s : RS) (hl : s.left.length < 4611686018427387904) : ACall En 202 [.pt 0 3 0 0, .sl false [[.s [97, 115]]]] [rsB s] [.b (!s.bad && (!s.left.isEmpty && b9_ s == wAs))] [rsB s] := by
 obtain ⟨left, bad, deep⟩ := s
 cases left with
 | nil =>
 refine al_ (fn := Tryz.f202) [0] Tryz.func202 rfl rfl (by simp) fun C => ?_
 rw [aw_]
 simp only [Tryz.ntmps202, T7_, List.length_nil, Nat.reduceAdd, Nat.reduceSub, List.replicate_succ, List.replicate_zero, List.cons_append, List.nil_append, bo_]
 refine .seq (.rgn [] (by simp only [go_sem, seval, asO, ao_, an_, wAs]; rfl) ?_ ?_)
 ·first | trivial | simp
 refine .seq (.rgnS [25] [asO En { v := .s [] }, a4_ (k0_ [wAs] [] (by decide))] (by simp only [go_sem, seval, asO, ao_, an_, wAs]; rfl) ?_ ?_)
 ·first | trivial | simp
 refine .ret ⟨.inr rfl, ?_⟩
 exact Out.mem' (by simp only [Tryz.results202]; rfl) (by simp only [ay_, a6_, go_sem, seval, asO, ao_, an_, wAs]) (by simp only [a5_, rns, rn, go_sem, seval, asO, ao_, an_, wAs] <;> (simp)) (by simp) rfl (by decide) (by simp only [go_sem, seval, asO, ao_, an_, wAs]) (by simp only [ak_, go_sem, seval, asO, ao_, an_, wAs]) (by simp only [ag_, go_sem, seval, asO, ao_, an_, wAs] <;> (simp [ao_]))
 | cons x r =>
 refine al_ (fn := Tryz.f202) [0] Tryz.func202 rfl rfl (by simp) fun C => ?_
 rw [aw_]
 simp only [Tryz.ntmps202, T7_, List.length_nil, Nat.reduceAdd, Nat.reduceSub, List.replicate_succ, List.replicate_zero, List.cons_append, List.nil_append, bo_]
 refine .seq (.rgn [] (by simp only [go_sem, seval, ao_, an_, wAs]; rfl) ?_ ?_)
 ·first | trivial | simp
 refine .seq (.rgn [a4_ (k0_ [wAs] x (by decide))] (by simp only [go_sem, seval, ao_, an_, wAs]; rfl) ?_ ?_)
 ·first | trivial | simp
 refine .ret ⟨.inr rfl, ?_⟩
 exact Out.mem' (by simp only [Tryz.results202]; rfl) (by simp only [ay_, a6_, go_sem, seval, ao_, an_, wAs]) (by simp only [a5_, rns, rn, go_sem, seval, ao_, an_, wAs] <;> (simp [b9_, wAs])) (by simp) rfl (by decide) (by simp only [go_sem, seval, ao_, an_, wAs]) (by simp only [ak_, go_sem, seval, ao_, an_, wAs]) (by simp only [ag_, go_sem, seval, ao_, an_, wAs] <;> (simp [an_]))
end
section
set_option maxRecDepth 100000
set_option maxHeartbeats 8000000
def okS2 (s : RS) : Prop := smW s.left ∧ 0 ≤ s.deep ∧ s.deep + s.left.length ≤ 1000000
theorem okS2.of {s s' : RS} (h : okS2 s) (d : Dn s' s 0) (w : smW s'.left) : okS2 s' := ⟨w, by have := d.1; have := h.2.1; omega, by have := d.2.1; have := h.2.2; omega⟩
def z0_ (n : Nat) : Prop := ∀ (t : Nat) (s : RS), t ≤ 4 → okS2 s → 10 * s.left.length + 10 - t ≤ n → ACall En 152 [.pt 0 3 0 0, .i .i64 t] [rsB s] [.ag (eC (cp_ n t s).1)] [rsB (cp_ n t s).2]
def yj_ (n : Nat) : Prop := ∀ (s : RS), okS2 s → 10 * s.left.length + 5 ≤ n → ACall En 183 [.pt 0 3 0 0] [rsB s] [.ag (eC (fc_ n s).1)] [rsB (fc_ n s).2]
theorem is_ {s : RS} (h : okS2 s) : okS2 (b3_ s) := h.of (Dn.nx s) (hb_ h.1).1
theorem x1_ {s : RS} (h : okS2 s) (n t : Nat) : okS2 (cp_ n t s).2 := h.of ((afa_ n).1 t s) ((i_sm n).1 t s h.1).2
theorem jo_ {s : RS} (h : s.left ≠ []) : (b3_ s).left.length + 1 = s.left.length := by
 unfold b3_
 cases hl : s.left with
 | nil => exact absurd hl h
 | cons x r => rfl
theorem ws_ {s : RS} (h : s.left ≠ []) : (bp_ s.left).getD 0 [] = [.s (b9_ s)] := by
 unfold b9_
 cases hl : s.left with
 | nil => exact absurd hl h
 | cons x r => rfl
theorem afi_ {j t : Nat} {e : E} {s : RS} (h : ((!s.bad && decide ((s.left.length : Int) > 0)) && bf_ (b9_ s) == (t : Int)) = true) : dq_ (j + 1) t e s = dq_ j t (.mk 3 0 (b9_ s) [e, (cp_ j (t + 1) (b3_ s)).1]) (cp_ j (t + 1) (b3_ s)).2 ∧ s.left ≠ [] := by
 simp only [T5_, Bool.not_eq_true', T3_, beq_iff_eq] at h
 have hne : s.left ≠ [] := by intro e; rw [e] at h; simp at h
 simp only [dq_]
 rw [if_pos ⟨h.1.1, hne, h.2⟩]
 exact ⟨rfl, hne⟩
theorem aea_ {j t : Nat} {e : E} {s : RS} (h : ((!s.bad && decide ((s.left.length : Int) > 0)) && bf_ (b9_ s) == (t : Int)) = false) : dq_ (j + 1) t e s = (e, s) := by
 simp only [dq_]
 rw [if_neg]
 rintro ⟨a, b, c⟩
 rw [a, c] at h
 cases hl : s.left with
 | nil => exact b hl
 | cons x r => rw [hl] at h; simp at h
theorem afk_ {s : RS} (h : (!s.bad && decide ((s.left.length : Int) > 0)) = true) : s.left ≠ [] := by intro e; rw [e] at h; simp at h
theorem amk_ {s : RS} (h : (!s.bad && decide ((s.left.length : Int) > 0)) = true) : (0 : Int) < s.left.length := by simp at h; omega
theorem wk_ {s : RS} (h : s.left ≠ []) : ((bp_ s.left).getD 0 []).length = 1 := by rw [ws_ h]; rfl
theorem al4_ {s : RS} (h : s.left ≠ []) : ((bp_ s.left).getD 0 []).getD 0 .no = .s (b9_ s) := by rw [ws_ h]; rfl
def LI (n t : Nat) (s : RS) (q : Nat × E × RS) : Prop := okS2 q.2.2 ∧ 10 * q.2.2.left.length + 1 ≤ q.1 ∧ q.1 ≤ n ∧ dq_ n t (cp_ n (t + 1) s).1 (cp_ n (t + 1) s).2 = dq_ q.1 t q.2.1 q.2.2
def LN (t : Nat) (q : Nat × E × RS) : Nat × E × RS := (q.1 - 1, .mk 3 0 (b9_ q.2.2) [q.2.1, (cp_ (q.1 - 1) (t + 1) (b3_ q.2.2)).1], (cp_ (q.1 - 1) (t + 1) (b3_ q.2.2)).2)
theorem aav_ {n t : Nat} {s : RS} {q : Nat × E × RS} (h8 : ((t : Int) == 4) = false) (hI : LI n t s q) (h : ((!q.2.2.bad && decide ((q.2.2.left.length : Int) > 0)) && bf_ (b9_ q.2.2) == (t : Int)) = false) : cp_ (n + 1) t s = q.2 := by
 obtain ⟨j, e, s'⟩ := q
 obtain ⟨h1, h2, h3, h4⟩ := hI
 dsimp only at h1 h2 h3 h4 h ⊢
 obtain ⟨i, rfl⟩ : ∃ i, j = i + 1 := ⟨j - 1, by omega⟩
 rw [oa_ (by simp at h8; omega), h4, aea_ h]
theorem v4_ {n t : Nat} {s : RS} {q : Nat × E × RS} (hI : LI n t s q) (h : ((!q.2.2.bad && decide ((q.2.2.left.length : Int) > 0)) && bf_ (b9_ q.2.2) == (t : Int)) = true) : LI n t s (LN t q) ∧ (LN t q).2.2.left.length < q.2.2.left.length := by
 obtain ⟨j, e, s'⟩ := q
 obtain ⟨h1, h2, h3, h4⟩ := hI
 unfold LI LN
 dsimp only at h1 h2 h3 h4 h ⊢
 obtain ⟨i, rfl⟩ : ∃ i, j = i + 1 := ⟨j - 1, by omega⟩
 obtain ⟨g1, g2⟩ := afi_ (j := i) (e := e) h
 have q1 := jo_ g2
 have q2 := (aaf_ i).1 (t + 1) (b3_ s')
 simp only [Nat.add_sub_cancel]
 exact ⟨⟨x1_ (is_ h1) _ _, by omega, by omega, by rw [h4, g1]⟩, by omega⟩
theorem yv_ (n : Nat) (ihL : ∀ j, j < n + 1 → z0_ j) (ihH : ∀ j, j < n + 1 → yj_ j) : z0_ (n + 1) := fun t s ht hs hn => by
 obtain ⟨s1, s2, s3⟩ := hs
 have hlen : s.left.length < 4611686018427387904 := by omega
 have L1 : t < 4 → okS2 (cp_ n (t + 1) s).2 ∧ (cp_ n (t + 1) s).2.left.length ≤ s.left.length := fun _ => ⟨x1_ ⟨s1, s2, s3⟩ n (t + 1), (aaf_ n).1 (t + 1) s⟩
 have LJ : ∀ q : Nat × E × RS, okS2 q.2.2 → 10 * q.2.2.left.length + 1 ≤ q.1 → q.1 ≤ n → q.2.2.left ≠ [] → t < 4 → ACall En 152 [.pt 0 3 0 0, .i .i64 ((t + 1 : Nat) : Int)] [rsB (b3_ q.2.2)] [.ag (eC (cp_ (q.1 - 1) (t + 1) (b3_ q.2.2)).1)] [rsB (cp_ (q.1 - 1) (t + 1) (b3_ q.2.2)).2] := fun q h1 h2 h3 h4 h5 => by
  have := jo_ h4
  exact ihL (q.1 - 1) (by omega) (t + 1) (b3_ q.2.2) (by omega) (is_ h1) (by omega)
 have hw : IntKind.i64.wrap ((t : Int) + 1) = ((t + 1 : Nat) : Int) := by rw [bd_ (by omega) (by omega)]; rfl
 refine al_ (fn := Tryz.f152) [0] Tryz.func152 rfl rfl (by simp) fun C => ?_
 rw [aw_]
 simp only [Tryz.ntmps152, T7_, List.length_nil, Nat.reduceAdd, Nat.reduceSub, List.replicate_succ, List.replicate_zero, List.cons_append, List.nil_append, bo_]
 refine .seq (.rgn [] (by simp only [go_sem, seval, asO, ag_, ak_, hw, ab_]; rfl) ?_ ?_)
 ·first | trivial | simp
 refine .seq (.seq (.rgn [] (by simp only [go_sem, seval, asO, ag_, ak_, hw, ab_]; rfl) ?_ ?_))
 ·first | trivial | simp
 refine .condB (by simp only [go_sem, seval, asO, ag_, ak_, hw, ab_]; rfl) (by simp only [go_sem, seval, asO, ag_, ak_, hw, ab_]) (fun h8 => ?_) (fun h8 => ?_)
 ·refine .seq (.rgn [bs_ [0] [] (ihH n (by omega) s ⟨s1, s2, s3⟩ (by simp at h8; omega))] (by simp only [go_sem, seval, asO, ag_, ak_, hw, ab_]; rfl) ?_ ?_)
  ·first | trivial | simp
  refine .ret ⟨.inr rfl, ?_⟩
  exact Out.mem' (by simp only [Tryz.results152]; rfl) (by simp only [ay_, a6_, go_sem, seval, asO, ag_, ak_, hw, ab_]) (by simp only [a5_, rns, rn, go_sem, seval, asO, ag_, ak_, hw, ab_] <;> ((obtain rfl : t = 4 := (by simp at h8; omega)); simp [n9_])) (by simp) rfl (by decide) (by simp only [go_sem, seval, asO, ag_, ak_, hw, ab_]) (by simp only [ak_, go_sem, seval, asO, ag_, ak_, hw, ab_]) (by simp only [ag_, go_sem, seval, asO, ag_, ak_, hw, ab_] <;> ((obtain rfl : t = 4 := (by simp at h8; omega)); simp [n9_]))
 ·refine .skip (.seq (.rgn [bs_ [0] [] (ihL n (by omega) (t + 1) s (by simp at h8; omega) ⟨s1, s2, s3⟩ (by simp at h8; omega))] (by simp only [go_sem, seval, asO, ag_, ak_, hw, ab_]; rfl) ?_ ?_))
  ·first | trivial | simp
  refine .seq (.block (.loopK (fun q : Nat × E × RS => ⟨[.pt 0 3 0 0, .i .i64 t, .no, .no, .pt 14 4 0 0, .pt 15 4 0 0, .no, .no, .no, .no, .no, .no, .no, .no, .no, .no, .no, .no, .no, .no, .no, .no, .no, .no, .no, .no, .no, .no, .no, .no, .no, .no, .no, .no, .no, .no, .no, .no, .no, .no, .no, .no, .no, .no, .no, .no, .no, .no, .no, .no], be_ [(0, rsB q.2.2), (14, ⟨64, 4, [[.i .i64 0, .i .i64 0, .s [], .sl true []]]⟩), (15, ⟨64, 4, [eC q.2.1]⟩)], us [14, 15]⟩) (fun q : Nat × E × RS => LI n t s q) (fun q : Nat × E × RS => q.2.2.left.length) ((n, (cp_ n (t + 1) s).1, (cp_ n (t + 1) s).2)) ?_ ?_ (fun q hI => ?_)))
  ·exact ⟨(L1 (by simp at h8; omega)).1, by have := (L1 (by simp at h8; omega)).2; dsimp only; simp at h8; omega, Nat.le_refl _, rfl⟩
  ·exact Can.weak (Weak.lit (by simp only [go_sem, seval, asO, ag_, ak_, hw, ab_, as_, leV, ap_, ar_, V.inn, us, T9_, Ta_]) (by simp only [go_sem, seval, asO, ag_, ak_, hw, ab_, as_, leV, ap_, ar_, V.inn, us, T9_, Ta_]) (by simp only [go_sem, seval, asO, ag_, ak_, hw, ab_, as_, leV, ap_, ar_, V.inn, us, T9_, Ta_]))
  refine .seq (.seq (.rgnS [34] [asO En { v := .s (b9_ q.2.2) }, a4_ (jk_ (b9_ q.2.2))] (by simp only [go_sem, seval, asO, ag_, ak_, hw, ab_]; rfl) ?_ ?_))
  ·exact ⟨fun h => ⟨h, amk_ h, wk_ (afk_ h)⟩, fun h => ⟨⟨h, by rw [wk_ (afk_ h)]; exact Nat.le_refl _⟩, by rw [al4_ (afk_ h)]⟩⟩
  refine .condB (by simp only [go_sem, seval, asO, ag_, ak_, hw, ab_]; rfl) (by simp only [go_sem, seval, asO, ag_, ak_, hw, ab_]) (fun h38 => ?_) (fun h38 => ?_)
  ·refine .skip (.block (.seq (.rgn [bs_ [0] [] (m5_ q.2.2 (by have := hI.1.2; omega))] (by simp only [go_sem, seval, asO, ag_, ak_, hw, ab_]; rfl) ?_ ?_)))
   ·first | trivial | simp
   refine .rgnD [bs_ [0] [] (LJ q hI.1 hI.2.1 hI.2.2.1 (by simp at h38; intro e; simp [e] at h38) (by simp at h8; omega))] enM (by simp only [go_sem, seval, asO, ag_, ak_, hw, ab_]; rfl) (by rfl) ?_ ?_
   ·first | trivial | simp
   refine Exists.intro (LN t q) ⟨?_, ?_, ?_⟩
   ·exact (v4_ hI h38).1
   ·exact (v4_ hI h38).2
   refine Can.trans (Can.leAt 15 ([[.i .i64 3, .i .i64 0, .s (b9_ q.2.2), .sl false [eC q.2.1, eC (cp_ (q.1 - 1) (t + 1) (b3_ q.2.2)).1]]]) (by simp only [go_sem, seval, asO, ag_, ak_, hw, ab_] <;> rfl) (by simp only [go_sem, seval, asO, ag_, ak_, hw, ab_, ler, les, leV] <;> (first | trivial | simp)) (by simp only [go_sem, seval, asO, ag_, ak_, hw, ab_] <;> rfl)) ?_
   exact Can.weak (Weak.lit (by simp only [go_sem, seval, asO, ag_, ak_, hw, ab_, as_, leV, ap_, ar_, V.inn, us, T9_, Ta_]) (by simp only [go_sem, seval, asO, ag_, ak_, hw, ab_, as_, leV, ap_, ar_, V.inn, us, T9_, Ta_]) (by simp only [go_sem, seval, asO, ag_, ak_, hw, ab_, as_, leV, ap_, ar_, V.inn, us, T9_, Ta_] <;> (simp [LN, E.kind, E.n, E.s, E.kids, eR, a8_])))
  ·refine .exit (.seq (.rgn [] (by simp only [go_sem, seval, asO, ag_, ak_, hw, ab_]; rfl) ?_ ?_))
   ·first | trivial | simp
   refine .ret ⟨.inr rfl, ?_⟩
   exact Out.mem' (by simp only [Tryz.results152]; rfl) (by simp only [ay_, a6_, go_sem, seval, asO, ag_, ak_, hw, ab_]) (by simp only [a5_, rns, rn, go_sem, seval, asO, ag_, ak_, hw, ab_] <;> (rw [aav_ h8 hI h38])) (by simp) rfl (by decide) (by simp only [go_sem, seval, asO, ag_, ak_, hw, ab_]) (by simp only [ak_, go_sem, seval, asO, ag_, ak_, hw, ab_]) (by simp only [ag_, go_sem, seval, asO, ag_, ak_, hw, ab_] <;> (rw [aav_ h8 hI h38]; (try simp)))
end
section
set_option maxRecDepth 100000
set_option maxHeartbeats 8000000
theorem adk_ {s : RS} {e : E} (h : (!s.bad && (!s.left.isEmpty && b9_ s == wAs)) = true) : asR s e = asR (b3_ (b3_ s)) (.mk 4 0 (b9_ (b3_ s)) [e]) ∧ s.left ≠ [] := by
 obtain ⟨left, bad, deep⟩ := s
 cases left with
 | nil => simp at h
 | cons x r =>
  simp only [T5_, Bool.not_eq_true', beq_iff_eq, b9_] at h
  obtain ⟨rfl, _, rfl⟩ := h
  refine ⟨?_, by simp⟩
  cases r with
  | nil => simp [asR, asL, b3_, b9_]
  | cons t r => simp [asR, asL, b3_, b9_]
theorem ag4_ {s : RS} {e : E} (h : (!s.bad && (!s.left.isEmpty && b9_ s == wAs)) = false) : asR s e = (e, s) := by
 obtain ⟨left, bad, deep⟩ := s
 cases bad with
 | true => simp [asR]
 | false =>
  match left with
  | [] => simp [asR, asL]
  | [x] => simp [b9_] at h; simp [asR, asL, h]
  | x :: t :: r => simp [b9_] at h; simp [asR, asL, h]
def HS (s : RS) : RS := ⟨(b3_ s).left, (b3_ s).bad || decide ((b3_ s).deep + 1 > 40), (b3_ s).deep + 1⟩
def HP (m : Nat) (s : RS) : E × RS := if (HS s).bad then (E0, HS s) else cp_ m 1 (HS s)
def HQ (q : E × RS) : E × RS := (q.1, if q.2.bad then q.2 else { b3_ q.2 with bad := !(b9_ q.2 == [41]) })
theorem ae8_ {m : Nat} {s : RS} (h : (!((b3_ s).bad || decide ((b3_ s).deep + 1 > 40))) = true) : HP m s = cp_ m 1 (HS s) := by
 unfold HP
 have : (HS s).bad = false := by simpa [HS] using h
 rw [this]; rfl
theorem ad4_ {m : Nat} {s : RS} (h : (!((b3_ s).bad || decide ((b3_ s).deep + 1 > 40))) = false) : HP m s = (E0, HS s) := by
 unfold HP
 have : (HS s).bad = true := by simp only [Bool.not_eq_false'] at h; exact h
 rw [this]; rfl
theorem jd_ {m : Nat} {s : RS} : ef_ (m + 1) [40] (b3_ s) = HQ (HP m s) := by
 simp only [ef_, if_true]
 by_cases h : (b3_ s).bad = true ∨ 40 < (b3_ s).deep + 1
 ·rw [if_pos h]
  have hx : ((b3_ s).bad || decide ((b3_ s).deep + 1 > 40)) = true := by simpa using h
  rw [ad4_ (by rw [hx]; rfl)]
  simp only [HQ, HS, hx, if_true]
 ·rw [if_neg h]
  have hx : ((b3_ s).bad || decide ((b3_ s).deep + 1 > 40)) = false := by simp at h ⊢; exact ⟨h.1, by omega⟩
  have hb : (b3_ s).bad = false := by simp at h; exact h.1
  have e : HS s = { b3_ s with deep := (b3_ s).deep + 1 } := by unfold HS; rw [hx, ← hb]
  rw [ae8_ (by rw [hx]; rfl), e]; rfl
theorem ie_ {n : Nat} {w : Str} {s : RS} (h : w ≠ [40]) (h1 : c0_ w = false) (h2 : ga_ w = false) : ef_ (n + 1) w s = (E0, { s with bad := true }) := by simp [ef_, h, h1, h2]
theorem h3_ {s : RS} (h : okS2 s) (b : Bool) : okS2 { s with bad := b } := h
theorem sy_ {s : RS} (h : okS2 s) (hn : s.left ≠ []) : okS2 (HS s) := by
 have := jo_ hn
 have h1 := is_ h
 exact ⟨h1.1, by have := h1.2.1; simp only [HS]; omega, by have := ot_ s; have := h.2.2; simp only [HS]; omega⟩
theorem zb_ {s : RS} (h : okS2 s) (hn : s.left ≠ []) (m : Nat) : okS2 (HP m s).2 := by
 unfold HP; split
 ·exact sy_ h hn
 ·exact x1_ (sy_ h hn) m 1
theorem k8_ {q : E × RS} (h : okS2 q.2) : okS2 (HQ q).2 := by
 unfold HQ; dsimp only; split
 ·exact h
 ·exact h3_ (is_ h) _
theorem tz_ {s : RS} (h : b9_ s ≠ []) : s.left ≠ [] := by unfold b9_ at h; intro e; rw [e] at h; exact h rfl
theorem dh_ {n : Nat} {s : RS} {q : E × RS} (h : ef_ n (b9_ s) (b3_ s) = q) : fc_ (n + 1) s = asR q.2 q.1 := by simp only [fc_, h]
theorem aj2_ (s : Str) : d4_ (ju_ s) = true := by unfold ju_; split <;> rfl
theorem abo_ (m : Nat) (ihL : ∀ j, j < m + 2 → z0_ j) : yj_ (m + 2) := fun s hs hn => by
 have h1 := is_ hs
 have hd := ot_ s
 have hl1 := g6_ s
 have hb := hs.2.2
 have hb0 := hs.2.1
 have hH := (hb_ hs.1).2
 have hw : IntKind.i64.wrap ((b3_ s).deep + 1) = (b3_ s).deep + 1 := bd_ (by omega) (by omega)
 have hnv : c0_ (b9_ s) = true → ju_ (b9_ s) = .i .i64 (b5_ (b9_ s)) := fun h => by simp [ju_, h]
 have LB : s.left ≠ [] → ACall En 152 [.pt 0 3 0 0, .i .i64 ((1 : Nat) : Int)] [rsB (HS s)] [.ag (eC (cp_ m 1 (HS s)).1)] [rsB (cp_ m 1 (HS s)).2] := fun h => ihL m (by omega) 1 (HS s) (by omega) (sy_ hs h) (by have := jo_ h; show 10 * (b3_ s).left.length + 10 - 1 ≤ m; omega)
 refine al_ (fn := Tryz.f183) [0] Tryz.func183 rfl rfl (by simp) fun C => ?_
 rw [aw_]
 simp only [Tryz.ntmps183, T7_, List.length_nil, Nat.reduceAdd, Nat.reduceSub, List.replicate_succ, List.replicate_zero, List.cons_append, List.nil_append, bo_]
 refine .seq (.rgn [] (by simp only [go_sem, seval, ag_, ak_, hw]; rfl) ?_ ?_)
 ·first | trivial | simp
 refine .seq (.rgn [] (by simp only [go_sem, seval, ag_, ak_, hw]; rfl) ?_ ?_)
 ·first | trivial | simp
 refine .seq (.rgn [bs_ [0] [] (m5_ s (by omega))] (by simp only [go_sem, seval, ag_, ak_, hw]; rfl) ?_ ?_)
 ·first | trivial | simp
 refine .seq (.rgn [a4_ (vm_ (b9_ s) hH)] (by simp only [go_sem, seval, ag_, ak_, hw]; rfl) ?_ ?_)
 ·exact ⟨b7_ _, aj2_ _⟩
 refine .seqJ (fun q2 : E × RS => ⟨[.pt 0 3 0 0, .no, .pt 12 4 0 0, .pt 13 4 0 0, .no, .no, .no, .no, .no, .no, .no, .no, .no, .no, .no, .no, .no, .no, .no, .no, .no, .no, .no, .no, .no, .no, .no, .no, .no, .no, .no, .no, .no, .no, .no, .no, .no, .no, .no, .no, .no, .no, .no, .no, .no, .no, .no, .no, .no, .no, .no, .no, .no, .no, .no, .no, .no, .no, .no, .no, .no, .no, .no, .no, .no, .no, .no, .no, .no, .no, .no, .no, .no, .no, .no, .no, .no, .no, .no, .no], be_ [(0, rsB q2.2), (12, ⟨64, 4, [[.i .i64 0, .i .i64 0, .s [], .sl true []]]⟩), (13, ⟨64, 4, [eC q2.1]⟩)], us [12, 13]⟩) (fun q2 : E × RS => fc_ (m + 2) s = asR q2.2 q2.1 ∧ okS2 q2.2) ?_ (fun q2 hJ => ?_)
 ·refine .block (.seq (.rgn [] (by simp only [go_sem, seval, ag_, ak_, hw]; rfl) ?_ ?_))
  ·first | trivial | simp
  refine .condB (by simp only [go_sem, seval, ag_, ak_, hw]; rfl) (by simp only [go_sem, seval, ag_, ak_, hw]) (fun h17 => ?_) (fun h17 => ?_)
  ·refine .seq (.rgn [] (by simp only [go_sem, seval, ag_, ak_, hw]; rfl) ?_ ?_)
   ·first | trivial | simp
   refine .seq (.rgn [] (by simp only [go_sem, seval, ag_, ak_, hw]; rfl) ?_ ?_)
   ·first | trivial | simp
   refine .seqJ (fun q : E × RS => ⟨[.pt 0 3 0 0, .no, .pt 12 4 0 0, .pt 13 4 0 0, .no, .no, .no, .no, .no, .no, .no, .no, .no, .no, .no, .no, .no, .no, .no, .no, .no, .no, .no, .no, .no, .no, .no, .no, .no, .no, .no, .no, .no, .no, .no, .no, .no, .no, .no, .no, .no, .no, .no, .no, .no, .no, .no, .no, .no, .no, .no, .no, .no, .no, .no, .no, .no, .no, .no, .no, .no, .no, .no, .no, .no, .no, .no, .no, .no, .no, .no, .no, .no, .no, .no, .no, .no, .no, .no, .no], be_ [(0, rsB q.2), (12, ⟨64, 4, [[.i .i64 0, .i .i64 0, .s [], .sl true []]]⟩), (13, ⟨64, 4, [eC q.1]⟩)], us [12, 13]⟩) (fun q : E × RS => q = HP m s ∧ okS2 q.2) ?_ (fun q hJ => ?_)
   ·refine .seq (.rgn [] (by simp only [go_sem, seval, ag_, ak_, hw]; rfl) ?_ ?_)
    ·first | trivial | simp
    refine .condB (by simp only [go_sem, seval, ag_, ak_, hw]; rfl) (by simp only [go_sem, seval, ag_, ak_, hw]) (fun h45 => ?_) (fun h45 => ?_)
    ·refine .rgn [bs_ [0] [] (LB (tz_ (by simp at h17; rw [h17]; simp)))] (by simp only [go_sem, seval, ag_, ak_, hw]; rfl) ?_ ?_
     ·first | trivial | simp
     refine Exists.intro (HP m s) ⟨?_, ?_⟩
     ·exact ⟨rfl, zb_ hs (tz_ (by simp at h17; rw [h17]; simp)) m⟩
     exact Can.weak (Weak.lit (by simp only [go_sem, seval, ag_, ak_, hw, as_, leV, ap_, ar_, V.inn, us, T9_, Ta_]) (by simp only [go_sem, seval, ag_, ak_, hw, as_, leV, ap_, ar_, V.inn, us, T9_, Ta_]) (by simp only [go_sem, seval, ag_, ak_, hw, as_, leV, ap_, ar_, V.inn, us, T9_, Ta_] <;> (first | (rw [ae8_ h45]; simp; done) | (rw [ad4_ h45]; simp [HS, E0, E.kind, E.n, E.s, E.kids, eR]; done))))
    ·refine .skip ?_
     refine Exists.intro (HP m s) ⟨?_, ?_⟩
     ·exact ⟨rfl, zb_ hs (tz_ (by simp at h17; rw [h17]; simp)) m⟩
     refine Can.trans (Can.leAt 13 ([[.i .i64 0, .i .i64 0, .s [], .sl false []]]) (by simp only [go_sem, seval, ag_, ak_, hw] <;> rfl) (by simp only [go_sem, seval, ag_, ak_, hw, ler, les, leV] <;> (first | trivial | simp)) (by simp only [go_sem, seval, ag_, ak_, hw] <;> rfl)) ?_
     exact Can.weak (Weak.lit (by simp only [go_sem, seval, ag_, ak_, hw, as_, leV, ap_, ar_, V.inn, us, T9_, Ta_]) (by simp only [go_sem, seval, ag_, ak_, hw, as_, leV, ap_, ar_, V.inn, us, T9_, Ta_]) (by simp only [go_sem, seval, ag_, ak_, hw, as_, leV, ap_, ar_, V.inn, us, T9_, Ta_] <;> (first | (rw [ae8_ h45]; simp; done) | (rw [ad4_ h45]; simp [HS, E0, E.kind, E.n, E.s, E.kids, eR]; done))))
   cases hb : q.2.bad
   ·refine .rgn [bs_ [0] [] (m5_ q.2 (by have := (hJ.2 : okS2 q.2).2.2; have := (hJ.2 : okS2 q.2).2.1; omega))] (by simp only [go_sem, seval, ag_, ak_, hw, hb]; rfl) ?_ ?_
    ·(first | trivial | (simp; done) | (simp [hb]; done))
    refine Exists.intro (HQ q) ⟨?_, ?_⟩
    ·first | exact ⟨dh_ (by rw [show b9_ s = [40] from by simpa using h17, jd_, hJ.1]), k8_ hJ.2⟩ | exact ⟨dh_ (g7_ (by simpa using h17) (by simpa using h60)), h1⟩ | exact ⟨dh_ (gb_ (by simpa using h17) (by simpa using h60) (by simpa using h64)), h1⟩ | exact ⟨dh_ (ie_ (by simpa using h17) (by simpa using h60) (by simpa using h64)), h3_ h1 true⟩
    exact Can.weak (Weak.lit (by simp only [go_sem, seval, ag_, ak_, hw, as_, leV, ap_, ar_, V.inn, us, T9_, Ta_]) (by simp only [go_sem, seval, ag_, ak_, hw, as_, leV, ap_, ar_, V.inn, us, T9_, Ta_]) (by simp only [go_sem, seval, ag_, ak_, hw, as_, leV, ap_, ar_, V.inn, us, T9_, Ta_] <;> (first | (simp [HQ, hb]; done) | (simp [E.kind, E.n, E.s, E.kids, eR]; done) | (simp [E0, E.kind, E.n, E.s, E.kids, eR]; done))))
   ·refine .rgn [bs_ [0] [] (m5_ q.2 (by have := (hJ.2 : okS2 q.2).2.2; have := (hJ.2 : okS2 q.2).2.1; omega))] (by simp only [go_sem, seval, ag_, ak_, hw, hb]; rfl) ?_ ?_
    ·(first | trivial | (simp; done) | (simp [hb]; done))
    refine Exists.intro (HQ q) ⟨?_, ?_⟩
    ·first | exact ⟨dh_ (by rw [show b9_ s = [40] from by simpa using h17, jd_, hJ.1]), k8_ hJ.2⟩ | exact ⟨dh_ (g7_ (by simpa using h17) (by simpa using h60)), h1⟩ | exact ⟨dh_ (gb_ (by simpa using h17) (by simpa using h60) (by simpa using h64)), h1⟩ | exact ⟨dh_ (ie_ (by simpa using h17) (by simpa using h60) (by simpa using h64)), h3_ h1 true⟩
    exact Can.weak (Weak.lit (by simp only [go_sem, seval, ag_, ak_, hw, as_, leV, ap_, ar_, V.inn, us, T9_, Ta_]) (by simp only [go_sem, seval, ag_, ak_, hw, as_, leV, ap_, ar_, V.inn, us, T9_, Ta_]) (by simp only [go_sem, seval, ag_, ak_, hw, as_, leV, ap_, ar_, V.inn, us, T9_, Ta_] <;> (first | (simp [HQ, hb]; done) | (simp [E.kind, E.n, E.s, E.kids, eR]; done) | (simp [E0, E.kind, E.n, E.s, E.kids, eR]; done))))
  ·refine .seq (.rgn [] (by simp only [go_sem, seval, ag_, ak_, hw]; rfl) ?_ ?_)
   ·first | trivial | simp
   refine .condB (by simp only [go_sem, seval, ag_, ak_, hw]; rfl) (by simp only [go_sem, seval, ag_, ak_, hw]) (fun h60 => ?_) (fun h60 => ?_)
   ·refine .rgn [] (by simp only [go_sem, seval, ag_, ak_, hw, hnv (by simpa using h60)]; rfl) ?_ ?_
    ·first | trivial | simp
    refine Exists.intro ((.mk 1 (b5_ (b9_ s)) [] [], b3_ s)) ⟨?_, ?_⟩
    ·first | exact ⟨dh_ (by rw [show b9_ s = [40] from by simpa using h17, jd_, hJ.1]), k8_ hJ.2⟩ | exact ⟨dh_ (g7_ (by simpa using h17) (by simpa using h60)), h1⟩ | exact ⟨dh_ (gb_ (by simpa using h17) (by simpa using h60) (by simpa using h64)), h1⟩ | exact ⟨dh_ (ie_ (by simpa using h17) (by simpa using h60) (by simpa using h64)), h3_ h1 true⟩
    refine Can.trans (Can.leAt 13 ([[.i .i64 1, .i .i64 (b5_ (b9_ s)), .s [], .sl false []]]) (by simp only [go_sem, seval, ag_, ak_, hw] <;> rfl) (by simp only [go_sem, seval, ag_, ak_, hw, ler, les, leV] <;> (first | trivial | simp)) (by simp only [go_sem, seval, ag_, ak_, hw] <;> rfl)) ?_
    exact Can.weak (Weak.lit (by simp only [go_sem, seval, ag_, ak_, hw, as_, leV, ap_, ar_, V.inn, us, T9_, Ta_]) (by simp only [go_sem, seval, ag_, ak_, hw, as_, leV, ap_, ar_, V.inn, us, T9_, Ta_]) (by simp only [go_sem, seval, ag_, ak_, hw, as_, leV, ap_, ar_, V.inn, us, T9_, Ta_] <;> (first | (simp [HQ, hb]; done) | (simp [E.kind, E.n, E.s, E.kids, eR]; done) | (simp [E0, E.kind, E.n, E.s, E.kids, eR]; done))))
   ·refine .seq (.rgn [a4_ (qc_ (b9_ s) (by omega))] (by simp only [go_sem, seval, ag_, ak_, hw]; rfl) ?_ ?_)
    ·first | trivial | simp
    refine .condB (by simp only [go_sem, seval, ag_, ak_, hw]; rfl) (by simp only [go_sem, seval, ag_, ak_, hw]) (fun h64 => ?_) (fun h64 => ?_)
    ·refine .rgn [] (by simp only [go_sem, seval, ag_, ak_, hw]; rfl) ?_ ?_
     ·first | trivial | simp
     refine Exists.intro ((.mk 2 0 (b9_ s) [], b3_ s)) ⟨?_, ?_⟩
     ·first | exact ⟨dh_ (by rw [show b9_ s = [40] from by simpa using h17, jd_, hJ.1]), k8_ hJ.2⟩ | exact ⟨dh_ (g7_ (by simpa using h17) (by simpa using h60)), h1⟩ | exact ⟨dh_ (gb_ (by simpa using h17) (by simpa using h60) (by simpa using h64)), h1⟩ | exact ⟨dh_ (ie_ (by simpa using h17) (by simpa using h60) (by simpa using h64)), h3_ h1 true⟩
     refine Can.trans (Can.leAt 13 ([[.i .i64 2, .i .i64 0, .s (b9_ s), .sl false []]]) (by simp only [go_sem, seval, ag_, ak_, hw] <;> rfl) (by simp only [go_sem, seval, ag_, ak_, hw, ler, les, leV] <;> (first | trivial | simp)) (by simp only [go_sem, seval, ag_, ak_, hw] <;> rfl)) ?_
     exact Can.weak (Weak.lit (by simp only [go_sem, seval, ag_, ak_, hw, as_, leV, ap_, ar_, V.inn, us, T9_, Ta_]) (by simp only [go_sem, seval, ag_, ak_, hw, as_, leV, ap_, ar_, V.inn, us, T9_, Ta_]) (by simp only [go_sem, seval, ag_, ak_, hw, as_, leV, ap_, ar_, V.inn, us, T9_, Ta_] <;> (first | (simp [HQ, hb]; done) | (simp [E.kind, E.n, E.s, E.kids, eR]; done) | (simp [E0, E.kind, E.n, E.s, E.kids, eR]; done))))
    ·refine .rgn [] (by simp only [go_sem, seval, ag_, ak_, hw]; rfl) ?_ ?_
     ·first | trivial | simp
     refine Exists.intro ((E0, { b3_ s with bad := true })) ⟨?_, ?_⟩
     ·first | exact ⟨dh_ (by rw [show b9_ s = [40] from by simpa using h17, jd_, hJ.1]), k8_ hJ.2⟩ | exact ⟨dh_ (g7_ (by simpa using h17) (by simpa using h60)), h1⟩ | exact ⟨dh_ (gb_ (by simpa using h17) (by simpa using h60) (by simpa using h64)), h1⟩ | exact ⟨dh_ (ie_ (by simpa using h17) (by simpa using h60) (by simpa using h64)), h3_ h1 true⟩
     refine Can.trans (Can.leAt 13 ([[.i .i64 0, .i .i64 0, .s [], .sl false []]]) (by simp only [go_sem, seval, ag_, ak_, hw] <;> rfl) (by simp only [go_sem, seval, ag_, ak_, hw, ler, les, leV] <;> (first | trivial | simp)) (by simp only [go_sem, seval, ag_, ak_, hw] <;> rfl)) ?_
     exact Can.weak (Weak.lit (by simp only [go_sem, seval, ag_, ak_, hw, as_, leV, ap_, ar_, V.inn, us, T9_, Ta_]) (by simp only [go_sem, seval, ag_, ak_, hw, as_, leV, ap_, ar_, V.inn, us, T9_, Ta_]) (by simp only [go_sem, seval, ag_, ak_, hw, as_, leV, ap_, ar_, V.inn, us, T9_, Ta_] <;> (first | (simp [HQ, hb]; done) | (simp [E.kind, E.n, E.s, E.kids, eR]; done) | (simp [E0, E.kind, E.n, E.s, E.kids, eR]; done))))
 refine .seq (.block (.loopK (fun p : E × RS => ⟨[.pt 0 3 0 0, .no, .pt 12 4 0 0, .pt 13 4 0 0, .no, .no, .no, .no, .no, .no, .no, .no, .no, .no, .no, .no, .no, .no, .no, .no, .no, .no, .no, .no, .no, .no, .no, .no, .no, .no, .no, .no, .no, .no, .no, .no, .no, .no, .no, .no, .no, .no, .no, .no, .no, .no, .no, .no, .no, .no, .no, .no, .no, .no, .no, .no, .no, .no, .no, .no, .no, .no, .no, .no, .no, .no, .no, .no, .no, .no, .no, .no, .no, .no, .no, .no, .no, .no, .no, .no], be_ [(0, rsB p.2), (12, ⟨64, 4, [[.i .i64 0, .i .i64 0, .s [], .sl true []]]⟩), (13, ⟨64, 4, [eC p.1]⟩)], us [12, 13]⟩) (fun p : E × RS => asR q2.2 q2.1 = asR p.2 p.1 ∧ okS2 p.2) (fun p : E × RS => p.2.left.length) (q2) ?_ ?_ (fun p hI => ?_)))
 ·exact ⟨rfl, hJ.2⟩
 ·exact Can.weak (Weak.lit (by simp only [go_sem, seval, ag_, ak_, hw, as_, leV, ap_, ar_, V.inn, us, T9_, Ta_]) (by simp only [go_sem, seval, ag_, ak_, hw, as_, leV, ap_, ar_, V.inn, us, T9_, Ta_]) (by simp only [go_sem, seval, ag_, ak_, hw, as_, leV, ap_, ar_, V.inn, us, T9_, Ta_]))
 refine .seq (.seq (.rgn [bs_ [0] [] (at_a p.2 (by have := hI.2.2.2; have := hI.2.2.1; omega))] (by simp only [go_sem, seval, ag_, ak_, hw]; rfl) ?_ ?_))
 ·first | trivial | simp
 refine .condB (by simp only [go_sem, seval, ag_, ak_, hw]; rfl) (by simp only [go_sem, seval, ag_, ak_, hw]) (fun h71 => ?_) (fun h71 => ?_)
 ·refine .skip (.block (.seq (.rgn [bs_ [0] [] (m5_ p.2 (by have := hI.2.2.2; have := hI.2.2.1; omega))] (by simp only [go_sem, seval, ag_, ak_, hw]; rfl) ?_ ?_)))
  ·first | trivial | simp
  refine .rgnD [bs_ [0] [] (m5_ (b3_ p.2) (by have := hI.2.2.2; have := hI.2.2.1; have := g6_ p.2; omega))] enM (by simp only [go_sem, seval, ag_, ak_, hw]; rfl) (by rfl) ?_ ?_
  ·first | trivial | simp
  refine Exists.intro ((.mk 4 0 (b9_ (b3_ p.2)) [p.1], b3_ (b3_ p.2))) ⟨?_, ?_, ?_⟩
  ·exact ⟨by rw [hI.1, (adk_ h71).1], is_ (is_ hI.2)⟩
  ·have q1 := jo_ (adk_ (e := p.1) h71).2; have q2 := g6_ (b3_ p.2); dsimp only; omega
  refine Can.trans (Can.leAt 13 ([[.i .i64 4, .i .i64 0, .s (b9_ (b3_ p.2)), .sl false [eC p.1]]]) (by simp only [go_sem, seval, ag_, ak_, hw] <;> rfl) (by simp only [go_sem, seval, ag_, ak_, hw, ler, les, leV] <;> (first | trivial | simp)) (by simp only [go_sem, seval, ag_, ak_, hw] <;> rfl)) ?_
  exact Can.weak (Weak.lit (by simp only [go_sem, seval, ag_, ak_, hw, as_, leV, ap_, ar_, V.inn, us, T9_, Ta_]) (by simp only [go_sem, seval, ag_, ak_, hw, as_, leV, ap_, ar_, V.inn, us, T9_, Ta_]) (by simp only [go_sem, seval, ag_, ak_, hw, as_, leV, ap_, ar_, V.inn, us, T9_, Ta_] <;> (simp [E.kind, E.n, E.s, E.kids, eR, a8_])))
 ·refine .exit (.seq (.rgn [] (by simp only [go_sem, seval, ag_, ak_, hw]; rfl) ?_ ?_))
  ·first | trivial | simp
  refine .ret ⟨.inr rfl, ?_⟩
  exact Out.mem' (by simp only [Tryz.results183]; rfl) (by simp only [ay_, a6_, go_sem, seval, ag_, ak_, hw]) (by simp only [a5_, rns, rn, go_sem, seval, ag_, ak_, hw] <;> (rw [hJ.1, hI.1, ag4_ h71])) (by simp) rfl (by decide) (by simp only [go_sem, seval, ag_, ak_, hw]) (by simp only [ak_, go_sem, seval, ag_, ak_, hw]) (by simp only [ag_, go_sem, seval, ag_, ak_, hw] <;> (rw [hJ.1, hI.1, ag4_ h71]; (try simp)))
theorem agp_ (n : Nat) : z0_ n ∧ yj_ n := by
 induction n using Nat.strongRecOn with
 | ind n ih =>
 refine ⟨?_, ?_⟩
 ·cases n with
  | zero => intro t s ht hs hn; omega
  | succ n => exact yv_ n (fun j hj => (ih j hj).1) (fun j hj => (ih j hj).2)
 ·match n with
  | 0 => intro s hs hn; omega
  | 1 => intro s hs hn; omega
  | m + 2 => exact abo_ m (fun j hj => (ih j hj).1)
end
section
set_option maxRecDepth 100000
set_option maxHeartbeats 8000000
theorem sw_ (e : E) (h : eok e = true) (hs : sm e = true) : ACall En 154 [.ag (eC e)] [] [.sl false (bp_ (wds e 1))] [] := by
 have hf := bt_ h
 have hm : many e ((5 : Nat) : Int) ≤ 12 := ip_ h
 have hw := c7_ 5 e 0 hf
 have W : ACall En 121 [.ag (eC e), .i .i64 0, .pt 0 1 0 0] [⟨3, 1, [[.i .i64 0]]⟩] [.sl false (wdR (src e 0 0))] [⟨3, 1, [[.i .i64 (0 + cnt e)]]⟩] :=
  ACall.frzL (Lr := [⟨3, 1, [[.i .i64 (0 + cnt e)]]⟩]) (l3_ 5 e 0 0 hf hs (by omega) (by decide) (by omega) (by decide)) (by simp) (by simp [fw_, frz, ai_, T1_])
 have hl : (src e 0 0).length ≤ 1000000 := by rw [show (src e 0 0).length = (wds e 0).length by rw [← el_ e 0 0, List.length_map]]; omega
 refine al_ (fn := Tryz.f154) [] Tryz.func154 rfl rfl (by simp) fun C => ?_
 rw [aw_]
 simp only [Tryz.ntmps154, T7_, List.length_nil, Nat.reduceAdd, Nat.reduceSub, List.replicate_succ, List.replicate_zero, List.cons_append, List.nil_append, bo_]
 refine .seq (.rgn [] (by simp only [go_sem, seval, ag_, ak_, af_]; rfl) ?_ ?_)
 ·first | trivial | simp
 refine .seq (.seq (.rgn [a4_ (g5_ e hs)] (by simp only [go_sem, seval, ag_, ak_, af_]; rfl) ?_ ?_))
 ·first | trivial | simp
 refine .condB (by simp only [go_sem, seval, ag_, ak_, af_]; rfl) (by simp only [go_sem, seval, ag_, ak_, af_]) (fun h6 => ?_) (fun h6 => ?_)
 ·simp [h] at h6
 ·refine .skip (.seq (.rgn [] (by simp only [go_sem, seval, ag_, ak_, af_]; rfl) ?_ ?_))
  ·first | trivial | simp
  refine .seq (.rgn [bs_ [13] [] W, a4_ (jm_ (src e 0 0) hl)] (by simp only [go_sem, seval, ag_, ak_, af_]; rfl) ?_ ?_)
  ·first | trivial | simp
  refine .ret ⟨.inr rfl, ?_⟩
  exact Out.plain (by simp only [Tryz.results154]; rfl) (by simp only [ay_, a6_, go_sem, seval, ag_, ak_, af_] <;> (split <;> rfl)) (by simp only [a5_, go_sem, seval, ag_, ak_, af_] <;> (rw [el_, ex_ hf])) (by simp only [go_sem, seval, ag_, ak_, af_])
theorem act_ {a b : List Str} {k : Nat} (ha : k < a.length) (hb : k < b.length) (h : a.take k = b.take k) (e : a.getD k [] = b.getD k []) : a.take (k + 1) = b.take (k + 1) := by
 rw [List.take_add_one (l := a), List.take_add_one (l := b), h, T6_ ha, T6_ hb]
 rw [T8_, T8_, T6_ ha, T6_ hb] at e
 rw [show a[k] = b[k] by simpa using e]
theorem ait_ (a b : List Str) (ha : a.length ≤ 1000000000000) (hb : b.length ≤ 1000000000000) : ACall En 153 [.sl false (bp_ a), .sl false (bp_ b)] [] [.b (a == b)] [] := by
 refine al_ (fn := Tryz.f153) [] Tryz.func153 rfl rfl (by simp) fun C => ?_
 rw [aw_]
 simp only [Tryz.ntmps153, T7_, List.length_nil, Nat.reduceAdd, Nat.reduceSub, List.replicate_succ, List.replicate_zero, List.cons_append, List.nil_append, bo_]
 refine .seq (.rgn [] (by simp only [go_sem, seval, ab_, aa_]; rfl) ?_ ?_)
 ·first | trivial | simp
 refine .seq (.seq (.rgn [] (by simp only [go_sem, seval, ab_, aa_]; rfl) ?_ ?_))
 ·first | trivial | simp
 refine .condB (by simp only [go_sem, seval, ab_, aa_]; rfl) (by simp only [go_sem, seval, ab_, aa_]) (fun h10 => ?_) (fun h10 => ?_)
 ·refine .seq (.rgn [] (by simp only [go_sem, seval, ab_, aa_]; rfl) ?_ ?_)
  ·first | trivial | simp
  refine .ret ⟨.inr rfl, ?_⟩
  exact Out.plain (by simp only [Tryz.results153]; rfl) (by simp only [ay_, a6_, go_sem, seval, ab_, aa_] <;> (split <;> rfl)) (by simp only [a5_, go_sem, seval, ab_, aa_] <;> (have : a ≠ b := (fun e => by simp [e] at h10); simp [this])) (by simp only [go_sem, seval, ab_, aa_])
 ·refine .skip (.seq (.seq (.rgn [] (by simp only [go_sem, seval, ab_, aa_]; rfl) ?_ ?_)))
  ·first | trivial | simp
  refine .block (.loopK (fun k : Nat => ⟨[.sl false (bp_ a), .sl false (bp_ b), .no, .no, .no, .no, .no, .no, .no, .no, .no, .no, .i .i64 a.length, .i .i64 k, .no, .no, .no, .no, .no, .no, .no, .no, .no, .no, .no, .no], be_ [], us []⟩) (fun k : Nat => k ≤ a.length ∧ a.take k = b.take k) (fun k : Nat => a.length - k) (0) ?_ ?_ (fun k hI => ?_))
  ·exact ⟨Nat.zero_le _, rfl⟩
  ·exact Can.weak (Weak.lit (by simp only [go_sem, seval, ab_, aa_, as_, leV, ap_, ar_, V.inn, us, T9_, Ta_] <;> (simp)) (by simp only [go_sem, seval, ab_, aa_, as_, leV, ap_, ar_, V.inn, us, T9_, Ta_]) (by simp only [go_sem, seval, ab_, aa_, as_, leV, ap_, ar_, V.inn, us, T9_, Ta_]))
  refine .seq (.rgn [] (by simp only [go_sem, seval, ab_, aa_]; rfl) ?_ ?_)
  ·first | trivial | simp
  refine .seq (.condB (by simp only [go_sem, seval, ab_, aa_]; rfl) (by simp only [go_sem, seval, ab_, aa_]) (fun h14 => ?_) (fun h14 => ?_))
  ·refine .skip (.seq (.block (.seq (.rgn [] (by simp only [go_sem, seval, ab_, aa_]; rfl) ?_ ?_))))
   ·first | trivial | simp
   refine .seq (.rgnD [] enM (by simp only [go_sem, seval, ab_, aa_, cd_ (show k < a.length by simpa using h14), cd_ (show k < b.length by simp at h14 h10; omega)]; rfl) (by rfl) ?_ ?_)
   ·simp at h14 h10; simp; omega
   refine .condB (by simp only [go_sem, seval, ab_, aa_]; rfl) (by simp only [go_sem, seval, ab_, aa_]) (fun h24 => ?_) (fun h24 => ?_)
   ·refine .seq (.rgn [] (by simp only [go_sem, seval, ab_, aa_]; rfl) ?_ ?_)
    ·first | trivial | simp
    refine .ret ⟨.inr rfl, ?_⟩
    exact Out.plain (by simp only [Tryz.results153]; rfl) (by simp only [ay_, a6_, go_sem, seval, ab_, aa_] <;> (split <;> rfl)) (by simp only [a5_, go_sem, seval, ab_, aa_] <;> (have : a ≠ b := (fun e => by simp [e] at h24); simp [this])) (by simp only [go_sem, seval, ab_, aa_])
   ·refine .skip (.rgn [] (by simp only [go_sem, seval, ab_, aa_]; rfl) ?_ ?_)
    ·first | trivial | simp
    refine Exists.intro (k + 1) ⟨?_, ?_, ?_⟩
    ·simp only [T3_] at h14; simp at h10; exact ⟨by omega, act_ (by omega) (by omega) hI.2 (by simpa using h24)⟩
    ·simp at h14; omega
    exact Can.weak (Weak.lit (by simp only [go_sem, seval, ab_, aa_, as_, leV, ap_, ar_, V.inn, us, T9_, Ta_] <;> (rw [bd_ (by simp at h14; omega) (by simp at h14; omega)]; simp)) (by simp only [go_sem, seval, ab_, aa_, as_, leV, ap_, ar_, V.inn, us, T9_, Ta_]) (by simp only [go_sem, seval, ab_, aa_, as_, leV, ap_, ar_, V.inn, us, T9_, Ta_]))
  ·refine .exit (.seq (.rgn [] (by simp only [go_sem, seval, ab_, aa_]; rfl) ?_ ?_))
   ·first | trivial | simp
   refine .ret ⟨.inr rfl, ?_⟩
   exact Out.plain (by simp only [Tryz.results153]; rfl) (by simp only [ay_, a6_, go_sem, seval, ab_, aa_] <;> (split <;> rfl)) (by simp only [a5_, go_sem, seval, ab_, aa_] <;> (simp only [T4_] at h14; simp at h10; have q := hI.2; rw [T1_ (by omega), T1_ (by omega)] at q; simp [q])) (by simp only [go_sem, seval, ab_, aa_])
def kt_ (w : List Str) : Bool := (fo_ w).isSome
theorem hx_ (w : List Str) (hw : smW w) (hl : w.length ≤ 1000000) : ACall En 112 [.sl false (bp_ w)] [] [.ag (eC (ex w)), .b (kt_ w)] [] := by
 have hR : w.length ≤ 40 → ACall En 152 [.pt 0 3 0 0, .i .i64 ((1 : Nat) : Int)] [rsB ⟨w, false, 0⟩] [.ag (eC (cp_ 500 1 ⟨w, false, 0⟩).1)] [rsB (cp_ 500 1 ⟨w, false, 0⟩).2] := fun h => (agp_ 500).1 1 ⟨w, false, 0⟩ (by decide) ⟨hw, Int.le_refl _, by dsimp only; omega⟩ (by dsimp only; omega)
 have hS := ((i_sm 500).1 1 ⟨w, false, 0⟩ hw).1
 have hE : fo_ w = if w.length ≤ 40 then (if ((cp_ 500 1 ⟨w, false, 0⟩).2.bad || !(cp_ 500 1 ⟨w, false, 0⟩).2.left.isEmpty || !eok (cp_ 500 1 ⟨w, false, 0⟩).1 || !(wds (cp_ 500 1 ⟨w, false, 0⟩).1 1 == w)) then none else some (cp_ 500 1 ⟨w, false, 0⟩).1) else none := rfl
 have hL := (aaf_ 500).1 1 ⟨w, false, 0⟩
 generalize cp_ 500 1 ⟨w, false, 0⟩ = q at *
 have hq : (!q.2.left.isEmpty) = decide ((q.2.left.length : Int) > 0) := by cases q.2.left <;> simp
 rw [hq] at hE
 have n1 : decide ((w.length : Int) > 40) = true → fo_ w = none := fun h => by rw [hE, if_neg (by simp at h; omega)]
 have n2 : decide ((w.length : Int) > 40) = false → (q.2.bad || decide ((q.2.left.length : Int) > 0) || !eok q.1 || !(wds q.1 1 == w)) = true → fo_ w = none := fun h h2 => by rw [hE, if_pos (by simp at h; omega), if_pos h2]
 have n3 : decide ((w.length : Int) > 40) = false → (q.2.bad || decide ((q.2.left.length : Int) > 0) || !eok q.1 || !(wds q.1 1 == w)) = false → fo_ w = some q.1 := fun h h2 => by rw [hE, if_pos (by simp at h; omega), h2]; rfl
 refine al_ (fn := Tryz.f112) [] Tryz.func112 rfl rfl (by simp) fun C => ?_
 rw [aw_]
 simp only [Tryz.ntmps112, T7_, List.length_nil, Nat.reduceAdd, Nat.reduceSub, List.replicate_succ, List.replicate_zero, List.cons_append, List.nil_append, bo_]
 refine .seq (.rgn [] (by simp only [go_sem, seval, ag_, ak_, ab_, aa_]; rfl) ?_ ?_)
 ·first | trivial | simp
 refine .seq (.seq (.rgn [] (by simp only [go_sem, seval, ag_, ak_, ab_, aa_]; rfl) ?_ ?_))
 ·first | trivial | simp
 refine .condB (by simp only [go_sem, seval, ag_, ak_, ab_, aa_]; rfl) (by simp only [go_sem, seval, ag_, ak_, ab_, aa_]) (fun h8 => ?_) (fun h8 => ?_)
 ·refine .seq (.rgn [] (by simp only [go_sem, seval, ag_, ak_, ab_, aa_]; rfl) ?_ ?_)
  ·first | trivial | simp
  refine .ret ⟨.inr rfl, ?_⟩
  exact Out.plainL (by simp only [Tryz.results112]; rfl) (by simp only [ay_, a6_, go_sem, seval, ag_, ak_, ab_, aa_] <;> (split <;> rfl)) (by simp only [a5_, go_sem, seval, ag_, ak_, ab_, aa_] <;> (simp [ex, kt_, n1 h8, E0, E.kind, E.n, E.s, E.kids, eR, ler])) (by simp only [go_sem, seval, ag_, ak_, ab_, aa_])
 ·refine .skip (.seq (.rgn [] (by simp only [go_sem, seval, ag_, ak_, ab_, aa_]; rfl) ?_ ?_))
  ·first | trivial | simp
  refine .seq (.rgn [bs_ [22] [] (hR (by simp at h8; omega))] (by simp only [go_sem, seval, ag_, ak_, ab_, aa_]; rfl) ?_ ?_)
  ·first | trivial | simp
  refine .seq (.seq (.rgn [a4_ (g5_ q.1 hS), cl_ (eok q.1 = true) (fun h => sw_ q.1 h hS), cl_ (eok q.1 = true) (fun h => ait_ (wds q.1 1) w (by have := (cj_ h 1).2.1; omega) (by omega))] (by simp only [go_sem, seval, ag_, ak_, ab_, aa_]; rfl) ?_ ?_))
  ·(have key : ∀ x : Bool, x = false → (!x) = true := (fun x h => by rw [h]; rfl)); exact ⟨⟨⟨⟨key _, key _⟩, fun h => ⟨h, by simp at h; exact h.2⟩⟩, fun h => ⟨h, by simp at h; exact h.2⟩⟩, key _⟩
  refine .condB (by simp only [go_sem, seval, ag_, ak_, ab_, aa_]; rfl) (by simp only [go_sem, seval, ag_, ak_, ab_, aa_]) (fun h38 => ?_) (fun h38 => ?_)
  ·refine .seq (.rgn [] (by simp only [go_sem, seval, ag_, ak_, ab_, aa_]; rfl) ?_ ?_)
   ·first | trivial | simp
   refine .ret ⟨.inr rfl, ?_⟩
   exact Out.plainL (by simp only [Tryz.results112]; rfl) (by simp only [ay_, a6_, go_sem, seval, ag_, ak_, ab_, aa_] <;> (split <;> rfl)) (by simp only [a5_, go_sem, seval, ag_, ak_, ab_, aa_] <;> (simp [ex, kt_, n2 h8 h38, E0, E.kind, E.n, E.s, E.kids, eR, ler])) (by simp only [go_sem, seval, ag_, ak_, ab_, aa_])
  ·refine .skip (.seq (.rgn [] (by simp only [go_sem, seval, ag_, ak_, ab_, aa_]; rfl) ?_ ?_))
   ·first | trivial | simp
   refine .ret ⟨.inr rfl, ?_⟩
   exact Out.plainL (by simp only [Tryz.results112]; rfl) (by simp only [ay_, a6_, go_sem, seval, ag_, ak_, ab_, aa_] <;> (split <;> rfl)) (by simp only [a5_, go_sem, seval, ag_, ak_, ab_, aa_] <;> (simp [ex, kt_, n3 h8 h38, a9_])) (by simp only [go_sem, seval, ag_, ak_, ab_, aa_])
end
end Go.Proofs.YtpikbndepapbhaaGreatDoor
