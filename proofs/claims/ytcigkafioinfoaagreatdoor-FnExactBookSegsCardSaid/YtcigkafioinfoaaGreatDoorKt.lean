/- Plain laws of the program's reader: brackets are counted, texts are not made longer. Conditions: none. -/
import Derived.Test.YtcigkafioinfoaaGreatDoorKd
import Derived.Test.YtcigkafioinfoaaGreatDoorKb
import Derived.Test.YtcigkafioinfoaaGreatDoorKn
import Derived.Test.YtcigkafioinfoaaGreatDoorKh
import Derived.Test.YtcigkafioinfoaaGreatDoorKi
import Derived.Test.YtcigkafioinfoaaGreatDoorKj
set_option linter.unusedVariables false
set_option linter.unusedSimpArgs false
namespace Go.Proofs.YtcigkafioinfoaaGreatDoor
section
def Dn (s' s : RS) (k : Int) : Prop := s.deep ≤ s'.deep ∧ s'.deep + s'.left.length ≤ s.deep + s.left.length + k ∧ s'.left.length ≤ s.left.length
theorem Dn.refl (s : RS) : Dn s s 0 := ⟨Int.le_refl _, by omega, Nat.le_refl _⟩
theorem Dn.trans {a b c : RS} {k m : Int} (h : Dn a b k) (g : Dn b c m) : Dn a c (k + m) := ⟨by have := h.1; have := g.1; omega, by have := h.2.1; have := g.2.1; omega, by have := h.2.2; have := g.2.2; omega⟩
theorem Dn.le {a b : RS} {k m : Int} (h : Dn a b k) (hm : k ≤ m) : Dn a b m := ⟨h.1, by have := h.2.1; omega, h.2.2⟩
theorem Dn.next (s : RS) : Dn (cd_ s) s (if s.left = [] then 0 else -1) := by
 unfold cd_ Dn
 cases h : s.left with
 | nil => simp [h]
 | cons x r => simp [h]; omega
theorem Dn.nx (s : RS) : Dn (cd_ s) s 0 := (Dn.next s).le (by split <;> omega)
theorem Dn.as (s : RS) (e : E) : Dn (asR s e).2 s 0 := by
 have h1 := y1_ s e
 have h2 := ad7_ s e
 exact ⟨by omega, by omega, h1⟩
theorem Dn.bad (s : RS) (b : Bool) : Dn { s with bad := b } s 0 := ⟨Int.le_refl _, by dsimp only; omega, Nat.le_refl _⟩
theorem adb_ : ∀ n : Nat, (∀ t s, Dn (cu_ n t s).2 s 0) ∧ (∀ t e s, Dn (du_ n t e s).2 s 0) ∧ (∀ s, Dn (ff_ n s).2 s 0) ∧ (∀ w s, Dn (ej_ n w s).2 s (if w = [40] then 1 else 0))
 | 0 => ⟨fun t s => by simp only [cu_]; exact Dn.refl s, fun t e s => by simp only [du_]; exact Dn.refl s, fun s => by simp only [ff_]; exact Dn.refl s, fun w s => by simp only [ej_]; exact (Dn.refl s).le (by split <;> omega)⟩
 | n + 1 => by
  obtain ⟨h1, h2, h3, h4⟩ := adb_ n
  refine ⟨fun t s => ?_, fun t e s => ?_, fun s => ?_, fun w s => ?_⟩
  ·simp only [cu_]
   split
   ·exact h3 s
   ·exact ((h2 t _ _).trans (h1 (t + 1) s)).le (by omega)
  ·simp only [du_]
   split
   ·exact (((h2 t _ _).trans (h1 (t + 1) _)).trans (Dn.nx s)).le (by omega)
   ·exact Dn.refl s
  ·simp only [ff_]
   refine (((Dn.as _ _).trans (h4 (cl_ s) (cd_ s))).trans (Dn.next s)).le ?_
   unfold cl_
   cases hl : s.left with
   | nil => simp
   | cons x r => simp only [reduceCtorEq, if_false]; split <;> omega
  ·simp only [ej_]
   split
   ·split
    ·exact ⟨by dsimp only; omega, by dsimp only; omega, Nat.le_refl _⟩
    ·have hD : Dn { s with deep := s.deep + 1 } s 1 := ⟨by dsimp only; omega, by dsimp only; omega, Nat.le_refl _⟩
     dsimp only
     split
     ·exact ((h1 1 _).trans hD).le (by omega)
     ·have q := ((Dn.nx (cu_ n 1 { s with deep := s.deep + 1 }).2).trans ((h1 1 _).trans hD)).le (m := 1) (by omega)
      exact ⟨q.1, q.2.1, q.2.2⟩
   ·split
    ·exact Dn.refl s
    ·split
     ·exact Dn.refl s
     ·exact Dn.bad s true
def smW (l : List Str) : Prop := ∀ w ∈ l, w.length ≤ 281474976710656
theorem ha_ {s : RS} (h : smW s.left) : smW (cd_ s).left ∧ (cl_ s).length ≤ 281474976710656 := by
 unfold cd_ cl_
 cases hl : s.left with
 | nil => simp [smW, hl]
 | cons x r => rw [hl] at h; exact ⟨fun w hw => h w (List.mem_cons_of_mem _ hw), h x List.mem_cons_self⟩
theorem x8_ {a b : E} {k n : Int} {s : Str} (hs : s.length < 4611686018427387904) (ha : sm a = true) (hb : sm b = true) : sm (.mk k n s [a, b]) = true := by simp [sm, sms, ha, hb, hs]
theorem xu_ {a : E} {k n : Int} {s : Str} (hs : s.length < 4611686018427387904) (ha : sm a = true) : sm (.mk k n s [a]) = true := by simp [sm, sms, ha, hs]
theorem ob_ {k n : Int} {s : Str} (hs : s.length < 4611686018427387904) : sm (.mk k n s []) = true := by simp [sm, sms, hs]
theorem ae6_ : ∀ (l : List Str) (e : E) (d : Int), smW l → sm e = true → sm (asL l e d).1 = true ∧ smW (asL l e d).2.left
 | [], e, d, h, he => by simp only [asL]; exact ⟨he, h⟩
 | [w], e, d, h, he => by
  simp only [asL]; split
  ·exact ⟨xu_ (by simp) he, fun w hw => by cases hw⟩
  ·exact ⟨he, h⟩
 | w :: t :: r, e, d, h, he => by
  simp only [asL]; split
  ·exact ae6_ r _ d (fun x hx => h x (by simp [hx])) (xu_ (Nat.lt_of_le_of_lt (h t (by simp)) (by decide)) he)
  ·exact ⟨he, h⟩
theorem akr_ (s : RS) (e : E) (h : smW s.left) (he : sm e = true) : sm (asR s e).1 = true ∧ smW (asR s e).2.left := by
 unfold asR; split
 ·exact ⟨he, h⟩
 ·exact ae6_ _ _ _ h he
theorem i_sm : ∀ n : Nat, (∀ t s, smW s.left → sm (cu_ n t s).1 = true ∧ smW (cu_ n t s).2.left) ∧ (∀ t e s, sm e = true → smW s.left → sm (du_ n t e s).1 = true ∧ smW (du_ n t e s).2.left) ∧ (∀ s, smW s.left → sm (ff_ n s).1 = true ∧ smW (ff_ n s).2.left) ∧ (∀ w s, w.length < 4611686018427387904 → smW s.left → sm (ej_ n w s).1 = true ∧ smW (ej_ n w s).2.left)
 | 0 => ⟨fun t s h => by simp only [cu_]; exact ⟨by decide, h⟩, fun t e s he h => by simp only [du_]; exact ⟨he, h⟩, fun s h => by simp only [ff_]; exact ⟨by decide, h⟩, fun w s hw h => by simp only [ej_]; exact ⟨by decide, h⟩⟩
 | n + 1 => by
  obtain ⟨h1, h2, h3, h4⟩ := i_sm n
  refine ⟨fun t s h => ?_, fun t e s he h => ?_, fun s h => ?_, fun w s hw h => ?_⟩
  ·simp only [cu_]
   split
   ·exact h3 s h
   ·exact h2 t _ _ (h1 (t + 1) s h).1 (h1 (t + 1) s h).2
  ·simp only [du_]
   split
   ·have q := h1 (t + 1) (cd_ s) (ha_ h).1
    exact h2 t _ _ (x8_ (Nat.lt_of_le_of_lt (ha_ h).2 (by decide)) he q.1) q.2
   ·exact ⟨he, h⟩
  ·simp only [ff_]
   have q := h4 (cl_ s) (cd_ s) (Nat.lt_of_le_of_lt (ha_ h).2 (by decide)) (ha_ h).1
   exact akr_ _ _ q.2 q.1
  ·simp only [ej_]
   split
   ·split
    ·exact ⟨(show sm E0 = true by decide), h⟩
    ·have q := h1 1 { s with deep := s.deep + 1 } h
     dsimp only
     refine ⟨q.1, ?_⟩
     split
     ·exact q.2
     ·exact (ha_ q.2).1
   ·split
    ·exact ⟨ob_ (by simp), h⟩
    ·split
     ·exact ⟨ob_ hw, h⟩
     ·exact ⟨(show sm E0 = true by decide), h⟩
end
section
set_option maxRecDepth 100000
set_option maxHeartbeats 4000000
abbrev rsB (s : RS) : Blk := ⟨207, 3, [[.sl false (b6_ s.left), .b s.bad, .i .i64 s.deep]]⟩
theorem nb_ (s : RS) (hl : s.left.length < 4611686018427387904) : ACall En 233 [.pt 0 3 0 0] [rsB s] [.s (cl_ s)] [rsB (cd_ s)] := by
 obtain ⟨left, bad, deep⟩ := s
 cases left with
 | nil =>
 refine al_ (fn := Tryz.f233) [0] Tryz.func233 rfl rfl (by simp) fun C => ?_
 rw [ay_]
 simp only [Tryz.ntmps233, T7_, List.length_nil, Nat.reduceAdd, Nat.reduceSub, List.replicate_succ, List.replicate_zero, List.cons_append, List.nil_append, bs_]
 refine .seq (.rgn [] (by simp only [go_sem, seval, ca_, b5_]; rfl) ?_ ?_)
 ·first | trivial | simp
 refine .seq (.seq (.rgn [] (by simp only [go_sem, seval, ca_, b5_]; rfl) ?_ ?_))
 ·first | trivial | simp
 refine .condB (by simp only [go_sem, seval, ca_, b5_]; rfl) (by simp only [go_sem, seval, ca_, b5_]) (fun h9 => ?_) (fun h9 => ?_)
 ·refine .seq (.rgn [] (by simp only [go_sem, seval, ca_, b5_]; rfl) ?_ ?_)
  ·first | trivial | simp
  refine .seq (.rgn [] (by simp only [go_sem, seval, ca_, b5_]; rfl) ?_ ?_)
  ·first | trivial | simp
  refine .ret ⟨.inr rfl, ?_⟩
  exact Out.mem' (by simp only [Tryz.results233]; rfl) (by simp only [az_, bj_, go_sem, seval, ca_, b5_]) (by simp only [bg_, rns, rn, go_sem, seval, ca_, b5_] <;> (rfl)) (by simp) rfl (by decide) (by simp only [go_sem, seval, ca_, b5_]) (by simp only [av_, go_sem, seval, ca_, b5_]) (by simp only [ao_, go_sem, seval, ca_, b5_] <;> (simp [cd_, ca_]))
 ·exact absurd h9 (by simp)
 | cons x r =>
 refine al_ (fn := Tryz.f233) [0] Tryz.func233 rfl rfl (by simp) fun C => ?_
 rw [ay_]
 simp only [Tryz.ntmps233, T7_, List.length_nil, Nat.reduceAdd, Nat.reduceSub, List.replicate_succ, List.replicate_zero, List.cons_append, List.nil_append, bs_]
 refine .seq (.rgn [] (by simp only [go_sem, seval, ca_, b5_]; rfl) ?_ ?_)
 ·first | trivial | simp
 refine .seq (.seq (.rgn [] (by simp only [go_sem, seval, ca_, b5_]; rfl) ?_ ?_))
 ·first | trivial | simp
 refine .condB (by simp only [go_sem, seval, ca_, b5_]; rfl) (by simp only [go_sem, seval, ca_, b5_]) (fun h9 => ?_) (fun h9 => ?_)
 ·simp at h9; omega
 ·refine .skip (.seq (.rgn [] (by simp only [go_sem, seval, ca_, b5_]; rfl) ?_ ?_))
  ·first | trivial | simp
  refine .seq (.rgn [] (by simp only [go_sem, seval, ca_, b5_]; rfl) ?_ ?_)
  ·refine ⟨⟨by omega, by omega⟩, .inr fun q hq => ?_⟩; rcases List.mem_cons.1 hq with rfl | hq; rfl; exact pt_ hq
  refine .seq (.rgn [] (by simp only [go_sem, seval, ca_, b5_]; rfl) ?_ ?_)
  ·first | trivial | simp
  refine .ret ⟨.inr rfl, ?_⟩
  exact Out.mem' (by simp only [Tryz.results233]; rfl) (by simp only [az_, bj_, go_sem, seval, ca_, b5_]) (by simp only [bg_, rns, rn, go_sem, seval, ca_, b5_] <;> (rfl)) (by simp) rfl (by decide) (by simp only [go_sem, seval, ca_, b5_]) (by simp only [av_, go_sem, seval, ca_, b5_]) (by simp only [ao_, go_sem, seval, ca_, b5_] <;> (simp [cd_, T1_, ac_]))
theorem at_a (s : RS) (hl : s.left.length < 4611686018427387904) : ACall En 261 [.pt 0 3 0 0, .sl false [[.s [97, 115]]]] [rsB s] [.b (!s.bad && (!s.left.isEmpty && cl_ s == wAs))] [rsB s] := by
 obtain ⟨left, bad, deep⟩ := s
 cases left with
 | nil =>
 refine al_ (fn := Tryz.f261) [0] Tryz.func261 rfl rfl (by simp) fun C => ?_
 rw [ay_]
 simp only [Tryz.ntmps261, T7_, List.length_nil, Nat.reduceAdd, Nat.reduceSub, List.replicate_succ, List.replicate_zero, List.cons_append, List.nil_append, bs_]
 refine .seq (.rgn [] (by simp only [go_sem, seval, asO, ca_, b5_, wAs]; rfl) ?_ ?_)
 ·first | trivial | simp
 refine .seq (.rgnS [25] [asO En { v := .s [] }, a9_ (kp_ [wAs] [] (by decide))] (by simp only [go_sem, seval, asO, ca_, b5_, wAs]; rfl) ?_ ?_)
 ·first | trivial | simp
 refine .ret ⟨.inr rfl, ?_⟩
 exact Out.mem' (by simp only [Tryz.results261]; rfl) (by simp only [az_, bj_, go_sem, seval, asO, ca_, b5_, wAs]) (by simp only [bg_, rns, rn, go_sem, seval, asO, ca_, b5_, wAs] <;> (simp)) (by simp) rfl (by decide) (by simp only [go_sem, seval, asO, ca_, b5_, wAs]) (by simp only [av_, go_sem, seval, asO, ca_, b5_, wAs]) (by simp only [ao_, go_sem, seval, asO, ca_, b5_, wAs] <;> (simp [ca_]))
 | cons x r =>
 refine al_ (fn := Tryz.f261) [0] Tryz.func261 rfl rfl (by simp) fun C => ?_
 rw [ay_]
 simp only [Tryz.ntmps261, T7_, List.length_nil, Nat.reduceAdd, Nat.reduceSub, List.replicate_succ, List.replicate_zero, List.cons_append, List.nil_append, bs_]
 refine .seq (.rgn [] (by simp only [go_sem, seval, ca_, b5_, wAs]; rfl) ?_ ?_)
 ·first | trivial | simp
 refine .seq (.rgn [a9_ (kp_ [wAs] x (by decide))] (by simp only [go_sem, seval, ca_, b5_, wAs]; rfl) ?_ ?_)
 ·first | trivial | simp
 refine .ret ⟨.inr rfl, ?_⟩
 exact Out.mem' (by simp only [Tryz.results261]; rfl) (by simp only [az_, bj_, go_sem, seval, ca_, b5_, wAs]) (by simp only [bg_, rns, rn, go_sem, seval, ca_, b5_, wAs] <;> (simp [cl_, wAs])) (by simp) rfl (by decide) (by simp only [go_sem, seval, ca_, b5_, wAs]) (by simp only [av_, go_sem, seval, ca_, b5_, wAs]) (by simp only [ao_, go_sem, seval, ca_, b5_, wAs] <;> (simp [b5_]))
end
section
set_option maxRecDepth 100000
set_option maxHeartbeats 8000000
def okS2 (s : RS) : Prop := smW s.left ∧ 0 ≤ s.deep ∧ s.deep + s.left.length ≤ 1000000
theorem okS2.of {s s' : RS} (h : okS2 s) (d : Dn s' s 0) (w : smW s'.left) : okS2 s' := ⟨w, by have := d.1; have := h.2.1; omega, by have := d.2.1; have := h.2.2; omega⟩
def y4_ (n : Nat) : Prop := ∀ (t : Nat) (s : RS), t ≤ 4 → okS2 s → 10 * s.left.length + 10 - t ≤ n → ACall En 186 [.pt 0 3 0 0, .i .i64 t] [rsB s] [.ag (eC (cu_ n t s).1)] [rsB (cu_ n t s).2]
def x0_ (n : Nat) : Prop := ∀ (s : RS), okS2 s → 10 * s.left.length + 5 ≤ n → ACall En 231 [.pt 0 3 0 0] [rsB s] [.ag (eC (ff_ n s).1)] [rsB (ff_ n s).2]
theorem is_ {s : RS} (h : okS2 s) : okS2 (cd_ s) := h.of (Dn.nx s) (ha_ h.1).1
theorem xd_ {s : RS} (h : okS2 s) (n t : Nat) : okS2 (cu_ n t s).2 := h.of ((adb_ n).1 t s) ((i_sm n).1 t s h.1).2
theorem i8_ {s : RS} (h : s.left ≠ []) : (cd_ s).left.length + 1 = s.left.length := by
 unfold cd_
 cases hl : s.left with
 | nil => exact absurd hl h
 | cons x r => rfl
theorem vr_ {s : RS} (h : s.left ≠ []) : (b6_ s.left).getD 0 [] = [.s (cl_ s)] := by
 unfold cl_
 cases hl : s.left with
 | nil => exact absurd hl h
 | cons x r => rfl
theorem ab7_ {j t : Nat} {e : E} {s : RS} (h : ((!s.bad && decide ((s.left.length : Int) > 0)) && bl_ (cl_ s) == (t : Int)) = true) : du_ (j + 1) t e s = du_ j t (.mk 3 0 (cl_ s) [e, (cu_ j (t + 1) (cd_ s)).1]) (cu_ j (t + 1) (cd_ s)).2 ∧ s.left ≠ [] := by
 simp only [T5_, Bool.not_eq_true', T3_, beq_iff_eq] at h
 have hne : s.left ≠ [] := by intro e; rw [e] at h; simp at h
 simp only [du_]
 rw [if_pos ⟨h.1.1, hne, h.2⟩]
 exact ⟨rfl, hne⟩
theorem ab0_ {j t : Nat} {e : E} {s : RS} (h : ((!s.bad && decide ((s.left.length : Int) > 0)) && bl_ (cl_ s) == (t : Int)) = false) : du_ (j + 1) t e s = (e, s) := by
 simp only [du_]
 rw [if_neg]
 rintro ⟨a, b, c⟩
 rw [a, c] at h
 cases hl : s.left with
 | nil => exact b hl
 | cons x r => rw [hl] at h; simp at h
theorem acs_ {s : RS} (h : (!s.bad && decide ((s.left.length : Int) > 0)) = true) : s.left ≠ [] := by intro e; rw [e] at h; simp at h
theorem akd_ {s : RS} (h : (!s.bad && decide ((s.left.length : Int) > 0)) = true) : (0 : Int) < s.left.length := by simp at h; omega
theorem vj_ {s : RS} (h : s.left ≠ []) : ((b6_ s.left).getD 0 []).length = 1 := by rw [vr_ h]; rfl
theorem akw_ {s : RS} (h : s.left ≠ []) : ((b6_ s.left).getD 0 []).getD 0 .no = .s (cl_ s) := by rw [vr_ h]; rfl
def LI (n t : Nat) (s : RS) (q : Nat × E × RS) : Prop := okS2 q.2.2 ∧ 10 * q.2.2.left.length + 1 ≤ q.1 ∧ q.1 ≤ n ∧ du_ n t (cu_ n (t + 1) s).1 (cu_ n (t + 1) s).2 = du_ q.1 t q.2.1 q.2.2
def LN (t : Nat) (q : Nat × E × RS) : Nat × E × RS := (q.1 - 1, .mk 3 0 (cl_ q.2.2) [q.2.1, (cu_ (q.1 - 1) (t + 1) (cd_ q.2.2)).1], (cu_ (q.1 - 1) (t + 1) (cd_ q.2.2)).2)
theorem z4_ {n t : Nat} {s : RS} {q : Nat × E × RS} (h8 : ((t : Int) == 4) = false) (hI : LI n t s q) (h : ((!q.2.2.bad && decide ((q.2.2.left.length : Int) > 0)) && bl_ (cl_ q.2.2) == (t : Int)) = false) : cu_ (n + 1) t s = q.2 := by
 obtain ⟨j, e, s'⟩ := q
 obtain ⟨h1, h2, h3, h4⟩ := hI
 dsimp only at h1 h2 h3 h4 h ⊢
 obtain ⟨i, rfl⟩ : ∃ i, j = i + 1 := ⟨j - 1, by omega⟩
 rw [ol_ (by simp at h8; omega), h4, ab0_ h]
theorem uk_ {n t : Nat} {s : RS} {q : Nat × E × RS} (hI : LI n t s q) (h : ((!q.2.2.bad && decide ((q.2.2.left.length : Int) > 0)) && bl_ (cl_ q.2.2) == (t : Int)) = true) : LI n t s (LN t q) ∧ (LN t q).2.2.left.length < q.2.2.left.length := by
 obtain ⟨j, e, s'⟩ := q
 obtain ⟨h1, h2, h3, h4⟩ := hI
 unfold LI LN
 dsimp only at h1 h2 h3 h4 h ⊢
 obtain ⟨i, rfl⟩ : ∃ i, j = i + 1 := ⟨j - 1, by omega⟩
 obtain ⟨g1, g2⟩ := ab7_ (j := i) (e := e) h
 have q1 := i8_ g2
 have q2 := (zr_ i).1 (t + 1) (cd_ s')
 simp only [Nat.add_sub_cancel]
 exact ⟨⟨xd_ (is_ h1) _ _, by omega, by omega, by rw [h4, g1]⟩, by omega⟩
theorem yc_ (n : Nat) (ihL : ∀ j, j < n + 1 → y4_ j) (ihH : ∀ j, j < n + 1 → x0_ j) : y4_ (n + 1) := fun t s ht hs hn => by
 obtain ⟨s1, s2, s3⟩ := hs
 have hlen : s.left.length < 4611686018427387904 := by omega
 have L1 : t < 4 → okS2 (cu_ n (t + 1) s).2 ∧ (cu_ n (t + 1) s).2.left.length ≤ s.left.length := fun _ => ⟨xd_ ⟨s1, s2, s3⟩ n (t + 1), (zr_ n).1 (t + 1) s⟩
 have LJ : ∀ q : Nat × E × RS, okS2 q.2.2 → 10 * q.2.2.left.length + 1 ≤ q.1 → q.1 ≤ n → q.2.2.left ≠ [] → t < 4 → ACall En 186 [.pt 0 3 0 0, .i .i64 ((t + 1 : Nat) : Int)] [rsB (cd_ q.2.2)] [.ag (eC (cu_ (q.1 - 1) (t + 1) (cd_ q.2.2)).1)] [rsB (cu_ (q.1 - 1) (t + 1) (cd_ q.2.2)).2] := fun q h1 h2 h3 h4 h5 => by
  have := i8_ h4
  exact ihL (q.1 - 1) (by omega) (t + 1) (cd_ q.2.2) (by omega) (is_ h1) (by omega)
 have hw : IntKind.i64.wrap ((t : Int) + 1) = ((t + 1 : Nat) : Int) := by rw [bp_ (by omega) (by omega)]; rfl
 refine al_ (fn := Tryz.f186) [0] Tryz.func186 rfl rfl (by simp) fun C => ?_
 rw [ay_]
 simp only [Tryz.ntmps186, T7_, List.length_nil, Nat.reduceAdd, Nat.reduceSub, List.replicate_succ, List.replicate_zero, List.cons_append, List.nil_append, bs_]
 refine .seq (.rgn [] (by simp only [go_sem, seval, asO, ao_, av_, hw, ac_]; rfl) ?_ ?_)
 ·first | trivial | simp
 refine .seq (.seq (.rgn [] (by simp only [go_sem, seval, asO, ao_, av_, hw, ac_]; rfl) ?_ ?_))
 ·first | trivial | simp
 refine .condB (by simp only [go_sem, seval, asO, ao_, av_, hw, ac_]; rfl) (by simp only [go_sem, seval, asO, ao_, av_, hw, ac_]) (fun h8 => ?_) (fun h8 => ?_)
 ·refine .seq (.rgn [cv_ [0] [] (ihH n (by omega) s ⟨s1, s2, s3⟩ (by simp at h8; omega))] (by simp only [go_sem, seval, asO, ao_, av_, hw, ac_]; rfl) ?_ ?_)
  ·first | trivial | simp
  refine .ret ⟨.inr rfl, ?_⟩
  exact Out.mem' (by simp only [Tryz.results186]; rfl) (by simp only [az_, bj_, go_sem, seval, asO, ao_, av_, hw, ac_]) (by simp only [bg_, rns, rn, go_sem, seval, asO, ao_, av_, hw, ac_] <;> ((obtain rfl : t = 4 := (by simp at h8; omega)); simp [of_])) (by simp) rfl (by decide) (by simp only [go_sem, seval, asO, ao_, av_, hw, ac_]) (by simp only [av_, go_sem, seval, asO, ao_, av_, hw, ac_]) (by simp only [ao_, go_sem, seval, asO, ao_, av_, hw, ac_] <;> ((obtain rfl : t = 4 := (by simp at h8; omega)); simp [of_]))
 ·refine .skip (.seq (.rgn [cv_ [0] [] (ihL n (by omega) (t + 1) s (by simp at h8; omega) ⟨s1, s2, s3⟩ (by simp at h8; omega))] (by simp only [go_sem, seval, asO, ao_, av_, hw, ac_]; rfl) ?_ ?_))
  ·first | trivial | simp
  refine .seq (.block (.loopK (fun q : Nat × E × RS => ⟨[.pt 0 3 0 0, .i .i64 t, .no, .no, .pt 14 4 0 0, .pt 15 4 0 0, .no, .no, .no, .no, .no, .no, .no, .no, .no, .no, .no, .no, .no, .no, .no, .no, .no, .no, .no, .no, .no, .no, .no, .no, .no, .no, .no, .no, .no, .no, .no, .no, .no, .no, .no, .no, .no, .no, .no, .no, .no, .no, .no, .no], a7_ [(0, rsB q.2.2), (14, ⟨33, 4, [[.i .i64 0, .i .i64 0, .s [], .sl true []]]⟩), (15, ⟨33, 4, [eC q.2.1]⟩)], us [14, 15]⟩) (fun q : Nat × E × RS => LI n t s q) (fun q : Nat × E × RS => q.2.2.left.length) ((n, (cu_ n (t + 1) s).1, (cu_ n (t + 1) s).2)) ?_ ?_ (fun q hI => ?_)))
  ·exact ⟨(L1 (by simp at h8; omega)).1, by have := (L1 (by simp at h8; omega)).2; dsimp only; simp at h8; omega, Nat.le_refl _, rfl⟩
  ·exact Can.weak (Weak.lit (by simp only [go_sem, seval, asO, ao_, av_, hw, ac_, at_, leV, aq_, ar_, V.inn, us, T9_, Ta_]) (by simp only [go_sem, seval, asO, ao_, av_, hw, ac_, at_, leV, aq_, ar_, V.inn, us, T9_, Ta_]) (by simp only [go_sem, seval, asO, ao_, av_, hw, ac_, at_, leV, aq_, ar_, V.inn, us, T9_, Ta_]))
  refine .seq (.seq (.rgnS [34] [asO En { v := .s (cl_ q.2.2) }, a9_ (jl_ (cl_ q.2.2))] (by simp only [go_sem, seval, asO, ao_, av_, hw, ac_]; rfl) ?_ ?_))
  ·exact ⟨fun h => ⟨h, akd_ h, vj_ (acs_ h)⟩, fun h => ⟨⟨h, by rw [vj_ (acs_ h)]; exact Nat.le_refl _⟩, by rw [akw_ (acs_ h)]⟩⟩
  refine .condB (by simp only [go_sem, seval, asO, ao_, av_, hw, ac_]; rfl) (by simp only [go_sem, seval, asO, ao_, av_, hw, ac_]) (fun h38 => ?_) (fun h38 => ?_)
  ·refine .skip (.block (.seq (.rgn [cv_ [0] [] (nb_ q.2.2 (by have := hI.1.2; omega))] (by simp only [go_sem, seval, asO, ao_, av_, hw, ac_]; rfl) ?_ ?_)))
   ·first | trivial | simp
   refine .rgnD [cv_ [0] [] (LJ q hI.1 hI.2.1 hI.2.2.1 (by simp at h38; intro e; simp [e] at h38) (by simp at h8; omega))] enM (by simp only [go_sem, seval, asO, ao_, av_, hw, ac_]; rfl) (by rfl) ?_ ?_
   ·first | trivial | simp
   refine Exists.intro (LN t q) ⟨?_, ?_, ?_⟩
   ·exact (uk_ hI h38).1
   ·exact (uk_ hI h38).2
   refine Can.trans (Can.leAt 15 ([[.i .i64 3, .i .i64 0, .s (cl_ q.2.2), .sl false [eC q.2.1, eC (cu_ (q.1 - 1) (t + 1) (cd_ q.2.2)).1]]]) (by simp only [go_sem, seval, asO, ao_, av_, hw, ac_] <;> rfl) (by simp only [go_sem, seval, asO, ao_, av_, hw, ac_, ler, les, leV] <;> (first | trivial | simp)) (by simp only [go_sem, seval, asO, ao_, av_, hw, ac_] <;> rfl)) ?_
   exact Can.weak (Weak.lit (by simp only [go_sem, seval, asO, ao_, av_, hw, ac_, at_, leV, aq_, ar_, V.inn, us, T9_, Ta_]) (by simp only [go_sem, seval, asO, ao_, av_, hw, ac_, at_, leV, aq_, ar_, V.inn, us, T9_, Ta_]) (by simp only [go_sem, seval, asO, ao_, av_, hw, ac_, at_, leV, aq_, ar_, V.inn, us, T9_, Ta_] <;> (simp [LN, E.kind, E.n, E.s, E.kids, eR, bk_])))
  ·refine .exit (.seq (.rgn [] (by simp only [go_sem, seval, asO, ao_, av_, hw, ac_]; rfl) ?_ ?_))
   ·first | trivial | simp
   refine .ret ⟨.inr rfl, ?_⟩
   exact Out.mem' (by simp only [Tryz.results186]; rfl) (by simp only [az_, bj_, go_sem, seval, asO, ao_, av_, hw, ac_]) (by simp only [bg_, rns, rn, go_sem, seval, asO, ao_, av_, hw, ac_] <;> (rw [z4_ h8 hI h38])) (by simp) rfl (by decide) (by simp only [go_sem, seval, asO, ao_, av_, hw, ac_]) (by simp only [av_, go_sem, seval, asO, ao_, av_, hw, ac_]) (by simp only [ao_, go_sem, seval, asO, ao_, av_, hw, ac_] <;> (rw [z4_ h8 hI h38]; (try simp)))
end
section
set_option maxRecDepth 100000
set_option maxHeartbeats 8000000
theorem agc_ {s : RS} {e : E} (h : (!s.bad && (!s.left.isEmpty && cl_ s == wAs)) = true) : asR s e = asR (cd_ (cd_ s)) (.mk 4 0 (cl_ (cd_ s)) [e]) ∧ s.left ≠ [] := by
 obtain ⟨left, bad, deep⟩ := s
 cases left with
 | nil => simp at h
 | cons x r =>
  simp only [T5_, Bool.not_eq_true', beq_iff_eq, cl_] at h
  obtain ⟨rfl, _, rfl⟩ := h
  refine ⟨?_, by simp⟩
  cases r with
  | nil => simp [asR, asL, cd_, cl_]
  | cons t r => simp [asR, asL, cd_, cl_]
theorem abw_ {s : RS} {e : E} (h : (!s.bad && (!s.left.isEmpty && cl_ s == wAs)) = false) : asR s e = (e, s) := by
 obtain ⟨left, bad, deep⟩ := s
 cases bad with
 | true => simp [asR]
 | false =>
  match left with
  | [] => simp [asR, asL]
  | [x] => simp [cl_] at h; simp [asR, asL, h]
  | x :: t :: r => simp [cl_] at h; simp [asR, asL, h]
def HS (s : RS) : RS := ⟨(cd_ s).left, (cd_ s).bad || decide ((cd_ s).deep + 1 > 40), (cd_ s).deep + 1⟩
def HP (m : Nat) (s : RS) : E × RS := if (HS s).bad then (E0, HS s) else cu_ m 1 (HS s)
def HQ (q : E × RS) : E × RS := (q.1, if q.2.bad then q.2 else { cd_ q.2 with bad := !(cl_ q.2 == [41]) })
theorem afp_ {m : Nat} {s : RS} (h : (!((cd_ s).bad || decide ((cd_ s).deep + 1 > 40))) = true) : HP m s = cu_ m 1 (HS s) := by
 unfold HP
 have : (HS s).bad = false := by simpa [HS] using h
 rw [this]; rfl
theorem ac1_ {m : Nat} {s : RS} (h : (!((cd_ s).bad || decide ((cd_ s).deep + 1 > 40))) = false) : HP m s = (E0, HS s) := by
 unfold HP
 have : (HS s).bad = true := by simp only [Bool.not_eq_false'] at h; exact h
 rw [this]; rfl
theorem i4_ {m : Nat} {s : RS} : ej_ (m + 1) [40] (cd_ s) = HQ (HP m s) := by
 simp only [ej_, if_true]
 by_cases h : (cd_ s).bad = true ∨ 40 < (cd_ s).deep + 1
 ·rw [if_pos h]
  have hx : ((cd_ s).bad || decide ((cd_ s).deep + 1 > 40)) = true := by simpa using h
  rw [ac1_ (by rw [hx]; rfl)]
  simp only [HQ, HS, hx, if_true]
 ·rw [if_neg h]
  have hx : ((cd_ s).bad || decide ((cd_ s).deep + 1 > 40)) = false := by simp at h ⊢; exact ⟨h.1, by omega⟩
  have hb : (cd_ s).bad = false := by simp at h; exact h.1
  have e : HS s = { cd_ s with deep := (cd_ s).deep + 1 } := by unfold HS; rw [hx, ← hb]
  rw [afp_ (by rw [hx]; rfl), e]; rfl
theorem ig_ {n : Nat} {w : Str} {s : RS} (h : w ≠ [40]) (h1 : c4_ w = false) (h2 : gj_ w = false) : ej_ (n + 1) w s = (E0, { s with bad := true }) := by simp [ej_, h, h1, h2]
theorem ii_ {s : RS} (h : okS2 s) (b : Bool) : okS2 { s with bad := b } := h
theorem s1_ {s : RS} (h : okS2 s) (hn : s.left ≠ []) : okS2 (HS s) := by
 have := i8_ hn
 have h1 := is_ h
 exact ⟨h1.1, by have := h1.2.1; simp only [HS]; omega, by have := pn_ s; have := h.2.2; simp only [HS]; omega⟩
theorem zv_ {s : RS} (h : okS2 s) (hn : s.left ≠ []) (m : Nat) : okS2 (HP m s).2 := by
 unfold HP; split
 ·exact s1_ h hn
 ·exact xd_ (s1_ h hn) m 1
theorem k4_ {q : E × RS} (h : okS2 q.2) : okS2 (HQ q).2 := by
 unfold HQ; dsimp only; split
 ·exact h
 ·exact ii_ (is_ h) _
theorem s9_ {s : RS} (h : cl_ s ≠ []) : s.left ≠ [] := by unfold cl_ at h; intro e; rw [e] at h; exact h rfl
theorem dk_ {n : Nat} {s : RS} {q : E × RS} (h : ej_ n (cl_ s) (cd_ s) = q) : ff_ (n + 1) s = asR q.2 q.1 := by simp only [ff_, h]
theorem ag0_ (s : Str) : d5_ (jn_ s) = true := by unfold jn_; split <;> rfl
theorem aae_ (m : Nat) (ihL : ∀ j, j < m + 2 → y4_ j) : x0_ (m + 2) := fun s hs hn => by
 have h1 := is_ hs
 have hd := pn_ s
 have hl1 := g4_ s
 have hb := hs.2.2
 have hb0 := hs.2.1
 have hH := (ha_ hs.1).2
 have hw : IntKind.i64.wrap ((cd_ s).deep + 1) = (cd_ s).deep + 1 := bp_ (by omega) (by omega)
 have hnv : c4_ (cl_ s) = true → jn_ (cl_ s) = .i .i64 (cf_ (cl_ s)) := fun h => by simp [jn_, h]
 have LB : s.left ≠ [] → ACall En 186 [.pt 0 3 0 0, .i .i64 ((1 : Nat) : Int)] [rsB (HS s)] [.ag (eC (cu_ m 1 (HS s)).1)] [rsB (cu_ m 1 (HS s)).2] := fun h => ihL m (by omega) 1 (HS s) (by omega) (s1_ hs h) (by have := i8_ h; show 10 * (cd_ s).left.length + 10 - 1 ≤ m; omega)
 refine al_ (fn := Tryz.f231) [0] Tryz.func231 rfl rfl (by simp) fun C => ?_
 rw [ay_]
 simp only [Tryz.ntmps231, T7_, List.length_nil, Nat.reduceAdd, Nat.reduceSub, List.replicate_succ, List.replicate_zero, List.cons_append, List.nil_append, bs_]
 refine .seq (.rgn [] (by simp only [go_sem, seval, ao_, av_, hw]; rfl) ?_ ?_)
 ·first | trivial | simp
 refine .seq (.rgn [] (by simp only [go_sem, seval, ao_, av_, hw]; rfl) ?_ ?_)
 ·first | trivial | simp
 refine .seq (.rgn [cv_ [0] [] (nb_ s (by omega))] (by simp only [go_sem, seval, ao_, av_, hw]; rfl) ?_ ?_)
 ·first | trivial | simp
 refine .seq (.rgn [a9_ (va_ (cl_ s) hH)] (by simp only [go_sem, seval, ao_, av_, hw]; rfl) ?_ ?_)
 ·exact ⟨ci_ _, ag0_ _⟩
 refine .seqJ (fun q2 : E × RS => ⟨[.pt 0 3 0 0, .no, .pt 12 4 0 0, .pt 13 4 0 0, .no, .no, .no, .no, .no, .no, .no, .no, .no, .no, .no, .no, .no, .no, .no, .no, .no, .no, .no, .no, .no, .no, .no, .no, .no, .no, .no, .no, .no, .no, .no, .no, .no, .no, .no, .no, .no, .no, .no, .no, .no, .no, .no, .no, .no, .no, .no, .no, .no, .no, .no, .no, .no, .no, .no, .no, .no, .no, .no, .no, .no, .no, .no, .no, .no, .no, .no, .no, .no, .no, .no, .no, .no, .no, .no, .no], a7_ [(0, rsB q2.2), (12, ⟨33, 4, [[.i .i64 0, .i .i64 0, .s [], .sl true []]]⟩), (13, ⟨33, 4, [eC q2.1]⟩)], us [12, 13]⟩) (fun q2 : E × RS => ff_ (m + 2) s = asR q2.2 q2.1 ∧ okS2 q2.2) ?_ (fun q2 hJ => ?_)
 ·refine .block (.seq (.rgn [] (by simp only [go_sem, seval, ao_, av_, hw]; rfl) ?_ ?_))
  ·first | trivial | simp
  refine .condB (by simp only [go_sem, seval, ao_, av_, hw]; rfl) (by simp only [go_sem, seval, ao_, av_, hw]) (fun h17 => ?_) (fun h17 => ?_)
  ·refine .seq (.rgn [] (by simp only [go_sem, seval, ao_, av_, hw]; rfl) ?_ ?_)
   ·first | trivial | simp
   refine .seq (.rgn [] (by simp only [go_sem, seval, ao_, av_, hw]; rfl) ?_ ?_)
   ·first | trivial | simp
   refine .seqJ (fun q : E × RS => ⟨[.pt 0 3 0 0, .no, .pt 12 4 0 0, .pt 13 4 0 0, .no, .no, .no, .no, .no, .no, .no, .no, .no, .no, .no, .no, .no, .no, .no, .no, .no, .no, .no, .no, .no, .no, .no, .no, .no, .no, .no, .no, .no, .no, .no, .no, .no, .no, .no, .no, .no, .no, .no, .no, .no, .no, .no, .no, .no, .no, .no, .no, .no, .no, .no, .no, .no, .no, .no, .no, .no, .no, .no, .no, .no, .no, .no, .no, .no, .no, .no, .no, .no, .no, .no, .no, .no, .no, .no, .no], a7_ [(0, rsB q.2), (12, ⟨33, 4, [[.i .i64 0, .i .i64 0, .s [], .sl true []]]⟩), (13, ⟨33, 4, [eC q.1]⟩)], us [12, 13]⟩) (fun q : E × RS => q = HP m s ∧ okS2 q.2) ?_ (fun q hJ => ?_)
   ·refine .seq (.rgn [] (by simp only [go_sem, seval, ao_, av_, hw]; rfl) ?_ ?_)
    ·first | trivial | simp
    refine .condB (by simp only [go_sem, seval, ao_, av_, hw]; rfl) (by simp only [go_sem, seval, ao_, av_, hw]) (fun h45 => ?_) (fun h45 => ?_)
    ·refine .rgn [cv_ [0] [] (LB (s9_ (by simp at h17; rw [h17]; simp)))] (by simp only [go_sem, seval, ao_, av_, hw]; rfl) ?_ ?_
     ·first | trivial | simp
     refine Exists.intro (HP m s) ⟨?_, ?_⟩
     ·exact ⟨rfl, zv_ hs (s9_ (by simp at h17; rw [h17]; simp)) m⟩
     exact Can.weak (Weak.lit (by simp only [go_sem, seval, ao_, av_, hw, at_, leV, aq_, ar_, V.inn, us, T9_, Ta_]) (by simp only [go_sem, seval, ao_, av_, hw, at_, leV, aq_, ar_, V.inn, us, T9_, Ta_]) (by simp only [go_sem, seval, ao_, av_, hw, at_, leV, aq_, ar_, V.inn, us, T9_, Ta_] <;> (first | (rw [afp_ h45]; simp; done) | (rw [ac1_ h45]; simp [HS, E0, E.kind, E.n, E.s, E.kids, eR]; done))))
    ·refine .skip ?_
     refine Exists.intro (HP m s) ⟨?_, ?_⟩
     ·exact ⟨rfl, zv_ hs (s9_ (by simp at h17; rw [h17]; simp)) m⟩
     refine Can.trans (Can.leAt 13 ([[.i .i64 0, .i .i64 0, .s [], .sl false []]]) (by simp only [go_sem, seval, ao_, av_, hw] <;> rfl) (by simp only [go_sem, seval, ao_, av_, hw, ler, les, leV] <;> (first | trivial | simp)) (by simp only [go_sem, seval, ao_, av_, hw] <;> rfl)) ?_
     exact Can.weak (Weak.lit (by simp only [go_sem, seval, ao_, av_, hw, at_, leV, aq_, ar_, V.inn, us, T9_, Ta_]) (by simp only [go_sem, seval, ao_, av_, hw, at_, leV, aq_, ar_, V.inn, us, T9_, Ta_]) (by simp only [go_sem, seval, ao_, av_, hw, at_, leV, aq_, ar_, V.inn, us, T9_, Ta_] <;> (first | (rw [afp_ h45]; simp; done) | (rw [ac1_ h45]; simp [HS, E0, E.kind, E.n, E.s, E.kids, eR]; done))))
   cases hb : q.2.bad
   ·refine .rgn [cv_ [0] [] (nb_ q.2 (by have := (hJ.2 : okS2 q.2).2.2; have := (hJ.2 : okS2 q.2).2.1; omega))] (by simp only [go_sem, seval, ao_, av_, hw, hb]; rfl) ?_ ?_
    ·(first | trivial | (simp; done) | (simp [hb]; done))
    refine Exists.intro (HQ q) ⟨?_, ?_⟩
    ·first | exact ⟨dk_ (by rw [show cl_ s = [40] from by simpa using h17, i4_, hJ.1]), k4_ hJ.2⟩ | exact ⟨dk_ (g2_ (by simpa using h17) (by simpa using h60)), h1⟩ | exact ⟨dk_ (gd_ (by simpa using h17) (by simpa using h60) (by simpa using h64)), h1⟩ | exact ⟨dk_ (ig_ (by simpa using h17) (by simpa using h60) (by simpa using h64)), ii_ h1 true⟩
    exact Can.weak (Weak.lit (by simp only [go_sem, seval, ao_, av_, hw, at_, leV, aq_, ar_, V.inn, us, T9_, Ta_]) (by simp only [go_sem, seval, ao_, av_, hw, at_, leV, aq_, ar_, V.inn, us, T9_, Ta_]) (by simp only [go_sem, seval, ao_, av_, hw, at_, leV, aq_, ar_, V.inn, us, T9_, Ta_] <;> (first | (simp [HQ, hb]; done) | (simp [E.kind, E.n, E.s, E.kids, eR]; done) | (simp [E0, E.kind, E.n, E.s, E.kids, eR]; done))))
   ·refine .rgn [cv_ [0] [] (nb_ q.2 (by have := (hJ.2 : okS2 q.2).2.2; have := (hJ.2 : okS2 q.2).2.1; omega))] (by simp only [go_sem, seval, ao_, av_, hw, hb]; rfl) ?_ ?_
    ·(first | trivial | (simp; done) | (simp [hb]; done))
    refine Exists.intro (HQ q) ⟨?_, ?_⟩
    ·first | exact ⟨dk_ (by rw [show cl_ s = [40] from by simpa using h17, i4_, hJ.1]), k4_ hJ.2⟩ | exact ⟨dk_ (g2_ (by simpa using h17) (by simpa using h60)), h1⟩ | exact ⟨dk_ (gd_ (by simpa using h17) (by simpa using h60) (by simpa using h64)), h1⟩ | exact ⟨dk_ (ig_ (by simpa using h17) (by simpa using h60) (by simpa using h64)), ii_ h1 true⟩
    exact Can.weak (Weak.lit (by simp only [go_sem, seval, ao_, av_, hw, at_, leV, aq_, ar_, V.inn, us, T9_, Ta_]) (by simp only [go_sem, seval, ao_, av_, hw, at_, leV, aq_, ar_, V.inn, us, T9_, Ta_]) (by simp only [go_sem, seval, ao_, av_, hw, at_, leV, aq_, ar_, V.inn, us, T9_, Ta_] <;> (first | (simp [HQ, hb]; done) | (simp [E.kind, E.n, E.s, E.kids, eR]; done) | (simp [E0, E.kind, E.n, E.s, E.kids, eR]; done))))
  ·refine .seq (.rgn [] (by simp only [go_sem, seval, ao_, av_, hw]; rfl) ?_ ?_)
   ·first | trivial | simp
   refine .condB (by simp only [go_sem, seval, ao_, av_, hw]; rfl) (by simp only [go_sem, seval, ao_, av_, hw]) (fun h60 => ?_) (fun h60 => ?_)
   ·refine .rgn [] (by simp only [go_sem, seval, ao_, av_, hw, hnv (by simpa using h60)]; rfl) ?_ ?_
    ·first | trivial | simp
    refine Exists.intro ((.mk 1 (cf_ (cl_ s)) [] [], cd_ s)) ⟨?_, ?_⟩
    ·first | exact ⟨dk_ (by rw [show cl_ s = [40] from by simpa using h17, i4_, hJ.1]), k4_ hJ.2⟩ | exact ⟨dk_ (g2_ (by simpa using h17) (by simpa using h60)), h1⟩ | exact ⟨dk_ (gd_ (by simpa using h17) (by simpa using h60) (by simpa using h64)), h1⟩ | exact ⟨dk_ (ig_ (by simpa using h17) (by simpa using h60) (by simpa using h64)), ii_ h1 true⟩
    refine Can.trans (Can.leAt 13 ([[.i .i64 1, .i .i64 (cf_ (cl_ s)), .s [], .sl false []]]) (by simp only [go_sem, seval, ao_, av_, hw] <;> rfl) (by simp only [go_sem, seval, ao_, av_, hw, ler, les, leV] <;> (first | trivial | simp)) (by simp only [go_sem, seval, ao_, av_, hw] <;> rfl)) ?_
    exact Can.weak (Weak.lit (by simp only [go_sem, seval, ao_, av_, hw, at_, leV, aq_, ar_, V.inn, us, T9_, Ta_]) (by simp only [go_sem, seval, ao_, av_, hw, at_, leV, aq_, ar_, V.inn, us, T9_, Ta_]) (by simp only [go_sem, seval, ao_, av_, hw, at_, leV, aq_, ar_, V.inn, us, T9_, Ta_] <;> (first | (simp [HQ, hb]; done) | (simp [E.kind, E.n, E.s, E.kids, eR]; done) | (simp [E0, E.kind, E.n, E.s, E.kids, eR]; done))))
   ·refine .seq (.rgn [a9_ (pg_ (cl_ s) (by omega))] (by simp only [go_sem, seval, ao_, av_, hw]; rfl) ?_ ?_)
    ·first | trivial | simp
    refine .condB (by simp only [go_sem, seval, ao_, av_, hw]; rfl) (by simp only [go_sem, seval, ao_, av_, hw]) (fun h64 => ?_) (fun h64 => ?_)
    ·refine .rgn [] (by simp only [go_sem, seval, ao_, av_, hw]; rfl) ?_ ?_
     ·first | trivial | simp
     refine Exists.intro ((.mk 2 0 (cl_ s) [], cd_ s)) ⟨?_, ?_⟩
     ·first | exact ⟨dk_ (by rw [show cl_ s = [40] from by simpa using h17, i4_, hJ.1]), k4_ hJ.2⟩ | exact ⟨dk_ (g2_ (by simpa using h17) (by simpa using h60)), h1⟩ | exact ⟨dk_ (gd_ (by simpa using h17) (by simpa using h60) (by simpa using h64)), h1⟩ | exact ⟨dk_ (ig_ (by simpa using h17) (by simpa using h60) (by simpa using h64)), ii_ h1 true⟩
     refine Can.trans (Can.leAt 13 ([[.i .i64 2, .i .i64 0, .s (cl_ s), .sl false []]]) (by simp only [go_sem, seval, ao_, av_, hw] <;> rfl) (by simp only [go_sem, seval, ao_, av_, hw, ler, les, leV] <;> (first | trivial | simp)) (by simp only [go_sem, seval, ao_, av_, hw] <;> rfl)) ?_
     exact Can.weak (Weak.lit (by simp only [go_sem, seval, ao_, av_, hw, at_, leV, aq_, ar_, V.inn, us, T9_, Ta_]) (by simp only [go_sem, seval, ao_, av_, hw, at_, leV, aq_, ar_, V.inn, us, T9_, Ta_]) (by simp only [go_sem, seval, ao_, av_, hw, at_, leV, aq_, ar_, V.inn, us, T9_, Ta_] <;> (first | (simp [HQ, hb]; done) | (simp [E.kind, E.n, E.s, E.kids, eR]; done) | (simp [E0, E.kind, E.n, E.s, E.kids, eR]; done))))
    ·refine .rgn [] (by simp only [go_sem, seval, ao_, av_, hw]; rfl) ?_ ?_
     ·first | trivial | simp
     refine Exists.intro ((E0, { cd_ s with bad := true })) ⟨?_, ?_⟩
     ·first | exact ⟨dk_ (by rw [show cl_ s = [40] from by simpa using h17, i4_, hJ.1]), k4_ hJ.2⟩ | exact ⟨dk_ (g2_ (by simpa using h17) (by simpa using h60)), h1⟩ | exact ⟨dk_ (gd_ (by simpa using h17) (by simpa using h60) (by simpa using h64)), h1⟩ | exact ⟨dk_ (ig_ (by simpa using h17) (by simpa using h60) (by simpa using h64)), ii_ h1 true⟩
     refine Can.trans (Can.leAt 13 ([[.i .i64 0, .i .i64 0, .s [], .sl false []]]) (by simp only [go_sem, seval, ao_, av_, hw] <;> rfl) (by simp only [go_sem, seval, ao_, av_, hw, ler, les, leV] <;> (first | trivial | simp)) (by simp only [go_sem, seval, ao_, av_, hw] <;> rfl)) ?_
     exact Can.weak (Weak.lit (by simp only [go_sem, seval, ao_, av_, hw, at_, leV, aq_, ar_, V.inn, us, T9_, Ta_]) (by simp only [go_sem, seval, ao_, av_, hw, at_, leV, aq_, ar_, V.inn, us, T9_, Ta_]) (by simp only [go_sem, seval, ao_, av_, hw, at_, leV, aq_, ar_, V.inn, us, T9_, Ta_] <;> (first | (simp [HQ, hb]; done) | (simp [E.kind, E.n, E.s, E.kids, eR]; done) | (simp [E0, E.kind, E.n, E.s, E.kids, eR]; done))))
 refine .seq (.block (.loopK (fun p : E × RS => ⟨[.pt 0 3 0 0, .no, .pt 12 4 0 0, .pt 13 4 0 0, .no, .no, .no, .no, .no, .no, .no, .no, .no, .no, .no, .no, .no, .no, .no, .no, .no, .no, .no, .no, .no, .no, .no, .no, .no, .no, .no, .no, .no, .no, .no, .no, .no, .no, .no, .no, .no, .no, .no, .no, .no, .no, .no, .no, .no, .no, .no, .no, .no, .no, .no, .no, .no, .no, .no, .no, .no, .no, .no, .no, .no, .no, .no, .no, .no, .no, .no, .no, .no, .no, .no, .no, .no, .no, .no, .no], a7_ [(0, rsB p.2), (12, ⟨33, 4, [[.i .i64 0, .i .i64 0, .s [], .sl true []]]⟩), (13, ⟨33, 4, [eC p.1]⟩)], us [12, 13]⟩) (fun p : E × RS => asR q2.2 q2.1 = asR p.2 p.1 ∧ okS2 p.2) (fun p : E × RS => p.2.left.length) (q2) ?_ ?_ (fun p hI => ?_)))
 ·exact ⟨rfl, hJ.2⟩
 ·exact Can.weak (Weak.lit (by simp only [go_sem, seval, ao_, av_, hw, at_, leV, aq_, ar_, V.inn, us, T9_, Ta_]) (by simp only [go_sem, seval, ao_, av_, hw, at_, leV, aq_, ar_, V.inn, us, T9_, Ta_]) (by simp only [go_sem, seval, ao_, av_, hw, at_, leV, aq_, ar_, V.inn, us, T9_, Ta_]))
 refine .seq (.seq (.rgn [cv_ [0] [] (at_a p.2 (by have := hI.2.2.2; have := hI.2.2.1; omega))] (by simp only [go_sem, seval, ao_, av_, hw]; rfl) ?_ ?_))
 ·first | trivial | simp
 refine .condB (by simp only [go_sem, seval, ao_, av_, hw]; rfl) (by simp only [go_sem, seval, ao_, av_, hw]) (fun h71 => ?_) (fun h71 => ?_)
 ·refine .skip (.block (.seq (.rgn [cv_ [0] [] (nb_ p.2 (by have := hI.2.2.2; have := hI.2.2.1; omega))] (by simp only [go_sem, seval, ao_, av_, hw]; rfl) ?_ ?_)))
  ·first | trivial | simp
  refine .rgnD [cv_ [0] [] (nb_ (cd_ p.2) (by have := hI.2.2.2; have := hI.2.2.1; have := g4_ p.2; omega))] enM (by simp only [go_sem, seval, ao_, av_, hw]; rfl) (by rfl) ?_ ?_
  ·first | trivial | simp
  refine Exists.intro ((.mk 4 0 (cl_ (cd_ p.2)) [p.1], cd_ (cd_ p.2))) ⟨?_, ?_, ?_⟩
  ·exact ⟨by rw [hI.1, (agc_ h71).1], is_ (is_ hI.2)⟩
  ·have q1 := i8_ (agc_ (e := p.1) h71).2; have q2 := g4_ (cd_ p.2); dsimp only; omega
  refine Can.trans (Can.leAt 13 ([[.i .i64 4, .i .i64 0, .s (cl_ (cd_ p.2)), .sl false [eC p.1]]]) (by simp only [go_sem, seval, ao_, av_, hw] <;> rfl) (by simp only [go_sem, seval, ao_, av_, hw, ler, les, leV] <;> (first | trivial | simp)) (by simp only [go_sem, seval, ao_, av_, hw] <;> rfl)) ?_
  exact Can.weak (Weak.lit (by simp only [go_sem, seval, ao_, av_, hw, at_, leV, aq_, ar_, V.inn, us, T9_, Ta_]) (by simp only [go_sem, seval, ao_, av_, hw, at_, leV, aq_, ar_, V.inn, us, T9_, Ta_]) (by simp only [go_sem, seval, ao_, av_, hw, at_, leV, aq_, ar_, V.inn, us, T9_, Ta_] <;> (simp [E.kind, E.n, E.s, E.kids, eR, bk_])))
 ·refine .exit (.seq (.rgn [] (by simp only [go_sem, seval, ao_, av_, hw]; rfl) ?_ ?_))
  ·first | trivial | simp
  refine .ret ⟨.inr rfl, ?_⟩
  exact Out.mem' (by simp only [Tryz.results231]; rfl) (by simp only [az_, bj_, go_sem, seval, ao_, av_, hw]) (by simp only [bg_, rns, rn, go_sem, seval, ao_, av_, hw] <;> (rw [hJ.1, hI.1, abw_ h71])) (by simp) rfl (by decide) (by simp only [go_sem, seval, ao_, av_, hw]) (by simp only [av_, go_sem, seval, ao_, av_, hw]) (by simp only [ao_, go_sem, seval, ao_, av_, hw] <;> (rw [hJ.1, hI.1, abw_ h71]; (try simp)))
theorem ad8_ (n : Nat) : y4_ n ∧ x0_ n := by
 induction n using Nat.strongRecOn with
 | ind n ih =>
 refine ⟨?_, ?_⟩
 ·cases n with
  | zero => intro t s ht hs hn; omega
  | succ n => exact yc_ n (fun j hj => (ih j hj).1) (fun j hj => (ih j hj).2)
 ·match n with
  | 0 => intro s hs hn; omega
  | 1 => intro s hs hn; omega
  | m + 2 => exact aae_ m (fun j hj => (ih j hj).1)
end
section
set_option maxRecDepth 100000
set_option maxHeartbeats 8000000
theorem sx_ (e : E) (h : eok e = true) (hs : sm e = true) : ACall En 188 [.ag (eC e)] [] [.sl false (b6_ (wds e 1))] [] := by
 have hf := b4_ h
 have hm : many e ((5 : Nat) : Int) ≤ 12 := ip_ h
 have hw := dd_ 5 e 0 hf
 have W : ACall En 204 [.ag (eC e), .i .i64 0, .pt 0 1 0 0] [⟨3, 1, [[.i .i64 0]]⟩] [.sl false (wdR (src e 0 0))] [⟨3, 1, [[.i .i64 (0 + cnt e)]]⟩] :=
  ACall.frzL (Lr := [⟨3, 1, [[.i .i64 (0 + cnt e)]]⟩]) (ln_ 5 e 0 0 hf hs (by omega) (by decide) (by omega) (by decide)) (by simp) (by simp [gq_, frz, ah_, T1_])
 have hl : (src e 0 0).length ≤ 1000000 := by rw [show (src e 0 0).length = (wds e 0).length by rw [← et_ e 0 0, List.length_map]]; omega
 refine al_ (fn := Tryz.f188) [] Tryz.func188 rfl rfl (by simp) fun C => ?_
 rw [ay_]
 simp only [Tryz.ntmps188, T7_, List.length_nil, Nat.reduceAdd, Nat.reduceSub, List.replicate_succ, List.replicate_zero, List.cons_append, List.nil_append, bs_]
 refine .seq (.rgn [] (by simp only [go_sem, seval, ao_, av_, af_]; rfl) ?_ ?_)
 ·first | trivial | simp
 refine .seq (.seq (.rgn [a9_ (g6_ e hs)] (by simp only [go_sem, seval, ao_, av_, af_]; rfl) ?_ ?_))
 ·first | trivial | simp
 refine .condB (by simp only [go_sem, seval, ao_, av_, af_]; rfl) (by simp only [go_sem, seval, ao_, av_, af_]) (fun h6 => ?_) (fun h6 => ?_)
 ·simp [h] at h6
 ·refine .skip (.seq (.rgn [] (by simp only [go_sem, seval, ao_, av_, af_]; rfl) ?_ ?_))
  ·first | trivial | simp
  refine .seq (.rgn [cv_ [13] [] W, a9_ (i6_ (src e 0 0) hl)] (by simp only [go_sem, seval, ao_, av_, af_]; rfl) ?_ ?_)
  ·first | trivial | simp
  refine .ret ⟨.inr rfl, ?_⟩
  exact Out.plain (by simp only [Tryz.results188]; rfl) (by simp only [az_, bj_, go_sem, seval, ao_, av_, af_] <;> (split <;> rfl)) (by simp only [bg_, go_sem, seval, ao_, av_, af_] <;> (rw [et_, e7_ hf])) (by simp only [go_sem, seval, ao_, av_, af_])
theorem aad_ {a b : List Str} {k : Nat} (ha : k < a.length) (hb : k < b.length) (h : a.take k = b.take k) (e : a.getD k [] = b.getD k []) : a.take (k + 1) = b.take (k + 1) := by
 rw [List.take_add_one (l := a), List.take_add_one (l := b), h, T6_ ha, T6_ hb]
 rw [T8_, T8_, T6_ ha, T6_ hb] at e
 rw [show a[k] = b[k] by simpa using e]
theorem ai0_ (a b : List Str) (ha : a.length ≤ 1000000000000) (hb : b.length ≤ 1000000000000) : ACall En 187 [.sl false (b6_ a), .sl false (b6_ b)] [] [.b (a == b)] [] := by
 refine al_ (fn := Tryz.f187) [] Tryz.func187 rfl rfl (by simp) fun C => ?_
 rw [ay_]
 simp only [Tryz.ntmps187, T7_, List.length_nil, Nat.reduceAdd, Nat.reduceSub, List.replicate_succ, List.replicate_zero, List.cons_append, List.nil_append, bs_]
 refine .seq (.rgn [] (by simp only [go_sem, seval, ac_, ab_]; rfl) ?_ ?_)
 ·first | trivial | simp
 refine .seq (.seq (.rgn [] (by simp only [go_sem, seval, ac_, ab_]; rfl) ?_ ?_))
 ·first | trivial | simp
 refine .condB (by simp only [go_sem, seval, ac_, ab_]; rfl) (by simp only [go_sem, seval, ac_, ab_]) (fun h10 => ?_) (fun h10 => ?_)
 ·refine .seq (.rgn [] (by simp only [go_sem, seval, ac_, ab_]; rfl) ?_ ?_)
  ·first | trivial | simp
  refine .ret ⟨.inr rfl, ?_⟩
  exact Out.plain (by simp only [Tryz.results187]; rfl) (by simp only [az_, bj_, go_sem, seval, ac_, ab_] <;> (split <;> rfl)) (by simp only [bg_, go_sem, seval, ac_, ab_] <;> (have : a ≠ b := (fun e => by simp [e] at h10); simp [this])) (by simp only [go_sem, seval, ac_, ab_])
 ·refine .skip (.seq (.seq (.rgn [] (by simp only [go_sem, seval, ac_, ab_]; rfl) ?_ ?_)))
  ·first | trivial | simp
  refine .block (.loopK (fun k : Nat => ⟨[.sl false (b6_ a), .sl false (b6_ b), .no, .no, .no, .no, .no, .no, .no, .no, .no, .no, .i .i64 a.length, .i .i64 k, .no, .no, .no, .no, .no, .no, .no, .no, .no, .no, .no, .no], a7_ [], us []⟩) (fun k : Nat => k ≤ a.length ∧ a.take k = b.take k) (fun k : Nat => a.length - k) (0) ?_ ?_ (fun k hI => ?_))
  ·exact ⟨Nat.zero_le _, rfl⟩
  ·exact Can.weak (Weak.lit (by simp only [go_sem, seval, ac_, ab_, at_, leV, aq_, ar_, V.inn, us, T9_, Ta_] <;> (simp)) (by simp only [go_sem, seval, ac_, ab_, at_, leV, aq_, ar_, V.inn, us, T9_, Ta_]) (by simp only [go_sem, seval, ac_, ab_, at_, leV, aq_, ar_, V.inn, us, T9_, Ta_]))
  refine .seq (.rgn [] (by simp only [go_sem, seval, ac_, ab_]; rfl) ?_ ?_)
  ·first | trivial | simp
  refine .seq (.condB (by simp only [go_sem, seval, ac_, ab_]; rfl) (by simp only [go_sem, seval, ac_, ab_]) (fun h14 => ?_) (fun h14 => ?_))
  ·refine .skip (.seq (.block (.seq (.rgn [] (by simp only [go_sem, seval, ac_, ab_]; rfl) ?_ ?_))))
   ·first | trivial | simp
   refine .seq (.rgnD [] enM (by simp only [go_sem, seval, ac_, ab_, cy_ (show k < a.length by simpa using h14), cy_ (show k < b.length by simp at h14 h10; omega)]; rfl) (by rfl) ?_ ?_)
   ·simp at h14 h10; simp; omega
   refine .condB (by simp only [go_sem, seval, ac_, ab_]; rfl) (by simp only [go_sem, seval, ac_, ab_]) (fun h24 => ?_) (fun h24 => ?_)
   ·refine .seq (.rgn [] (by simp only [go_sem, seval, ac_, ab_]; rfl) ?_ ?_)
    ·first | trivial | simp
    refine .ret ⟨.inr rfl, ?_⟩
    exact Out.plain (by simp only [Tryz.results187]; rfl) (by simp only [az_, bj_, go_sem, seval, ac_, ab_] <;> (split <;> rfl)) (by simp only [bg_, go_sem, seval, ac_, ab_] <;> (have : a ≠ b := (fun e => by simp [e] at h24); simp [this])) (by simp only [go_sem, seval, ac_, ab_])
   ·refine .skip (.rgn [] (by simp only [go_sem, seval, ac_, ab_]; rfl) ?_ ?_)
    ·first | trivial | simp
    refine Exists.intro (k + 1) ⟨?_, ?_, ?_⟩
    ·simp only [T3_] at h14; simp at h10; exact ⟨by omega, aad_ (by omega) (by omega) hI.2 (by simpa using h24)⟩
    ·simp at h14; omega
    exact Can.weak (Weak.lit (by simp only [go_sem, seval, ac_, ab_, at_, leV, aq_, ar_, V.inn, us, T9_, Ta_] <;> (rw [bp_ (by simp at h14; omega) (by simp at h14; omega)]; simp)) (by simp only [go_sem, seval, ac_, ab_, at_, leV, aq_, ar_, V.inn, us, T9_, Ta_]) (by simp only [go_sem, seval, ac_, ab_, at_, leV, aq_, ar_, V.inn, us, T9_, Ta_]))
  ·refine .exit (.seq (.rgn [] (by simp only [go_sem, seval, ac_, ab_]; rfl) ?_ ?_))
   ·first | trivial | simp
   refine .ret ⟨.inr rfl, ?_⟩
   exact Out.plain (by simp only [Tryz.results187]; rfl) (by simp only [az_, bj_, go_sem, seval, ac_, ab_] <;> (split <;> rfl)) (by simp only [bg_, go_sem, seval, ac_, ab_] <;> (simp only [T4_] at h14; simp at h10; have q := hI.2; rw [T1_ (by omega), T1_ (by omega)] at q; simp [q])) (by simp only [go_sem, seval, ac_, ab_])
def kn_ (w : List Str) : Bool := (fl_ w).isSome
theorem hq_ (w : List Str) (hw : smW w) (hl : w.length ≤ 1000000) : ACall En 132 [.sl false (b6_ w)] [] [.ag (eC (ex w)), .b (kn_ w)] [] := by
 have hR : w.length ≤ 40 → ACall En 186 [.pt 0 3 0 0, .i .i64 ((1 : Nat) : Int)] [rsB ⟨w, false, 0⟩] [.ag (eC (cu_ 500 1 ⟨w, false, 0⟩).1)] [rsB (cu_ 500 1 ⟨w, false, 0⟩).2] := fun h => (ad8_ 500).1 1 ⟨w, false, 0⟩ (by decide) ⟨hw, Int.le_refl _, by dsimp only; omega⟩ (by dsimp only; omega)
 have hS := ((i_sm 500).1 1 ⟨w, false, 0⟩ hw).1
 have hE : fl_ w = if w.length ≤ 40 then (if ((cu_ 500 1 ⟨w, false, 0⟩).2.bad || !(cu_ 500 1 ⟨w, false, 0⟩).2.left.isEmpty || !eok (cu_ 500 1 ⟨w, false, 0⟩).1 || !(wds (cu_ 500 1 ⟨w, false, 0⟩).1 1 == w)) then none else some (cu_ 500 1 ⟨w, false, 0⟩).1) else none := rfl
 have hL := (zr_ 500).1 1 ⟨w, false, 0⟩
 generalize cu_ 500 1 ⟨w, false, 0⟩ = q at *
 have hq : (!q.2.left.isEmpty) = decide ((q.2.left.length : Int) > 0) := by cases q.2.left <;> simp
 rw [hq] at hE
 have n1 : decide ((w.length : Int) > 40) = true → fl_ w = none := fun h => by rw [hE, if_neg (by simp at h; omega)]
 have n2 : decide ((w.length : Int) > 40) = false → (q.2.bad || decide ((q.2.left.length : Int) > 0) || !eok q.1 || !(wds q.1 1 == w)) = true → fl_ w = none := fun h h2 => by rw [hE, if_pos (by simp at h; omega), if_pos h2]
 have n3 : decide ((w.length : Int) > 40) = false → (q.2.bad || decide ((q.2.left.length : Int) > 0) || !eok q.1 || !(wds q.1 1 == w)) = false → fl_ w = some q.1 := fun h h2 => by rw [hE, if_pos (by simp at h; omega), h2]; rfl
 refine al_ (fn := Tryz.f132) [] Tryz.func132 rfl rfl (by simp) fun C => ?_
 rw [ay_]
 simp only [Tryz.ntmps132, T7_, List.length_nil, Nat.reduceAdd, Nat.reduceSub, List.replicate_succ, List.replicate_zero, List.cons_append, List.nil_append, bs_]
 refine .seq (.rgn [] (by simp only [go_sem, seval, ao_, av_, ac_, ab_]; rfl) ?_ ?_)
 ·first | trivial | simp
 refine .seq (.seq (.rgn [] (by simp only [go_sem, seval, ao_, av_, ac_, ab_]; rfl) ?_ ?_))
 ·first | trivial | simp
 refine .condB (by simp only [go_sem, seval, ao_, av_, ac_, ab_]; rfl) (by simp only [go_sem, seval, ao_, av_, ac_, ab_]) (fun h8 => ?_) (fun h8 => ?_)
 ·refine .seq (.rgn [] (by simp only [go_sem, seval, ao_, av_, ac_, ab_]; rfl) ?_ ?_)
  ·first | trivial | simp
  refine .ret ⟨.inr rfl, ?_⟩
  exact Out.plainL (by simp only [Tryz.results132]; rfl) (by simp only [az_, bj_, go_sem, seval, ao_, av_, ac_, ab_] <;> (split <;> rfl)) (by simp only [bg_, go_sem, seval, ao_, av_, ac_, ab_] <;> (simp [ex, kn_, n1 h8, E0, E.kind, E.n, E.s, E.kids, eR, ler])) (by simp only [go_sem, seval, ao_, av_, ac_, ab_])
 ·refine .skip (.seq (.rgn [] (by simp only [go_sem, seval, ao_, av_, ac_, ab_]; rfl) ?_ ?_))
  ·first | trivial | simp
  refine .seq (.rgn [cv_ [22] [] (hR (by simp at h8; omega))] (by simp only [go_sem, seval, ao_, av_, ac_, ab_]; rfl) ?_ ?_)
  ·first | trivial | simp
  refine .seq (.seq (.rgn [a9_ (g6_ q.1 hS), cw_ (eok q.1 = true) (fun h => sx_ q.1 h hS), cw_ (eok q.1 = true) (fun h => ai0_ (wds q.1 1) w (by have := (cp_ h 1).2.1; omega) (by omega))] (by simp only [go_sem, seval, ao_, av_, ac_, ab_]; rfl) ?_ ?_))
  ·(have key : ∀ x : Bool, x = false → (!x) = true := (fun x h => by rw [h]; rfl)); exact ⟨⟨⟨⟨key _, key _⟩, fun h => ⟨h, by simp at h; exact h.2⟩⟩, fun h => ⟨h, by simp at h; exact h.2⟩⟩, key _⟩
  refine .condB (by simp only [go_sem, seval, ao_, av_, ac_, ab_]; rfl) (by simp only [go_sem, seval, ao_, av_, ac_, ab_]) (fun h38 => ?_) (fun h38 => ?_)
  ·refine .seq (.rgn [] (by simp only [go_sem, seval, ao_, av_, ac_, ab_]; rfl) ?_ ?_)
   ·first | trivial | simp
   refine .ret ⟨.inr rfl, ?_⟩
   exact Out.plainL (by simp only [Tryz.results132]; rfl) (by simp only [az_, bj_, go_sem, seval, ao_, av_, ac_, ab_] <;> (split <;> rfl)) (by simp only [bg_, go_sem, seval, ao_, av_, ac_, ab_] <;> (simp [ex, kn_, n2 h8 h38, E0, E.kind, E.n, E.s, E.kids, eR, ler])) (by simp only [go_sem, seval, ao_, av_, ac_, ab_])
  ·refine .skip (.seq (.rgn [] (by simp only [go_sem, seval, ao_, av_, ac_, ab_]; rfl) ?_ ?_))
   ·first | trivial | simp
   refine .ret ⟨.inr rfl, ?_⟩
   exact Out.plainL (by simp only [Tryz.results132]; rfl) (by simp only [az_, bj_, go_sem, seval, ao_, av_, ac_, ab_] <;> (split <;> rfl)) (by simp only [bg_, go_sem, seval, ao_, av_, ac_, ab_] <;> (simp [ex, kn_, n3 h8 h38, ap_])) (by simp only [go_sem, seval, ao_, av_, ac_, ab_])
end
end Go.Proofs.YtcigkafioinfoaaGreatDoor
