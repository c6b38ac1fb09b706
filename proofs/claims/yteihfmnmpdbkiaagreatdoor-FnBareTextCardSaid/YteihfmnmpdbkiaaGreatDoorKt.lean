/- Parts of the proof, one after another: Plain laws of the program's reader: brackets are counted, texts are not made longer. | The program's reader of what is reckoned. | The program's reader of what is reckoned, 2: what holds so tight, what is held. | The program's reader of what is reckoned, 3: what is held; all of it. | What is reckoned is read: the program's. Conditions: none. -/
import Derived.Test.YteihfmnmpdbkiaaGreatDoorKd
import Derived.Test.YteihfmnmpdbkiaaGreatDoorKb
import Derived.Test.YteihfmnmpdbkiaaGreatDoorKn
import Derived.Test.YteihfmnmpdbkiaaGreatDoorKh
import Derived.Test.YteihfmnmpdbkiaaGreatDoorKi
import Derived.Test.YteihfmnmpdbkiaaGreatDoorKj
set_option linter.unusedVariables false
set_option linter.unusedSimpArgs false
namespace Go.Proofs.YteihfmnmpdbkiaaGreatDoor
section
def Dn (s' s : RS) (k : Int) : Prop := s.deep ≤ s'.deep ∧ s'.deep + s'.left.length ≤ s.deep + s.left.length + k ∧ s'.left.length ≤ s.left.length
theorem Dn.refl (s : RS) : Dn s s 0 := ⟨Int.le_refl _, by omega, Nat.le_refl _⟩
theorem Dn.trans {a b c : RS} {k m : Int} (h : Dn a b k) (g : Dn b c m) : Dn a c (k + m) := ⟨by have := h.1; have := g.1; omega, by have := h.2.1; have := g.2.1; omega, by have := h.2.2; have := g.2.2; omega⟩
theorem Dn.le {a b : RS} {k m : Int} (h : Dn a b k) (hm : k ≤ m) : Dn a b m := ⟨h.1, by have := h.2.1; omega, h.2.2⟩
theorem Dn.next (s : RS) : Dn (rNext s) s (if s.left = [] then 0 else -1) := by
  unfold rNext Dn
  cases h : s.left with
  | nil => simp [h]
  | cons x r => simp [h]; omega
theorem Dn.nx (s : RS) : Dn (rNext s) s 0 := (Dn.next s).le (by split <;> omega)
theorem Dn.as (s : RS) (e : E) : Dn (asR s e).2 s 0 := by
  have h1 := asR_len s e
  have h2 := asR_deep s e
  exact ⟨by omega, by omega, h1⟩
theorem Dn.bad (s : RS) (b : Bool) : Dn { s with bad := b } s 0 := ⟨Int.le_refl _, by dsimp only; omega, Nat.le_refl _⟩
theorem i_deep : ∀ n : Nat, (∀ t s, Dn (iLev n t s).2 s 0) ∧ (∀ t e s, Dn (iLoop n t e s).2 s 0) ∧ (∀ s, Dn (iHeld n s).2 s 0) ∧ (∀ w s, Dn (iAtom n w s).2 s (if w = [40] then 1 else 0))
  | 0 => ⟨fun t s => by simp only [iLev]; exact Dn.refl s, fun t e s => by simp only [iLoop]; exact Dn.refl s, fun s => by simp only [iHeld]; exact Dn.refl s, fun w s => by simp only [iAtom]; exact (Dn.refl s).le (by split <;> omega)⟩
  | n + 1 => by
    obtain ⟨h1, h2, h3, h4⟩ := i_deep n
    refine ⟨fun t s => ?_, fun t e s => ?_, fun s => ?_, fun w s => ?_⟩
    · simp only [iLev]
      split
      · exact h3 s
      · exact ((h2 t _ _).trans (h1 (t + 1) s)).le (by omega)
    · simp only [iLoop]
      split
      · exact (((h2 t _ _).trans (h1 (t + 1) _)).trans (Dn.nx s)).le (by omega)
      · exact Dn.refl s
    · simp only [iHeld]
      refine (((Dn.as _ _).trans (h4 (rHead s) (rNext s))).trans (Dn.next s)).le ?_
      unfold rHead
      cases hl : s.left with
      | nil => simp
      | cons x r => simp only [reduceCtorEq, if_false]; split <;> omega
    · simp only [iAtom]
      split
      · split
        · exact ⟨by dsimp only; omega, by dsimp only; omega, Nat.le_refl _⟩
        · have hD : Dn { s with deep := s.deep + 1 } s 1 := ⟨by dsimp only; omega, by dsimp only; omega, Nat.le_refl _⟩
          dsimp only
          split
          · exact ((h1 1 _).trans hD).le (by omega)
          · have q := ((Dn.nx (iLev n 1 { s with deep := s.deep + 1 }).2).trans ((h1 1 _).trans hD)).le (m := 1) (by omega)
            exact ⟨q.1, q.2.1, q.2.2⟩
      · split
        · exact Dn.refl s
        · split
          · exact Dn.refl s
          · exact Dn.bad s true
def smW (l : List Str) : Prop := ∀ w ∈ l, w.length ≤ 281474976710656
theorem smW_next {s : RS} (h : smW s.left) : smW (rNext s).left ∧ (rHead s).length ≤ 281474976710656 := by
  unfold rNext rHead
  cases hl : s.left with
  | nil => simp [smW, hl]
  | cons x r => rw [hl] at h; exact ⟨fun w hw => h w (List.mem_cons_of_mem _ hw), h x List.mem_cons_self⟩
theorem sm_two {a b : E} {k n : Int} {s : Str} (hs : s.length < 4611686018427387904) (ha : sm a = true) (hb : sm b = true) : sm (.mk k n s [a, b]) = true := by simp [sm, sms, ha, hb, hs]
theorem sm_one {a : E} {k n : Int} {s : Str} (hs : s.length < 4611686018427387904) (ha : sm a = true) : sm (.mk k n s [a]) = true := by simp [sm, sms, ha, hs]
theorem sm_leaf {k n : Int} {s : Str} (hs : s.length < 4611686018427387904) : sm (.mk k n s []) = true := by simp [sm, sms, hs]
theorem sm_asL : ∀ (l : List Str) (e : E) (d : Int), smW l → sm e = true → sm (asL l e d).1 = true ∧ smW (asL l e d).2.left
  | [], e, d, h, he => by simp only [asL]; exact ⟨he, h⟩
  | [w], e, d, h, he => by
    simp only [asL]; split
    · exact ⟨sm_one (by simp) he, fun w hw => by cases hw⟩
    · exact ⟨he, h⟩
  | w :: t :: r, e, d, h, he => by
    simp only [asL]; split
    · exact sm_asL r _ d (fun x hx => h x (by simp [hx])) (sm_one (Nat.lt_of_le_of_lt (h t (by simp)) (by decide)) he)
    · exact ⟨he, h⟩
theorem sm_asR (s : RS) (e : E) (h : smW s.left) (he : sm e = true) : sm (asR s e).1 = true ∧ smW (asR s e).2.left := by
  unfold asR; split
  · exact ⟨he, h⟩
  · exact sm_asL _ _ _ h he
theorem i_sm : ∀ n : Nat, (∀ t s, smW s.left → sm (iLev n t s).1 = true ∧ smW (iLev n t s).2.left) ∧ (∀ t e s, sm e = true → smW s.left → sm (iLoop n t e s).1 = true ∧ smW (iLoop n t e s).2.left) ∧ (∀ s, smW s.left → sm (iHeld n s).1 = true ∧ smW (iHeld n s).2.left) ∧ (∀ w s, w.length < 4611686018427387904 → smW s.left → sm (iAtom n w s).1 = true ∧ smW (iAtom n w s).2.left)
  | 0 => ⟨fun t s h => by simp only [iLev]; exact ⟨by decide, h⟩, fun t e s he h => by simp only [iLoop]; exact ⟨he, h⟩, fun s h => by simp only [iHeld]; exact ⟨by decide, h⟩, fun w s hw h => by simp only [iAtom]; exact ⟨by decide, h⟩⟩
  | n + 1 => by
    obtain ⟨h1, h2, h3, h4⟩ := i_sm n
    refine ⟨fun t s h => ?_, fun t e s he h => ?_, fun s h => ?_, fun w s hw h => ?_⟩
    · simp only [iLev]
      split
      · exact h3 s h
      · exact h2 t _ _ (h1 (t + 1) s h).1 (h1 (t + 1) s h).2
    · simp only [iLoop]
      split
      · have q := h1 (t + 1) (rNext s) (smW_next h).1
        exact h2 t _ _ (sm_two (Nat.lt_of_le_of_lt (smW_next h).2 (by decide)) he q.1) q.2
      · exact ⟨he, h⟩
    · simp only [iHeld]
      have q := h4 (rHead s) (rNext s) (Nat.lt_of_le_of_lt (smW_next h).2 (by decide)) (smW_next h).1
      exact sm_asR _ _ q.2 q.1
    · simp only [iAtom]
      split
      · split
        · exact ⟨(show sm E0 = true by decide), h⟩
        · have q := h1 1 { s with deep := s.deep + 1 } h
          dsimp only
          refine ⟨q.1, ?_⟩
          split
          · exact q.2
          · exact (smW_next q.2).1
      · split
        · exact ⟨sm_leaf (by simp), h⟩
        · split
          · exact ⟨sm_leaf hw, h⟩
          · exact ⟨(show sm E0 = true by decide), h⟩
end

section
set_option maxRecDepth 100000
set_option maxHeartbeats 4000000

abbrev rsB (s : RS) : Blk := ⟨201, 3, [[.sl false (strR s.left), .b s.bad, .i .i64 s.deep]]⟩
theorem next_a (s : RS) (hl : s.left.length < 4611686018427387904) : ACall En 229 [.pt 0 3 0 0] [rsB s] [.s (rHead s)] [rsB (rNext s)] := by
  obtain ⟨left, bad, deep⟩ := s
  cases left with
  | nil =>
  refine acall_of_body (fn := Tryz.f229) [0] Tryz.func229 rfl rfl (by simp) fun C => ?_
  rw [entry_eq]
  simp only [Tryz.ntmps229, List.length_cons, List.length_nil, Nat.reduceAdd, Nat.reduceSub, List.replicate_succ, List.replicate_zero, List.cons_append, List.nil_append, numL]
  refine AWp.seq ?_
  refine AWp.rgn [] (by simp only [go_sem, seval, strR_nil, strR_cons]; rfl) ?_ ?_
  · (first | trivial | (simp; done))
  refine AWp.seq ?_
  refine AWp.seq ?_
  refine AWp.rgn [] (by simp only [go_sem, seval, strR_nil, strR_cons]; rfl) ?_ ?_
  · (first | trivial | (simp; done))
  refine AWp.condB (by simp only [go_sem, seval, strR_nil, strR_cons]; rfl) (by simp only [go_sem, seval, strR_nil, strR_cons]) (fun h9 => ?_) (fun h9 => ?_)
  · refine AWp.seq ?_
    refine AWp.rgn [] (by simp only [go_sem, seval, strR_nil, strR_cons]; rfl) ?_ ?_
    · (first | trivial | (simp; done))
    refine AWp.seq ?_
    refine AWp.rgn [] (by simp only [go_sem, seval, strR_nil, strR_cons]; rfl) ?_ ?_
    · (first | trivial | (simp; done))
    refine AWp.ret (And.intro (.inr rfl) ?_)
    exact Out.mem' (by simp only [Tryz.results229]; rfl) (by simp only [resCs, resC, go_sem, seval, strR_nil, strR_cons]) (by simp only [resV, rns, rn, go_sem, seval, strR_nil, strR_cons] <;> (rfl)) (by simp) rfl (by decide) (by simp only [go_sem, seval, strR_nil, strR_cons]) (by simp only [clrs, go_sem, seval, strR_nil, strR_cons]) (by simp only [memEq, go_sem, seval, strR_nil, strR_cons] <;> (simp [rNext, strR_nil]))
  · exact absurd h9 (by simp)
  | cons x r =>
  refine acall_of_body (fn := Tryz.f229) [0] Tryz.func229 rfl rfl (by simp) fun C => ?_
  rw [entry_eq]
  simp only [Tryz.ntmps229, List.length_cons, List.length_nil, Nat.reduceAdd, Nat.reduceSub, List.replicate_succ, List.replicate_zero, List.cons_append, List.nil_append, numL]
  refine AWp.seq ?_
  refine AWp.rgn [] (by simp only [go_sem, seval, strR_nil, strR_cons]; rfl) ?_ ?_
  · (first | trivial | (simp; done))
  refine AWp.seq ?_
  refine AWp.seq ?_
  refine AWp.rgn [] (by simp only [go_sem, seval, strR_nil, strR_cons]; rfl) ?_ ?_
  · (first | trivial | (simp; done))
  refine AWp.condB (by simp only [go_sem, seval, strR_nil, strR_cons]; rfl) (by simp only [go_sem, seval, strR_nil, strR_cons]) (fun h9 => ?_) (fun h9 => ?_)
  · simp at h9; omega
  · refine AWp.skip ?_
    refine AWp.seq ?_
    refine AWp.rgn [] (by simp only [go_sem, seval, strR_nil, strR_cons]; rfl) ?_ ?_
    · (first | trivial | (simp; done))
    refine AWp.seq ?_
    refine AWp.rgn [] (by simp only [go_sem, seval, strR_nil, strR_cons]; rfl) ?_ ?_
    · refine ⟨⟨by omega, by omega⟩, .inr fun q hq => ?_⟩; rcases List.mem_cons.1 hq with rfl | hq; rfl; exact strR_one hq
    refine AWp.seq ?_
    refine AWp.rgn [] (by simp only [go_sem, seval, strR_nil, strR_cons]; rfl) ?_ ?_
    · (first | trivial | (simp; done))
    refine AWp.ret (And.intro (.inr rfl) ?_)
    exact Out.mem' (by simp only [Tryz.results229]; rfl) (by simp only [resCs, resC, go_sem, seval, strR_nil, strR_cons]) (by simp only [resV, rns, rn, go_sem, seval, strR_nil, strR_cons] <;> (rfl)) (by simp) rfl (by decide) (by simp only [go_sem, seval, strR_nil, strR_cons]) (by simp only [clrs, go_sem, seval, strR_nil, strR_cons]) (by simp only [memEq, go_sem, seval, strR_nil, strR_cons] <;> (simp [rNext, List.take_of_length_le, strR_len]))
theorem at_a (s : RS) (hl : s.left.length < 4611686018427387904) : ACall En 243 [.pt 0 3 0 0, .sl false [[.s [97, 115]]]] [rsB s] [.b (!s.bad && (!s.left.isEmpty && rHead s == wAs))] [rsB s] := by
  obtain ⟨left, bad, deep⟩ := s
  cases left with
  | nil =>
  refine acall_of_body (fn := Tryz.f243) [0] Tryz.func243 rfl rfl (by simp) fun C => ?_
  rw [entry_eq]
  simp only [Tryz.ntmps243, List.length_cons, List.length_nil, Nat.reduceAdd, Nat.reduceSub, List.replicate_succ, List.replicate_zero, List.cons_append, List.nil_append, numL]
  refine AWp.seq ?_
  refine AWp.rgn [] (by simp only [go_sem, seval, asO, strR_nil, strR_cons, wAs]; rfl) ?_ ?_
  · (first | trivial | (simp; done))
  refine AWp.seq ?_
  refine AWp.rgnS [25] [asO En { v := .s [] }, call0 (Contains_a [wAs] [] (by decide))] (by simp only [go_sem, seval, asO, strR_nil, strR_cons, wAs]; rfl) ?_ ?_
  · (first | trivial | (simp; done))
  refine AWp.ret (And.intro (.inr rfl) ?_)
  exact Out.mem' (by simp only [Tryz.results243]; rfl) (by simp only [resCs, resC, go_sem, seval, asO, strR_nil, strR_cons, wAs]) (by simp only [resV, rns, rn, go_sem, seval, asO, strR_nil, strR_cons, wAs] <;> (simp)) (by simp) rfl (by decide) (by simp only [go_sem, seval, asO, strR_nil, strR_cons, wAs]) (by simp only [clrs, go_sem, seval, asO, strR_nil, strR_cons, wAs]) (by simp only [memEq, go_sem, seval, asO, strR_nil, strR_cons, wAs] <;> (simp [strR_nil]))
  | cons x r =>
  refine acall_of_body (fn := Tryz.f243) [0] Tryz.func243 rfl rfl (by simp) fun C => ?_
  rw [entry_eq]
  simp only [Tryz.ntmps243, List.length_cons, List.length_nil, Nat.reduceAdd, Nat.reduceSub, List.replicate_succ, List.replicate_zero, List.cons_append, List.nil_append, numL]
  refine AWp.seq ?_
  refine AWp.rgn [] (by simp only [go_sem, seval, strR_nil, strR_cons, wAs]; rfl) ?_ ?_
  · (first | trivial | (simp; done))
  refine AWp.seq ?_
  refine AWp.rgn [call0 (Contains_a [wAs] x (by decide))] (by simp only [go_sem, seval, strR_nil, strR_cons, wAs]; rfl) ?_ ?_
  · (first | trivial | (simp; done))
  refine AWp.ret (And.intro (.inr rfl) ?_)
  exact Out.mem' (by simp only [Tryz.results243]; rfl) (by simp only [resCs, resC, go_sem, seval, strR_nil, strR_cons, wAs]) (by simp only [resV, rns, rn, go_sem, seval, strR_nil, strR_cons, wAs] <;> (simp [rHead, wAs])) (by simp) rfl (by decide) (by simp only [go_sem, seval, strR_nil, strR_cons, wAs]) (by simp only [clrs, go_sem, seval, strR_nil, strR_cons, wAs]) (by simp only [memEq, go_sem, seval, strR_nil, strR_cons, wAs] <;> (simp [strR_cons]))
end

section
set_option maxRecDepth 100000
set_option maxHeartbeats 8000000

def okS2 (s : RS) : Prop := smW s.left ∧ 0 ≤ s.deep ∧ s.deep + s.left.length ≤ 1000000
theorem okS2.of {s s' : RS} (h : okS2 s) (d : Dn s' s 0) (w : smW s'.left) : okS2 s' := ⟨w, by have := d.1; have := h.2.1; omega, by have := d.2.1; have := h.2.2; omega⟩
def LevOk (n : Nat) : Prop := ∀ (t : Nat) (s : RS), t ≤ 4 → okS2 s → 10 * s.left.length + 10 - t ≤ n → ACall En 204 [.pt 0 3 0 0, .i .i64 t] [rsB s] [.ag (eC (iLev n t s).1)] [rsB (iLev n t s).2]
def HeldOk (n : Nat) : Prop := ∀ (s : RS), okS2 s → 10 * s.left.length + 5 ≤ n → ACall En 228 [.pt 0 3 0 0] [rsB s] [.ag (eC (iHeld n s).1)] [rsB (iHeld n s).2]
theorem ok_next {s : RS} (h : okS2 s) : okS2 (rNext s) := h.of (Dn.nx s) (smW_next h.1).1
theorem ok_lev {s : RS} (h : okS2 s) (n t : Nat) : okS2 (iLev n t s).2 := h.of ((i_deep n).1 t s) ((i_sm n).1 t s h.1).2
theorem next_len {s : RS} (h : s.left ≠ []) : (rNext s).left.length + 1 = s.left.length := by
  unfold rNext
  cases hl : s.left with
  | nil => exact absurd hl h
  | cons x r => rfl
theorem head_get {s : RS} (h : s.left ≠ []) : (strR s.left).getD 0 [] = [.s (rHead s)] := by
  unfold rHead
  cases hl : s.left with
  | nil => exact absurd hl h
  | cons x r => rfl
theorem iLoop_go {j t : Nat} {e : E} {s : RS} (h : ((!s.bad && decide ((s.left.length : Int) > 0)) && tight (rHead s) == (t : Int)) = true) : iLoop (j + 1) t e s = iLoop j t (.mk 3 0 (rHead s) [e, (iLev j (t + 1) (rNext s)).1]) (iLev j (t + 1) (rNext s)).2 ∧ s.left ≠ [] := by
  simp only [Bool.and_eq_true, Bool.not_eq_true', decide_eq_true_eq, beq_iff_eq] at h
  have hne : s.left ≠ [] := by intro e; rw [e] at h; simp at h
  simp only [iLoop]
  rw [if_pos ⟨h.1.1, hne, h.2⟩]
  exact ⟨rfl, hne⟩
theorem iLoop_no {j t : Nat} {e : E} {s : RS} (h : ((!s.bad && decide ((s.left.length : Int) > 0)) && tight (rHead s) == (t : Int)) = false) : iLoop (j + 1) t e s = (e, s) := by
  simp only [iLoop]
  rw [if_neg]
  rintro ⟨a, b, c⟩
  rw [a, c] at h
  cases hl : s.left with
  | nil => exact b hl
  | cons x r => rw [hl] at h; simp at h
theorem ne_of {s : RS} (h : (!s.bad && decide ((s.left.length : Int) > 0)) = true) : s.left ≠ [] := by intro e; rw [e] at h; simp at h
theorem pos_of {s : RS} (h : (!s.bad && decide ((s.left.length : Int) > 0)) = true) : (0 : Int) < s.left.length := by simp at h; omega
theorem head_len {s : RS} (h : s.left ≠ []) : ((strR s.left).getD 0 []).length = 1 := by rw [head_get h]; rfl
theorem head_v {s : RS} (h : s.left ≠ []) : ((strR s.left).getD 0 []).getD 0 .no = .s (rHead s) := by rw [head_get h]; rfl
def LI (n t : Nat) (s : RS) (q : Nat × E × RS) : Prop := okS2 q.2.2 ∧ 10 * q.2.2.left.length + 1 ≤ q.1 ∧ q.1 ≤ n ∧ iLoop n t (iLev n (t + 1) s).1 (iLev n (t + 1) s).2 = iLoop q.1 t q.2.1 q.2.2
def LN (t : Nat) (q : Nat × E × RS) : Nat × E × RS := (q.1 - 1, .mk 3 0 (rHead q.2.2) [q.2.1, (iLev (q.1 - 1) (t + 1) (rNext q.2.2)).1], (iLev (q.1 - 1) (t + 1) (rNext q.2.2)).2)
theorem lev_end {n t : Nat} {s : RS} {q : Nat × E × RS} (h8 : ((t : Int) == 4) = false) (hI : LI n t s q) (h : ((!q.2.2.bad && decide ((q.2.2.left.length : Int) > 0)) && tight (rHead q.2.2) == (t : Int)) = false) : iLev (n + 1) t s = q.2 := by
  obtain ⟨j, e, s'⟩ := q
  obtain ⟨h1, h2, h3, h4⟩ := hI
  dsimp only at h1 h2 h3 h4 h ⊢
  obtain ⟨i, rfl⟩ : ∃ i, j = i + 1 := ⟨j - 1, by omega⟩
  rw [iLev_lo (by simp at h8; omega), h4, iLoop_no h]
theorem lev_next {n t : Nat} {s : RS} {q : Nat × E × RS} (hI : LI n t s q) (h : ((!q.2.2.bad && decide ((q.2.2.left.length : Int) > 0)) && tight (rHead q.2.2) == (t : Int)) = true) : LI n t s (LN t q) ∧ (LN t q).2.2.left.length < q.2.2.left.length := by
  obtain ⟨j, e, s'⟩ := q
  obtain ⟨h1, h2, h3, h4⟩ := hI
  unfold LI LN
  dsimp only at h1 h2 h3 h4 h ⊢
  obtain ⟨i, rfl⟩ : ∃ i, j = i + 1 := ⟨j - 1, by omega⟩
  obtain ⟨g1, g2⟩ := iLoop_go (j := i) (e := e) h
  have q1 := next_len g2
  have q2 := (i_len i).1 (t + 1) (rNext s')
  simp only [Nat.add_sub_cancel]
  exact ⟨⟨ok_lev (ok_next h1) _ _, by omega, by omega, by rw [h4, g1]⟩, by omega⟩
theorem level_step (n : Nat) (ihL : ∀ j, j < n + 1 → LevOk j) (ihH : ∀ j, j < n + 1 → HeldOk j) : LevOk (n + 1) := fun t s ht hs hn => by
  obtain ⟨s1, s2, s3⟩ := hs
  have hlen : s.left.length < 4611686018427387904 := by omega
  have L1 : t < 4 → okS2 (iLev n (t + 1) s).2 ∧ (iLev n (t + 1) s).2.left.length ≤ s.left.length := fun _ => ⟨ok_lev ⟨s1, s2, s3⟩ n (t + 1), (i_len n).1 (t + 1) s⟩
  have LJ : ∀ q : Nat × E × RS, okS2 q.2.2 → 10 * q.2.2.left.length + 1 ≤ q.1 → q.1 ≤ n → q.2.2.left ≠ [] → t < 4 → ACall En 204 [.pt 0 3 0 0, .i .i64 ((t + 1 : Nat) : Int)] [rsB (rNext q.2.2)] [.ag (eC (iLev (q.1 - 1) (t + 1) (rNext q.2.2)).1)] [rsB (iLev (q.1 - 1) (t + 1) (rNext q.2.2)).2] := fun q h1 h2 h3 h4 h5 => by
    have := next_len h4
    exact ihL (q.1 - 1) (by omega) (t + 1) (rNext q.2.2) (by omega) (ok_next h1) (by omega)
  have hw : IntKind.i64.wrap ((t : Int) + 1) = ((t + 1 : Nat) : Int) := by rw [wrap64 (by omega) (by omega)]; rfl
  refine acall_of_body (fn := Tryz.f204) [0] Tryz.func204 rfl rfl (by simp) fun C => ?_
  rw [entry_eq]
  simp only [Tryz.ntmps204, List.length_cons, List.length_nil, Nat.reduceAdd, Nat.reduceSub, List.replicate_succ, List.replicate_zero, List.cons_append, List.nil_append, numL]
  refine AWp.seq ?_
  refine AWp.rgn [] (by simp only [go_sem, seval, asO, memEq, clrs, hw, strR_len]; rfl) ?_ ?_
  · (first | trivial | (simp; done))
  refine AWp.seq ?_
  refine AWp.seq ?_
  refine AWp.rgn [] (by simp only [go_sem, seval, asO, memEq, clrs, hw, strR_len]; rfl) ?_ ?_
  · (first | trivial | (simp; done))
  refine AWp.condB (by simp only [go_sem, seval, asO, memEq, clrs, hw, strR_len]; rfl) (by simp only [go_sem, seval, asO, memEq, clrs, hw, strR_len]) (fun h8 => ?_) (fun h8 => ?_)
  · refine AWp.seq ?_
    refine AWp.rgn [callN [0] [] (ihH n (by omega) s ⟨s1, s2, s3⟩ (by simp at h8; omega))] (by simp only [go_sem, seval, asO, memEq, clrs, hw, strR_len]; rfl) ?_ ?_
    · (first | trivial | (simp; done))
    refine AWp.ret (And.intro (.inr rfl) ?_)
    exact Out.mem' (by simp only [Tryz.results204]; rfl) (by simp only [resCs, resC, go_sem, seval, asO, memEq, clrs, hw, strR_len]) (by simp only [resV, rns, rn, go_sem, seval, asO, memEq, clrs, hw, strR_len] <;> ((obtain rfl : t = 4 := (by simp at h8; omega)); simp [iLev_hi])) (by simp) rfl (by decide) (by simp only [go_sem, seval, asO, memEq, clrs, hw, strR_len]) (by simp only [clrs, go_sem, seval, asO, memEq, clrs, hw, strR_len]) (by simp only [memEq, go_sem, seval, asO, memEq, clrs, hw, strR_len] <;> ((obtain rfl : t = 4 := (by simp at h8; omega)); simp [iLev_hi]))
  · refine AWp.skip ?_
    refine AWp.seq ?_
    refine AWp.rgn [callN [0] [] (ihL n (by omega) (t + 1) s (by simp at h8; omega) ⟨s1, s2, s3⟩ (by simp at h8; omega))] (by simp only [go_sem, seval, asO, memEq, clrs, hw, strR_len]; rfl) ?_ ?_
    · (first | trivial | (simp; done))
    refine AWp.seq ?_
    refine AWp.block ?_
    refine AWp.loopK (fun q : Nat × E × RS => ⟨[.pt 0 3 0 0, .i .i64 t, .no, .no, .pt 14 4 0 0, .pt 15 4 0 0, .no, .no, .no, .no, .no, .no, .no, .no, .no, .no, .no, .no, .no, .no, .no, .no, .no, .no, .no, .no, .no, .no, .no, .no, .no, .no, .no, .no, .no, .no, .no, .no, .no, .no, .no, .no, .no, .no, .no, .no, .no, .no, .no, .no], memOf [(0, rsB q.2.2), (14, ⟨30, 4, [[.i .i64 0, .i .i64 0, .s [], .sl true []]]⟩), (15, ⟨30, 4, [eC q.2.1]⟩)], us [14, 15]⟩) (fun q : Nat × E × RS => LI n t s q) (fun q : Nat × E × RS => q.2.2.left.length) ((n, (iLev n (t + 1) s).1, (iLev n (t + 1) s).2)) ?_ ?_ (fun q hI => ?_)
    · exact ⟨(L1 (by simp at h8; omega)).1, by have := (L1 (by simp at h8; omega)).2; dsimp only; simp at h8; omega, Nat.le_refl _, rfl⟩
    · exact Can.weak (Weak.lit (by simp only [go_sem, seval, asO, memEq, clrs, hw, strR_len, subM, leV, inns, innr, V.inn, us, true_or, or_true]) (by simp only [go_sem, seval, asO, memEq, clrs, hw, strR_len, subM, leV, inns, innr, V.inn, us, true_or, or_true]) (by simp only [go_sem, seval, asO, memEq, clrs, hw, strR_len, subM, leV, inns, innr, V.inn, us, true_or, or_true]))
    refine AWp.seq ?_
    refine AWp.seq ?_
    refine AWp.rgnS [34] [asO En { v := .s (rHead q.2.2) }, call0 (tightness_a (rHead q.2.2))] (by simp only [go_sem, seval, asO, memEq, clrs, hw, strR_len]; rfl) ?_ ?_
    · exact ⟨fun h => ⟨h, pos_of h, head_len (ne_of h)⟩, fun h => ⟨⟨h, by rw [head_len (ne_of h)]; exact Nat.le_refl _⟩, by rw [head_v (ne_of h)]⟩⟩
    refine AWp.condB (by simp only [go_sem, seval, asO, memEq, clrs, hw, strR_len]; rfl) (by simp only [go_sem, seval, asO, memEq, clrs, hw, strR_len]) (fun h38 => ?_) (fun h38 => ?_)
    · refine AWp.skip ?_
      refine AWp.block ?_
      refine AWp.seq ?_
      refine AWp.rgn [callN [0] [] (next_a q.2.2 (by have := hI.1.2; omega))] (by simp only [go_sem, seval, asO, memEq, clrs, hw, strR_len]; rfl) ?_ ?_
      · (first | trivial | (simp; done))
      refine AWp.rgnD [callN [0] [] (LJ q hI.1 hI.2.1 hI.2.2.1 (by simp at h38; intro e; simp [e] at h38) (by simp at h8; omega))] enM (by simp only [go_sem, seval, asO, memEq, clrs, hw, strR_len]; rfl) (by rfl) ?_ ?_
      · (first | trivial | (simp; done))
      refine Exists.intro (LN t q) ⟨?_, ?_, ?_⟩
      · exact (lev_next hI h38).1
      · exact (lev_next hI h38).2
      refine Can.trans (Can.leAt 15 ([[.i .i64 3, .i .i64 0, .s (rHead q.2.2), .sl false [eC q.2.1, eC (iLev (q.1 - 1) (t + 1) (rNext q.2.2)).1]]]) (by simp only [go_sem, seval, asO, memEq, clrs, hw, strR_len] <;> rfl) (by simp only [go_sem, seval, asO, memEq, clrs, hw, strR_len, ler, les, leV] <;> (first | trivial | simp)) (by simp only [go_sem, seval, asO, memEq, clrs, hw, strR_len] <;> rfl)) ?_
      exact Can.weak (Weak.lit (by simp only [go_sem, seval, asO, memEq, clrs, hw, strR_len, subM, leV, inns, innr, V.inn, us, true_or, or_true]) (by simp only [go_sem, seval, asO, memEq, clrs, hw, strR_len, subM, leV, inns, innr, V.inn, us, true_or, or_true]) (by simp only [go_sem, seval, asO, memEq, clrs, hw, strR_len, subM, leV, inns, innr, V.inn, us, true_or, or_true] <;> (simp [LN, E.kind, E.n, E.s, E.kids, eR, eC_eq])))
    · refine AWp.exit ?_
      refine AWp.seq ?_
      refine AWp.rgn [] (by simp only [go_sem, seval, asO, memEq, clrs, hw, strR_len]; rfl) ?_ ?_
      · (first | trivial | (simp; done))
      refine AWp.ret (And.intro (.inr rfl) ?_)
      exact Out.mem' (by simp only [Tryz.results204]; rfl) (by simp only [resCs, resC, go_sem, seval, asO, memEq, clrs, hw, strR_len]) (by simp only [resV, rns, rn, go_sem, seval, asO, memEq, clrs, hw, strR_len] <;> (rw [lev_end h8 hI h38])) (by simp) rfl (by decide) (by simp only [go_sem, seval, asO, memEq, clrs, hw, strR_len]) (by simp only [clrs, go_sem, seval, asO, memEq, clrs, hw, strR_len]) (by simp only [memEq, go_sem, seval, asO, memEq, clrs, hw, strR_len] <;> (rw [lev_end h8 hI h38]; (try simp)))
end

section
set_option maxRecDepth 100000
set_option maxHeartbeats 8000000

theorem asR_go {s : RS} {e : E} (h : (!s.bad && (!s.left.isEmpty && rHead s == wAs)) = true) : asR s e = asR (rNext (rNext s)) (.mk 4 0 (rHead (rNext s)) [e]) ∧ s.left ≠ [] := by
  obtain ⟨left, bad, deep⟩ := s
  cases left with
  | nil => simp at h
  | cons x r =>
    simp only [Bool.and_eq_true, Bool.not_eq_true', beq_iff_eq, rHead] at h
    obtain ⟨rfl, _, rfl⟩ := h
    refine ⟨?_, by simp⟩
    cases r with
    | nil => simp [asR, asL, rNext, rHead]
    | cons t r => simp [asR, asL, rNext, rHead]
theorem asR_no {s : RS} {e : E} (h : (!s.bad && (!s.left.isEmpty && rHead s == wAs)) = false) : asR s e = (e, s) := by
  obtain ⟨left, bad, deep⟩ := s
  cases bad with
  | true => simp [asR]
  | false =>
    match left with
    | [] => simp [asR, asL]
    | [x] => simp [rHead] at h; simp [asR, asL, h]
    | x :: t :: r => simp [rHead] at h; simp [asR, asL, h]
def HS (s : RS) : RS := ⟨(rNext s).left, (rNext s).bad || decide ((rNext s).deep + 1 > 40), (rNext s).deep + 1⟩
def HP (m : Nat) (s : RS) : E × RS := if (HS s).bad then (E0, HS s) else iLev m 1 (HS s)
def HQ (q : E × RS) : E × RS := (q.1, if q.2.bad then q.2 else { rNext q.2 with bad := !(rHead q.2 == [41]) })
theorem HP_go {m : Nat} {s : RS} (h : (!((rNext s).bad || decide ((rNext s).deep + 1 > 40))) = true) : HP m s = iLev m 1 (HS s) := by
  unfold HP
  have : (HS s).bad = false := by simpa [HS] using h
  rw [this]; rfl
theorem HP_no {m : Nat} {s : RS} (h : (!((rNext s).bad || decide ((rNext s).deep + 1 > 40))) = false) : HP m s = (E0, HS s) := by
  unfold HP
  have : (HS s).bad = true := by simp only [Bool.not_eq_false'] at h; exact h
  rw [this]; rfl
theorem atom_brk {m : Nat} {s : RS} : iAtom (m + 1) [40] (rNext s) = HQ (HP m s) := by
  simp only [iAtom, if_true]
  by_cases h : (rNext s).bad = true ∨ 40 < (rNext s).deep + 1
  · rw [if_pos h]
    have hx : ((rNext s).bad || decide ((rNext s).deep + 1 > 40)) = true := by simpa using h
    rw [HP_no (by rw [hx]; rfl)]
    simp only [HQ, HS, hx, if_true]
  · rw [if_neg h]
    have hx : ((rNext s).bad || decide ((rNext s).deep + 1 > 40)) = false := by simp at h ⊢; exact ⟨h.1, by omega⟩
    have hb : (rNext s).bad = false := by simp at h; exact h.1
    have e : HS s = { rNext s with deep := (rNext s).deep + 1 } := by unfold HS; rw [hx, ← hb]
    rw [HP_go (by rw [hx]; rfl), e]; rfl
theorem iAtom_bad {n : Nat} {w : Str} {s : RS} (h : w ≠ [40]) (h1 : numOk w = false) (h2 : isNm w = false) : iAtom (n + 1) w s = (E0, { s with bad := true }) := by simp [iAtom, h, h1, h2]
theorem okS2_bad {s : RS} (h : okS2 s) (b : Bool) : okS2 { s with bad := b } := h
theorem okS2_HS {s : RS} (h : okS2 s) (hn : s.left ≠ []) : okS2 (HS s) := by
  have := next_len hn
  have h1 := ok_next h
  exact ⟨h1.1, by have := h1.2.1; simp only [HS]; omega, by have := rNext_deep s; have := h.2.2; simp only [HS]; omega⟩
theorem okS2_HP {s : RS} (h : okS2 s) (hn : s.left ≠ []) (m : Nat) : okS2 (HP m s).2 := by
  unfold HP; split
  · exact okS2_HS h hn
  · exact ok_lev (okS2_HS h hn) m 1
theorem okS2_HQ {q : E × RS} (h : okS2 q.2) : okS2 (HQ q).2 := by
  unfold HQ; dsimp only; split
  · exact h
  · exact okS2_bad (ok_next h) _
theorem head_ne {s : RS} (h : rHead s ≠ []) : s.left ≠ [] := by unfold rHead at h; intro e; rw [e] at h; exact h rfl
theorem held_eq {n : Nat} {s : RS} {q : E × RS} (h : iAtom n (rHead s) (rNext s) = q) : iHeld (n + 1) s = asR q.2 q.1 := by simp only [iHeld, h]
theorem numV_pc (s : Str) : peelC (numV s) = true := by unfold numV; split <;> rfl
theorem held_step (m : Nat) (ihL : ∀ j, j < m + 2 → LevOk j) : HeldOk (m + 2) := fun s hs hn => by
  have h1 := ok_next hs
  have hd := rNext_deep s
  have hl1 := rNext_len s
  have hb := hs.2.2
  have hb0 := hs.2.1
  have hH := (smW_next hs.1).2
  have hw : IntKind.i64.wrap ((rNext s).deep + 1) = (rNext s).deep + 1 := wrap64 (by omega) (by omega)
  have hnv : numOk (rHead s) = true → numV (rHead s) = .i .i64 (numVal (rHead s)) := fun h => by simp [numV, h]
  have LB : s.left ≠ [] → ACall En 204 [.pt 0 3 0 0, .i .i64 ((1 : Nat) : Int)] [rsB (HS s)] [.ag (eC (iLev m 1 (HS s)).1)] [rsB (iLev m 1 (HS s)).2] := fun h => ihL m (by omega) 1 (HS s) (by omega) (okS2_HS hs h) (by have := next_len h; show 10 * (rNext s).left.length + 10 - 1 ≤ m; omega)
  refine acall_of_body (fn := Tryz.f228) [0] Tryz.func228 rfl rfl (by simp) fun C => ?_
  rw [entry_eq]
  simp only [Tryz.ntmps228, List.length_cons, List.length_nil, Nat.reduceAdd, Nat.reduceSub, List.replicate_succ, List.replicate_zero, List.cons_append, List.nil_append, numL]
  refine AWp.seq ?_
  refine AWp.rgn [] (by simp only [go_sem, seval, memEq, clrs, hw]; rfl) ?_ ?_
  · (first | trivial | (simp; done))
  refine AWp.seq ?_
  refine AWp.rgn [] (by simp only [go_sem, seval, memEq, clrs, hw]; rfl) ?_ ?_
  · (first | trivial | (simp; done))
  refine AWp.seq ?_
  refine AWp.rgn [callN [0] [] (next_a s (by omega))] (by simp only [go_sem, seval, memEq, clrs, hw]; rfl) ?_ ?_
  · (first | trivial | (simp; done))
  refine AWp.seq ?_
  refine AWp.rgn [call0 (number_a (rHead s) hH)] (by simp only [go_sem, seval, memEq, clrs, hw]; rfl) ?_ ?_
  · exact ⟨numV_pure _, numV_pc _⟩
  refine AWp.seqJ (fun q2 : E × RS => ⟨[.pt 0 3 0 0, .no, .pt 12 4 0 0, .pt 13 4 0 0, .no, .no, .no, .no, .no, .no, .no, .no, .no, .no, .no, .no, .no, .no, .no, .no, .no, .no, .no, .no, .no, .no, .no, .no, .no, .no, .no, .no, .no, .no, .no, .no, .no, .no, .no, .no, .no, .no, .no, .no, .no, .no, .no, .no, .no, .no, .no, .no, .no, .no, .no, .no, .no, .no, .no, .no, .no, .no, .no, .no, .no, .no, .no, .no, .no, .no, .no, .no, .no, .no, .no, .no, .no, .no, .no, .no], memOf [(0, rsB q2.2), (12, ⟨30, 4, [[.i .i64 0, .i .i64 0, .s [], .sl true []]]⟩), (13, ⟨30, 4, [eC q2.1]⟩)], us [12, 13]⟩) (fun q2 : E × RS => iHeld (m + 2) s = asR q2.2 q2.1 ∧ okS2 q2.2) ?_ (fun q2 hJ => ?_)
  · refine AWp.block ?_
    refine AWp.seq ?_
    refine AWp.rgn [] (by simp only [go_sem, seval, memEq, clrs, hw]; rfl) ?_ ?_
    · (first | trivial | (simp; done))
    refine AWp.condB (by simp only [go_sem, seval, memEq, clrs, hw]; rfl) (by simp only [go_sem, seval, memEq, clrs, hw]) (fun h17 => ?_) (fun h17 => ?_)
    · refine AWp.seq ?_
      refine AWp.rgn [] (by simp only [go_sem, seval, memEq, clrs, hw]; rfl) ?_ ?_
      · (first | trivial | (simp; done))
      refine AWp.seq ?_
      refine AWp.rgn [] (by simp only [go_sem, seval, memEq, clrs, hw]; rfl) ?_ ?_
      · (first | trivial | (simp; done))
      refine AWp.seqJ (fun q : E × RS => ⟨[.pt 0 3 0 0, .no, .pt 12 4 0 0, .pt 13 4 0 0, .no, .no, .no, .no, .no, .no, .no, .no, .no, .no, .no, .no, .no, .no, .no, .no, .no, .no, .no, .no, .no, .no, .no, .no, .no, .no, .no, .no, .no, .no, .no, .no, .no, .no, .no, .no, .no, .no, .no, .no, .no, .no, .no, .no, .no, .no, .no, .no, .no, .no, .no, .no, .no, .no, .no, .no, .no, .no, .no, .no, .no, .no, .no, .no, .no, .no, .no, .no, .no, .no, .no, .no, .no, .no, .no, .no], memOf [(0, rsB q.2), (12, ⟨30, 4, [[.i .i64 0, .i .i64 0, .s [], .sl true []]]⟩), (13, ⟨30, 4, [eC q.1]⟩)], us [12, 13]⟩) (fun q : E × RS => q = HP m s ∧ okS2 q.2) ?_ (fun q hJ => ?_)
      · refine AWp.seq ?_
        refine AWp.rgn [] (by simp only [go_sem, seval, memEq, clrs, hw]; rfl) ?_ ?_
        · (first | trivial | (simp; done))
        refine AWp.condB (by simp only [go_sem, seval, memEq, clrs, hw]; rfl) (by simp only [go_sem, seval, memEq, clrs, hw]) (fun h45 => ?_) (fun h45 => ?_)
        · refine AWp.rgn [callN [0] [] (LB (head_ne (by simp at h17; rw [h17]; simp)))] (by simp only [go_sem, seval, memEq, clrs, hw]; rfl) ?_ ?_
          · (first | trivial | (simp; done))
          refine Exists.intro (HP m s) ⟨?_, ?_⟩
          · exact ⟨rfl, okS2_HP hs (head_ne (by simp at h17; rw [h17]; simp)) m⟩
          exact Can.weak (Weak.lit (by simp only [go_sem, seval, memEq, clrs, hw, subM, leV, inns, innr, V.inn, us, true_or, or_true]) (by simp only [go_sem, seval, memEq, clrs, hw, subM, leV, inns, innr, V.inn, us, true_or, or_true]) (by simp only [go_sem, seval, memEq, clrs, hw, subM, leV, inns, innr, V.inn, us, true_or, or_true] <;> (first | (rw [HP_go h45]; simp; done) | (rw [HP_no h45]; simp [HS, E0, E.kind, E.n, E.s, E.kids, eR]; done))))
        · refine AWp.skip ?_
          refine Exists.intro (HP m s) ⟨?_, ?_⟩
          · exact ⟨rfl, okS2_HP hs (head_ne (by simp at h17; rw [h17]; simp)) m⟩
          refine Can.trans (Can.leAt 13 ([[.i .i64 0, .i .i64 0, .s [], .sl false []]]) (by simp only [go_sem, seval, memEq, clrs, hw] <;> rfl) (by simp only [go_sem, seval, memEq, clrs, hw, ler, les, leV] <;> (first | trivial | simp)) (by simp only [go_sem, seval, memEq, clrs, hw] <;> rfl)) ?_
          exact Can.weak (Weak.lit (by simp only [go_sem, seval, memEq, clrs, hw, subM, leV, inns, innr, V.inn, us, true_or, or_true]) (by simp only [go_sem, seval, memEq, clrs, hw, subM, leV, inns, innr, V.inn, us, true_or, or_true]) (by simp only [go_sem, seval, memEq, clrs, hw, subM, leV, inns, innr, V.inn, us, true_or, or_true] <;> (first | (rw [HP_go h45]; simp; done) | (rw [HP_no h45]; simp [HS, E0, E.kind, E.n, E.s, E.kids, eR]; done))))
      cases hb : q.2.bad
      · refine AWp.rgn [callN [0] [] (next_a q.2 (by have := (hJ.2 : okS2 q.2).2.2; have := (hJ.2 : okS2 q.2).2.1; omega))] (by simp only [go_sem, seval, memEq, clrs, hw, hb]; rfl) ?_ ?_
        · (first | trivial | (simp; done) | (simp [hb]; done))
        refine Exists.intro (HQ q) ⟨?_, ?_⟩
        · first | exact ⟨held_eq (by rw [show rHead s = [40] from by simpa using h17, atom_brk, hJ.1]), okS2_HQ hJ.2⟩ | exact ⟨held_eq (iAtom_num (by simpa using h17) (by simpa using h60)), h1⟩ | exact ⟨held_eq (iAtom_name (by simpa using h17) (by simpa using h60) (by simpa using h64)), h1⟩ | exact ⟨held_eq (iAtom_bad (by simpa using h17) (by simpa using h60) (by simpa using h64)), okS2_bad h1 true⟩
        exact Can.weak (Weak.lit (by simp only [go_sem, seval, memEq, clrs, hw, subM, leV, inns, innr, V.inn, us, true_or, or_true]) (by simp only [go_sem, seval, memEq, clrs, hw, subM, leV, inns, innr, V.inn, us, true_or, or_true]) (by simp only [go_sem, seval, memEq, clrs, hw, subM, leV, inns, innr, V.inn, us, true_or, or_true] <;> (first | (simp [HQ, hb]; done) | (simp [E.kind, E.n, E.s, E.kids, eR]; done) | (simp [E0, E.kind, E.n, E.s, E.kids, eR]; done))))
      · refine AWp.rgn [callN [0] [] (next_a q.2 (by have := (hJ.2 : okS2 q.2).2.2; have := (hJ.2 : okS2 q.2).2.1; omega))] (by simp only [go_sem, seval, memEq, clrs, hw, hb]; rfl) ?_ ?_
        · (first | trivial | (simp; done) | (simp [hb]; done))
        refine Exists.intro (HQ q) ⟨?_, ?_⟩
        · first | exact ⟨held_eq (by rw [show rHead s = [40] from by simpa using h17, atom_brk, hJ.1]), okS2_HQ hJ.2⟩ | exact ⟨held_eq (iAtom_num (by simpa using h17) (by simpa using h60)), h1⟩ | exact ⟨held_eq (iAtom_name (by simpa using h17) (by simpa using h60) (by simpa using h64)), h1⟩ | exact ⟨held_eq (iAtom_bad (by simpa using h17) (by simpa using h60) (by simpa using h64)), okS2_bad h1 true⟩
        exact Can.weak (Weak.lit (by simp only [go_sem, seval, memEq, clrs, hw, subM, leV, inns, innr, V.inn, us, true_or, or_true]) (by simp only [go_sem, seval, memEq, clrs, hw, subM, leV, inns, innr, V.inn, us, true_or, or_true]) (by simp only [go_sem, seval, memEq, clrs, hw, subM, leV, inns, innr, V.inn, us, true_or, or_true] <;> (first | (simp [HQ, hb]; done) | (simp [E.kind, E.n, E.s, E.kids, eR]; done) | (simp [E0, E.kind, E.n, E.s, E.kids, eR]; done))))
    · refine AWp.seq ?_
      refine AWp.rgn [] (by simp only [go_sem, seval, memEq, clrs, hw]; rfl) ?_ ?_
      · (first | trivial | (simp; done))
      refine AWp.condB (by simp only [go_sem, seval, memEq, clrs, hw]; rfl) (by simp only [go_sem, seval, memEq, clrs, hw]) (fun h60 => ?_) (fun h60 => ?_)
      · refine AWp.rgn [] (by simp only [go_sem, seval, memEq, clrs, hw, hnv (by simpa using h60)]; rfl) ?_ ?_
        · (first | trivial | (simp; done))
        refine Exists.intro ((.mk 1 (numVal (rHead s)) [] [], rNext s)) ⟨?_, ?_⟩
        · first | exact ⟨held_eq (by rw [show rHead s = [40] from by simpa using h17, atom_brk, hJ.1]), okS2_HQ hJ.2⟩ | exact ⟨held_eq (iAtom_num (by simpa using h17) (by simpa using h60)), h1⟩ | exact ⟨held_eq (iAtom_name (by simpa using h17) (by simpa using h60) (by simpa using h64)), h1⟩ | exact ⟨held_eq (iAtom_bad (by simpa using h17) (by simpa using h60) (by simpa using h64)), okS2_bad h1 true⟩
        refine Can.trans (Can.leAt 13 ([[.i .i64 1, .i .i64 (numVal (rHead s)), .s [], .sl false []]]) (by simp only [go_sem, seval, memEq, clrs, hw] <;> rfl) (by simp only [go_sem, seval, memEq, clrs, hw, ler, les, leV] <;> (first | trivial | simp)) (by simp only [go_sem, seval, memEq, clrs, hw] <;> rfl)) ?_
        exact Can.weak (Weak.lit (by simp only [go_sem, seval, memEq, clrs, hw, subM, leV, inns, innr, V.inn, us, true_or, or_true]) (by simp only [go_sem, seval, memEq, clrs, hw, subM, leV, inns, innr, V.inn, us, true_or, or_true]) (by simp only [go_sem, seval, memEq, clrs, hw, subM, leV, inns, innr, V.inn, us, true_or, or_true] <;> (first | (simp [HQ, hb]; done) | (simp [E.kind, E.n, E.s, E.kids, eR]; done) | (simp [E0, E.kind, E.n, E.s, E.kids, eR]; done))))
      · refine AWp.seq ?_
        refine AWp.rgn [call0 (isName_a (rHead s) (by omega))] (by simp only [go_sem, seval, memEq, clrs, hw]; rfl) ?_ ?_
        · (first | trivial | (simp; done))
        refine AWp.condB (by simp only [go_sem, seval, memEq, clrs, hw]; rfl) (by simp only [go_sem, seval, memEq, clrs, hw]) (fun h64 => ?_) (fun h64 => ?_)
        · refine AWp.rgn [] (by simp only [go_sem, seval, memEq, clrs, hw]; rfl) ?_ ?_
          · (first | trivial | (simp; done))
          refine Exists.intro ((.mk 2 0 (rHead s) [], rNext s)) ⟨?_, ?_⟩
          · first | exact ⟨held_eq (by rw [show rHead s = [40] from by simpa using h17, atom_brk, hJ.1]), okS2_HQ hJ.2⟩ | exact ⟨held_eq (iAtom_num (by simpa using h17) (by simpa using h60)), h1⟩ | exact ⟨held_eq (iAtom_name (by simpa using h17) (by simpa using h60) (by simpa using h64)), h1⟩ | exact ⟨held_eq (iAtom_bad (by simpa using h17) (by simpa using h60) (by simpa using h64)), okS2_bad h1 true⟩
          refine Can.trans (Can.leAt 13 ([[.i .i64 2, .i .i64 0, .s (rHead s), .sl false []]]) (by simp only [go_sem, seval, memEq, clrs, hw] <;> rfl) (by simp only [go_sem, seval, memEq, clrs, hw, ler, les, leV] <;> (first | trivial | simp)) (by simp only [go_sem, seval, memEq, clrs, hw] <;> rfl)) ?_
          exact Can.weak (Weak.lit (by simp only [go_sem, seval, memEq, clrs, hw, subM, leV, inns, innr, V.inn, us, true_or, or_true]) (by simp only [go_sem, seval, memEq, clrs, hw, subM, leV, inns, innr, V.inn, us, true_or, or_true]) (by simp only [go_sem, seval, memEq, clrs, hw, subM, leV, inns, innr, V.inn, us, true_or, or_true] <;> (first | (simp [HQ, hb]; done) | (simp [E.kind, E.n, E.s, E.kids, eR]; done) | (simp [E0, E.kind, E.n, E.s, E.kids, eR]; done))))
        · refine AWp.rgn [] (by simp only [go_sem, seval, memEq, clrs, hw]; rfl) ?_ ?_
          · (first | trivial | (simp; done))
          refine Exists.intro ((E0, { rNext s with bad := true })) ⟨?_, ?_⟩
          · first | exact ⟨held_eq (by rw [show rHead s = [40] from by simpa using h17, atom_brk, hJ.1]), okS2_HQ hJ.2⟩ | exact ⟨held_eq (iAtom_num (by simpa using h17) (by simpa using h60)), h1⟩ | exact ⟨held_eq (iAtom_name (by simpa using h17) (by simpa using h60) (by simpa using h64)), h1⟩ | exact ⟨held_eq (iAtom_bad (by simpa using h17) (by simpa using h60) (by simpa using h64)), okS2_bad h1 true⟩
          refine Can.trans (Can.leAt 13 ([[.i .i64 0, .i .i64 0, .s [], .sl false []]]) (by simp only [go_sem, seval, memEq, clrs, hw] <;> rfl) (by simp only [go_sem, seval, memEq, clrs, hw, ler, les, leV] <;> (first | trivial | simp)) (by simp only [go_sem, seval, memEq, clrs, hw] <;> rfl)) ?_
          exact Can.weak (Weak.lit (by simp only [go_sem, seval, memEq, clrs, hw, subM, leV, inns, innr, V.inn, us, true_or, or_true]) (by simp only [go_sem, seval, memEq, clrs, hw, subM, leV, inns, innr, V.inn, us, true_or, or_true]) (by simp only [go_sem, seval, memEq, clrs, hw, subM, leV, inns, innr, V.inn, us, true_or, or_true] <;> (first | (simp [HQ, hb]; done) | (simp [E.kind, E.n, E.s, E.kids, eR]; done) | (simp [E0, E.kind, E.n, E.s, E.kids, eR]; done))))
  refine AWp.seq ?_
  refine AWp.block ?_
  refine AWp.loopK (fun p : E × RS => ⟨[.pt 0 3 0 0, .no, .pt 12 4 0 0, .pt 13 4 0 0, .no, .no, .no, .no, .no, .no, .no, .no, .no, .no, .no, .no, .no, .no, .no, .no, .no, .no, .no, .no, .no, .no, .no, .no, .no, .no, .no, .no, .no, .no, .no, .no, .no, .no, .no, .no, .no, .no, .no, .no, .no, .no, .no, .no, .no, .no, .no, .no, .no, .no, .no, .no, .no, .no, .no, .no, .no, .no, .no, .no, .no, .no, .no, .no, .no, .no, .no, .no, .no, .no, .no, .no, .no, .no, .no, .no], memOf [(0, rsB p.2), (12, ⟨30, 4, [[.i .i64 0, .i .i64 0, .s [], .sl true []]]⟩), (13, ⟨30, 4, [eC p.1]⟩)], us [12, 13]⟩) (fun p : E × RS => asR q2.2 q2.1 = asR p.2 p.1 ∧ okS2 p.2) (fun p : E × RS => p.2.left.length) (q2) ?_ ?_ (fun p hI => ?_)
  · exact ⟨rfl, hJ.2⟩
  · exact Can.weak (Weak.lit (by simp only [go_sem, seval, memEq, clrs, hw, subM, leV, inns, innr, V.inn, us, true_or, or_true]) (by simp only [go_sem, seval, memEq, clrs, hw, subM, leV, inns, innr, V.inn, us, true_or, or_true]) (by simp only [go_sem, seval, memEq, clrs, hw, subM, leV, inns, innr, V.inn, us, true_or, or_true]))
  refine AWp.seq ?_
  refine AWp.seq ?_
  refine AWp.rgn [callN [0] [] (at_a p.2 (by have := hI.2.2.2; have := hI.2.2.1; omega))] (by simp only [go_sem, seval, memEq, clrs, hw]; rfl) ?_ ?_
  · (first | trivial | (simp; done))
  refine AWp.condB (by simp only [go_sem, seval, memEq, clrs, hw]; rfl) (by simp only [go_sem, seval, memEq, clrs, hw]) (fun h71 => ?_) (fun h71 => ?_)
  · refine AWp.skip ?_
    refine AWp.block ?_
    refine AWp.seq ?_
    refine AWp.rgn [callN [0] [] (next_a p.2 (by have := hI.2.2.2; have := hI.2.2.1; omega))] (by simp only [go_sem, seval, memEq, clrs, hw]; rfl) ?_ ?_
    · (first | trivial | (simp; done))
    refine AWp.rgnD [callN [0] [] (next_a (rNext p.2) (by have := hI.2.2.2; have := hI.2.2.1; have := rNext_len p.2; omega))] enM (by simp only [go_sem, seval, memEq, clrs, hw]; rfl) (by rfl) ?_ ?_
    · (first | trivial | (simp; done))
    refine Exists.intro ((.mk 4 0 (rHead (rNext p.2)) [p.1], rNext (rNext p.2))) ⟨?_, ?_, ?_⟩
    · exact ⟨by rw [hI.1, (asR_go h71).1], ok_next (ok_next hI.2)⟩
    · have q1 := next_len (asR_go (e := p.1) h71).2; have q2 := rNext_len (rNext p.2); dsimp only; omega
    refine Can.trans (Can.leAt 13 ([[.i .i64 4, .i .i64 0, .s (rHead (rNext p.2)), .sl false [eC p.1]]]) (by simp only [go_sem, seval, memEq, clrs, hw] <;> rfl) (by simp only [go_sem, seval, memEq, clrs, hw, ler, les, leV] <;> (first | trivial | simp)) (by simp only [go_sem, seval, memEq, clrs, hw] <;> rfl)) ?_
    exact Can.weak (Weak.lit (by simp only [go_sem, seval, memEq, clrs, hw, subM, leV, inns, innr, V.inn, us, true_or, or_true]) (by simp only [go_sem, seval, memEq, clrs, hw, subM, leV, inns, innr, V.inn, us, true_or, or_true]) (by simp only [go_sem, seval, memEq, clrs, hw, subM, leV, inns, innr, V.inn, us, true_or, or_true] <;> (simp [E.kind, E.n, E.s, E.kids, eR, eC_eq])))
  · refine AWp.exit ?_
    refine AWp.seq ?_
    refine AWp.rgn [] (by simp only [go_sem, seval, memEq, clrs, hw]; rfl) ?_ ?_
    · (first | trivial | (simp; done))
    refine AWp.ret (And.intro (.inr rfl) ?_)
    exact Out.mem' (by simp only [Tryz.results228]; rfl) (by simp only [resCs, resC, go_sem, seval, memEq, clrs, hw]) (by simp only [resV, rns, rn, go_sem, seval, memEq, clrs, hw] <;> (rw [hJ.1, hI.1, asR_no h71])) (by simp) rfl (by decide) (by simp only [go_sem, seval, memEq, clrs, hw]) (by simp only [clrs, go_sem, seval, memEq, clrs, hw]) (by simp only [memEq, go_sem, seval, memEq, clrs, hw] <;> (rw [hJ.1, hI.1, asR_no h71]; (try simp)))
theorem read_all (n : Nat) : LevOk n ∧ HeldOk n := by
  induction n using Nat.strongRecOn with
  | ind n ih =>
  refine ⟨?_, ?_⟩
  · cases n with
    | zero => intro t s ht hs hn; omega
    | succ n => exact level_step n (fun j hj => (ih j hj).1) (fun j hj => (ih j hj).2)
  · match n with
    | 0 => intro s hs hn; omega
    | 1 => intro s hs hn; omega
    | m + 2 => exact held_step m (fun j hj => (ih j hj).1)
end

section
set_option maxRecDepth 100000
set_option maxHeartbeats 8000000

theorem iExprWords_a (e : E) (h : eok e = true) (hs : sm e = true) : ACall En 206 [.ag (eC e)] [] [.sl false (strR (wds e 1))] [] := by
  have hf := eok_form h
  have hm : many e ((5 : Nat) : Int) ≤ 12 := eok_many h
  have hw := wds_le 5 e 0 hf
  have W : ACall En 181 [.ag (eC e), .i .i64 0, .pt 0 1 0 0] [⟨3, 1, [[.i .i64 0]]⟩] [.sl false (wdR (src e 0 0))] [⟨3, 1, [[.i .i64 (0 + cnt e)]]⟩] :=
    ACall.frzL (Lr := [⟨3, 1, [[.i .i64 (0 + cnt e)]]⟩]) (words_a 5 e 0 0 hf hs (by omega) (by decide) (by omega) (by decide)) (by simp) (by simp [frzs, frz, wdR_len, List.take_of_length_le])
  have hl : (src e 0 0).length ≤ 1000000 := by rw [show (src e 0 0).length = (wds e 0).length by rw [← src_wds e 0 0, List.length_map]]; omega
  refine acall_of_body (fn := Tryz.f206) [] Tryz.func206 rfl rfl (by simp) fun C => ?_
  rw [entry_eq]
  simp only [Tryz.ntmps206, List.length_cons, List.length_nil, Nat.reduceAdd, Nat.reduceSub, List.replicate_succ, List.replicate_zero, List.cons_append, List.nil_append, numL]
  refine AWp.seq ?_
  refine AWp.rgn [] (by simp only [go_sem, seval, memEq, clrs, wdR_pure]; rfl) ?_ ?_
  · (first | trivial | (simp; done))
  refine AWp.seq ?_
  refine AWp.seq ?_
  refine AWp.rgn [call0 (iExprOk_a e hs)] (by simp only [go_sem, seval, memEq, clrs, wdR_pure]; rfl) ?_ ?_
  · (first | trivial | (simp; done))
  refine AWp.condB (by simp only [go_sem, seval, memEq, clrs, wdR_pure]; rfl) (by simp only [go_sem, seval, memEq, clrs, wdR_pure]) (fun h6 => ?_) (fun h6 => ?_)
  · simp [h] at h6
  · refine AWp.skip ?_
    refine AWp.seq ?_
    refine AWp.rgn [] (by simp only [go_sem, seval, memEq, clrs, wdR_pure]; rfl) ?_ ?_
    · (first | trivial | (simp; done))
    refine AWp.seq ?_
    refine AWp.rgn [callN [13] [] W, call0 (bareWords_a (src e 0 0) hl)] (by simp only [go_sem, seval, memEq, clrs, wdR_pure]; rfl) ?_ ?_
    · (first | trivial | (simp; done))
    refine AWp.ret (And.intro (.inr rfl) ?_)
    exact Out.plain (by simp only [Tryz.results206]; rfl) (by simp only [resCs, resC, go_sem, seval, memEq, clrs, wdR_pure] <;> (split <;> rfl)) (by simp only [resV, go_sem, seval, memEq, clrs, wdR_pure] <;> (rw [src_wds, wds_one hf])) (by simp only [go_sem, seval, memEq, clrs, wdR_pure])
theorem take_next {a b : List Str} {k : Nat} (ha : k < a.length) (hb : k < b.length) (h : a.take k = b.take k) (e : a.getD k [] = b.getD k []) : a.take (k + 1) = b.take (k + 1) := by
  rw [List.take_add_one (l := a), List.take_add_one (l := b), h, List.getElem?_eq_getElem ha, List.getElem?_eq_getElem hb]
  rw [List.getD_eq_getElem?_getD, List.getD_eq_getElem?_getD, List.getElem?_eq_getElem ha, List.getElem?_eq_getElem hb] at e
  rw [show a[k] = b[k] by simpa using e]
theorem eqStr_a (a b : List Str) (ha : a.length ≤ 1000000000000) (hb : b.length ≤ 1000000000000) : ACall En 205 [.sl false (strR a), .sl false (strR b)] [] [.b (a == b)] [] := by
  refine acall_of_body (fn := Tryz.f205) [] Tryz.func205 rfl rfl (by simp) fun C => ?_
  rw [entry_eq]
  simp only [Tryz.ntmps205, List.length_cons, List.length_nil, Nat.reduceAdd, Nat.reduceSub, List.replicate_succ, List.replicate_zero, List.cons_append, List.nil_append, numL]
  refine AWp.seq ?_
  refine AWp.rgn [] (by simp only [go_sem, seval, strR_len, strR_pure]; rfl) ?_ ?_
  · (first | trivial | (simp; done))
  refine AWp.seq ?_
  refine AWp.seq ?_
  refine AWp.rgn [] (by simp only [go_sem, seval, strR_len, strR_pure]; rfl) ?_ ?_
  · (first | trivial | (simp; done))
  refine AWp.condB (by simp only [go_sem, seval, strR_len, strR_pure]; rfl) (by simp only [go_sem, seval, strR_len, strR_pure]) (fun h10 => ?_) (fun h10 => ?_)
  · refine AWp.seq ?_
    refine AWp.rgn [] (by simp only [go_sem, seval, strR_len, strR_pure]; rfl) ?_ ?_
    · (first | trivial | (simp; done))
    refine AWp.ret (And.intro (.inr rfl) ?_)
    exact Out.plain (by simp only [Tryz.results205]; rfl) (by simp only [resCs, resC, go_sem, seval, strR_len, strR_pure] <;> (split <;> rfl)) (by simp only [resV, go_sem, seval, strR_len, strR_pure] <;> (have : a ≠ b := (fun e => by simp [e] at h10); simp [this])) (by simp only [go_sem, seval, strR_len, strR_pure])
  · refine AWp.skip ?_
    refine AWp.seq ?_
    refine AWp.seq ?_
    refine AWp.rgn [] (by simp only [go_sem, seval, strR_len, strR_pure]; rfl) ?_ ?_
    · (first | trivial | (simp; done))
    refine AWp.block ?_
    refine AWp.loopK (fun k : Nat => ⟨[.sl false (strR a), .sl false (strR b), .no, .no, .no, .no, .no, .no, .no, .no, .no, .no, .i .i64 a.length, .i .i64 k, .no, .no, .no, .no, .no, .no, .no, .no, .no, .no, .no, .no], memOf [], us []⟩) (fun k : Nat => k ≤ a.length ∧ a.take k = b.take k) (fun k : Nat => a.length - k) (0) ?_ ?_ (fun k hI => ?_)
    · exact ⟨Nat.zero_le _, rfl⟩
    · exact Can.weak (Weak.lit (by simp only [go_sem, seval, strR_len, strR_pure, subM, leV, inns, innr, V.inn, us, true_or, or_true] <;> (simp)) (by simp only [go_sem, seval, strR_len, strR_pure, subM, leV, inns, innr, V.inn, us, true_or, or_true]) (by simp only [go_sem, seval, strR_len, strR_pure, subM, leV, inns, innr, V.inn, us, true_or, or_true]))
    refine AWp.seq ?_
    refine AWp.rgn [] (by simp only [go_sem, seval, strR_len, strR_pure]; rfl) ?_ ?_
    · (first | trivial | (simp; done))
    refine AWp.seq ?_
    refine AWp.condB (by simp only [go_sem, seval, strR_len, strR_pure]; rfl) (by simp only [go_sem, seval, strR_len, strR_pure]) (fun h14 => ?_) (fun h14 => ?_)
    · refine AWp.skip ?_
      refine AWp.seq ?_
      refine AWp.block ?_
      refine AWp.seq ?_
      refine AWp.rgn [] (by simp only [go_sem, seval, strR_len, strR_pure]; rfl) ?_ ?_
      · (first | trivial | (simp; done))
      refine AWp.seq ?_
      refine AWp.rgnD [] enM (by simp only [go_sem, seval, strR_len, strR_pure, strR_get (show k < a.length by simpa using h14), strR_get (show k < b.length by simp at h14 h10; omega)]; rfl) (by rfl) ?_ ?_
      · simp at h14 h10; simp; omega
      refine AWp.condB (by simp only [go_sem, seval, strR_len, strR_pure]; rfl) (by simp only [go_sem, seval, strR_len, strR_pure]) (fun h24 => ?_) (fun h24 => ?_)
      · refine AWp.seq ?_
        refine AWp.rgn [] (by simp only [go_sem, seval, strR_len, strR_pure]; rfl) ?_ ?_
        · (first | trivial | (simp; done))
        refine AWp.ret (And.intro (.inr rfl) ?_)
        exact Out.plain (by simp only [Tryz.results205]; rfl) (by simp only [resCs, resC, go_sem, seval, strR_len, strR_pure] <;> (split <;> rfl)) (by simp only [resV, go_sem, seval, strR_len, strR_pure] <;> (have : a ≠ b := (fun e => by simp [e] at h24); simp [this])) (by simp only [go_sem, seval, strR_len, strR_pure])
      · refine AWp.skip ?_
        refine AWp.rgn [] (by simp only [go_sem, seval, strR_len, strR_pure]; rfl) ?_ ?_
        · (first | trivial | (simp; done))
        refine Exists.intro (k + 1) ⟨?_, ?_, ?_⟩
        · simp only [decide_eq_true_eq] at h14; simp at h10; exact ⟨by omega, take_next (by omega) (by omega) hI.2 (by simpa using h24)⟩
        · simp at h14; omega
        exact Can.weak (Weak.lit (by simp only [go_sem, seval, strR_len, strR_pure, subM, leV, inns, innr, V.inn, us, true_or, or_true] <;> (rw [wrap64 (by simp at h14; omega) (by simp at h14; omega)]; simp)) (by simp only [go_sem, seval, strR_len, strR_pure, subM, leV, inns, innr, V.inn, us, true_or, or_true]) (by simp only [go_sem, seval, strR_len, strR_pure, subM, leV, inns, innr, V.inn, us, true_or, or_true]))
    · refine AWp.exit ?_
      refine AWp.seq ?_
      refine AWp.rgn [] (by simp only [go_sem, seval, strR_len, strR_pure]; rfl) ?_ ?_
      · (first | trivial | (simp; done))
      refine AWp.ret (And.intro (.inr rfl) ?_)
      exact Out.plain (by simp only [Tryz.results205]; rfl) (by simp only [resCs, resC, go_sem, seval, strR_len, strR_pure] <;> (split <;> rfl)) (by simp only [resV, go_sem, seval, strR_len, strR_pure] <;> (simp only [decide_eq_false_iff_not] at h14; simp at h10; have q := hI.2; rw [List.take_of_length_le (by omega), List.take_of_length_le (by omega)] at q; simp [q])) (by simp only [go_sem, seval, strR_len, strR_pure])
def exOk (w : List Str) : Bool := (exprR w).isSome
theorem iExprRead_a (w : List Str) (hw : smW w) (hl : w.length ≤ 1000000) : ACall En 167 [.sl false (strR w)] [] [.ag (eC (ex w)), .b (exOk w)] [] := by
  have hR : w.length ≤ 40 → ACall En 204 [.pt 0 3 0 0, .i .i64 ((1 : Nat) : Int)] [rsB ⟨w, false, 0⟩] [.ag (eC (iLev 500 1 ⟨w, false, 0⟩).1)] [rsB (iLev 500 1 ⟨w, false, 0⟩).2] := fun h => (read_all 500).1 1 ⟨w, false, 0⟩ (by decide) ⟨hw, Int.le_refl _, by dsimp only; omega⟩ (by dsimp only; omega)
  have hS := ((i_sm 500).1 1 ⟨w, false, 0⟩ hw).1
  have hE : exprR w = if w.length ≤ 40 then (if ((iLev 500 1 ⟨w, false, 0⟩).2.bad || !(iLev 500 1 ⟨w, false, 0⟩).2.left.isEmpty || !eok (iLev 500 1 ⟨w, false, 0⟩).1 || !(wds (iLev 500 1 ⟨w, false, 0⟩).1 1 == w)) then none else some (iLev 500 1 ⟨w, false, 0⟩).1) else none := rfl
  have hL := (i_len 500).1 1 ⟨w, false, 0⟩
  generalize iLev 500 1 ⟨w, false, 0⟩ = q at *
  have hq : (!q.2.left.isEmpty) = decide ((q.2.left.length : Int) > 0) := by cases q.2.left <;> simp
  rw [hq] at hE
  have n1 : decide ((w.length : Int) > 40) = true → exprR w = none := fun h => by rw [hE, if_neg (by simp at h; omega)]
  have n2 : decide ((w.length : Int) > 40) = false → (q.2.bad || decide ((q.2.left.length : Int) > 0) || !eok q.1 || !(wds q.1 1 == w)) = true → exprR w = none := fun h h2 => by rw [hE, if_pos (by simp at h; omega), if_pos h2]
  have n3 : decide ((w.length : Int) > 40) = false → (q.2.bad || decide ((q.2.left.length : Int) > 0) || !eok q.1 || !(wds q.1 1 == w)) = false → exprR w = some q.1 := fun h h2 => by rw [hE, if_pos (by simp at h; omega), h2]; rfl
  refine acall_of_body (fn := Tryz.f167) [] Tryz.func167 rfl rfl (by simp) fun C => ?_
  rw [entry_eq]
  simp only [Tryz.ntmps167, List.length_cons, List.length_nil, Nat.reduceAdd, Nat.reduceSub, List.replicate_succ, List.replicate_zero, List.cons_append, List.nil_append, numL]
  refine AWp.seq ?_
  refine AWp.rgn [] (by simp only [go_sem, seval, memEq, clrs, strR_len, strR_pure]; rfl) ?_ ?_
  · (first | trivial | (simp; done))
  refine AWp.seq ?_
  refine AWp.seq ?_
  refine AWp.rgn [] (by simp only [go_sem, seval, memEq, clrs, strR_len, strR_pure]; rfl) ?_ ?_
  · (first | trivial | (simp; done))
  refine AWp.condB (by simp only [go_sem, seval, memEq, clrs, strR_len, strR_pure]; rfl) (by simp only [go_sem, seval, memEq, clrs, strR_len, strR_pure]) (fun h8 => ?_) (fun h8 => ?_)
  · refine AWp.seq ?_
    refine AWp.rgn [] (by simp only [go_sem, seval, memEq, clrs, strR_len, strR_pure]; rfl) ?_ ?_
    · (first | trivial | (simp; done))
    refine AWp.ret (And.intro (.inr rfl) ?_)
    exact Out.plainL (by simp only [Tryz.results167]; rfl) (by simp only [resCs, resC, go_sem, seval, memEq, clrs, strR_len, strR_pure] <;> (split <;> rfl)) (by simp only [resV, go_sem, seval, memEq, clrs, strR_len, strR_pure] <;> (simp [ex, exOk, n1 h8, E0, E.kind, E.n, E.s, E.kids, eR, ler])) (by simp only [go_sem, seval, memEq, clrs, strR_len, strR_pure])
  · refine AWp.skip ?_
    refine AWp.seq ?_
    refine AWp.rgn [] (by simp only [go_sem, seval, memEq, clrs, strR_len, strR_pure]; rfl) ?_ ?_
    · (first | trivial | (simp; done))
    refine AWp.seq ?_
    refine AWp.rgn [callN [22] [] (hR (by simp at h8; omega))] (by simp only [go_sem, seval, memEq, clrs, strR_len, strR_pure]; rfl) ?_ ?_
    · (first | trivial | (simp; done))
    refine AWp.seq ?_
    refine AWp.seq ?_
    refine AWp.rgn [call0 (iExprOk_a q.1 hS), callI (eok q.1 = true) (fun h => iExprWords_a q.1 h hS), callI (eok q.1 = true) (fun h => eqStr_a (wds q.1 1) w (by have := (eok_wds h 1).2.1; omega) (by omega))] (by simp only [go_sem, seval, memEq, clrs, strR_len, strR_pure]; rfl) ?_ ?_
    · (have key : ∀ x : Bool, x = false → (!x) = true := (fun x h => by rw [h]; rfl)); exact ⟨⟨⟨⟨key _, key _⟩, fun h => ⟨h, by simp at h; exact h.2⟩⟩, fun h => ⟨h, by simp at h; exact h.2⟩⟩, key _⟩
    refine AWp.condB (by simp only [go_sem, seval, memEq, clrs, strR_len, strR_pure]; rfl) (by simp only [go_sem, seval, memEq, clrs, strR_len, strR_pure]) (fun h38 => ?_) (fun h38 => ?_)
    · refine AWp.seq ?_
      refine AWp.rgn [] (by simp only [go_sem, seval, memEq, clrs, strR_len, strR_pure]; rfl) ?_ ?_
      · (first | trivial | (simp; done))
      refine AWp.ret (And.intro (.inr rfl) ?_)
      exact Out.plainL (by simp only [Tryz.results167]; rfl) (by simp only [resCs, resC, go_sem, seval, memEq, clrs, strR_len, strR_pure] <;> (split <;> rfl)) (by simp only [resV, go_sem, seval, memEq, clrs, strR_len, strR_pure] <;> (simp [ex, exOk, n2 h8 h38, E0, E.kind, E.n, E.s, E.kids, eR, ler])) (by simp only [go_sem, seval, memEq, clrs, strR_len, strR_pure])
    · refine AWp.skip ?_
      refine AWp.seq ?_
      refine AWp.rgn [] (by simp only [go_sem, seval, memEq, clrs, strR_len, strR_pure]; rfl) ?_ ?_
      · (first | trivial | (simp; done))
      refine AWp.ret (And.intro (.inr rfl) ?_)
      exact Out.plainL (by simp only [Tryz.results167]; rfl) (by simp only [resCs, resC, go_sem, seval, memEq, clrs, strR_len, strR_pure] <;> (split <;> rfl)) (by simp only [resV, go_sem, seval, memEq, clrs, strR_len, strR_pure] <;> (simp [ex, exOk, n3 h8 h38, ler_refl])) (by simp only [go_sem, seval, memEq, clrs, strR_len, strR_pure])
end
end Go.Proofs.YteihfmnmpdbkiaaGreatDoor
