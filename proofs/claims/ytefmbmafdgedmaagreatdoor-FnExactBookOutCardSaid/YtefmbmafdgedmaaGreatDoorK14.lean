/- Books, drawn. Conditions: none. -/
import Derived.Test.YtefmbmafdgedmaaGreatDoorK13
import Derived.Test.YtefmbmafdgedmaaGreatDoorK12
import Derived.Test.YtefmbmafdgedmaaGreatDoorKu
import Derived.Test.YtefmbmafdgedmaaGreatDoorKo
import Derived.Test.YtefmbmafdgedmaaGreatDoorKq
import Derived.Test.YtefmbmafdgedmaaGreatDoorKg
import Derived.Test.YtefmbmafdgedmaaGreatDoorKb
import Derived.Test.YtefmbmafdgedmaaGreatDoorK10
set_option linter.unusedVariables false
set_option linter.unusedSimpArgs false
namespace Go.Proofs.YtefmbmafdgedmaaGreatDoor
section
set_option maxRecDepth 100000
set_option maxHeartbeats 4000000
theorem b8_ {l : List Pg} {i : Nat} {a t : Str} {g : Bool} {f : List Int} : (pgR l).set i [.s a, .b g, .s t, .sl false (inR f)] = pgR (l.set i ⟨a, g, t, f⟩) := by simp [pgR, List.map_set, pgC]
end
section
set_option maxRecDepth 100000
def cg_ (l : List Pg) (a : Int) (d : Nat) (ls : List Str) : Bool :=
 g5_ l && (decide (0 ≤ a) && decide (a ≤ (l.length : Int) - d)) && ls.all fr_ && (decide (1 ≤ (l.length : Int) - d + ls.length) && decide ((l.length : Int) - d + ls.length ≤ 16))
def h8_ (l : List Pg) (a d : Nat) (ls : List Str) : List Pg := l.take a ++ ls.map e8_ ++ l.drop (a + d)
def chg (l : List Pg) (a : Int) (d : Nat) (ls : List Str) : List Pg := if cg_ l a d ls then h8_ l a.toNat d ls else []
theorem ab6_ {s : Str} (h : fr_ s = true) : (e8_ s).line = s := by
 unfold e8_; rw [if_pos h]; split <;> rfl
theorem aly_ {s : Str} (h : fr_ s = true) : okP (e8_ s) = true := by
 unfold okP; rw [ab6_ h, h]; simp
theorem ahu_ {l : List Pg} (h1 : 1 ≤ l.length) (h2 : l.length ≤ 16) (h : ∀ p ∈ l, okP p = true) : g5_ l = true := by
 unfold g5_; rw [decide_eq_true h1, decide_eq_true h2, List.all_eq_true.2 h]; rfl
theorem dh_ {l : List Pg} {a : Int} {d : Nat} {ls : List Str} (h : cg_ l a d ls = true) : g5_ l = true ∧ 0 ≤ a ∧ a ≤ (l.length : Int) - d ∧ (∀ s ∈ ls, fr_ s = true) ∧ 1 ≤ (l.length : Int) - d + ls.length ∧ (l.length : Int) - d + ls.length ≤ 16 := by
 simp only [cg_, T5_, T3_, List.all_eq_true] at h
 exact ⟨h.1.1.1, h.1.1.2.1, h.1.1.2.2, h.1.2, h.2.1, h.2.2⟩
theorem rp_ {l : List Pg} {a : Int} {d : Nat} {ls : List Str} (h1 : g5_ l = true) (h2 : 0 ≤ a) (h3 : a ≤ (l.length : Int) - d) (h4 : ∀ s ∈ ls, fr_ s = true) (h5 : 1 ≤ (l.length : Int) - d + ls.length) (h6 : (l.length : Int) - d + ls.length ≤ 16) : cg_ l a d ls = true := by
 simp only [cg_, T5_, T3_, List.all_eq_true]
 exact ⟨⟨⟨h1, h2, h3⟩, h4⟩, h5, h6⟩
theorem k9_ {l : List Pg} {a : Int} {d : Nat} {ls : List Str} (h : cg_ l a d ls = true) : chg l a d ls = h8_ l a.toNat d ls := by unfold chg; rw [if_pos h]
theorem j6_ {l : List Pg} {a : Int} {d : Nat} {ls : List Str} (h : cg_ l a d ls = false) : chg l a d ls = [] := by unfold chg; rw [h]; rfl
theorem jv_ {l : List Pg} {a d : Nat} {ls : List Str} (h : a + d ≤ l.length) : (h8_ l a d ls).length = l.length - d + ls.length := by
 unfold h8_; simp only [T2_, List.length_take, List.length_map, List.length_drop]; omega
theorem ai0_ {l : List Pg} {a : Int} {d : Nat} {ls : List Str} (h : cg_ l a d ls = true) : (chg l a d ls).length = l.length - d + ls.length := by
 obtain ⟨_, h2, h3, _⟩ := dh_ h
 rw [k9_ h, jv_ (by omega)]
theorem adn_ {l : List Pg} {a : Int} {d : Nat} {ls : List Str} (h : cg_ l a d ls = true) : g5_ (chg l a d ls) = true := by
 obtain ⟨h1, h2, h3, h4, h5, h6⟩ := dh_ h
 have hl := ai0_ h
 refine ahu_ (by omega) (by omega) fun p hp => ?_
 rw [k9_ h] at hp
 unfold h8_ at hp
 simp only [List.mem_append, List.mem_map] at hp
 rcases hp with (hp | ⟨s, hs, rfl⟩) | hp
 ·exact p5_ h1 p (List.mem_of_mem_take hp)
 ·exact aly_ (h4 s hs)
 ·exact p5_ h1 p (List.mem_of_mem_drop hp)
theorem adf_ {l : List Pg} {a d : Nat} {ls : List Str} (h : ∀ p ∈ l, pgB p) (hs : ∀ s ∈ ls, s.length ≤ 2000000) : ∀ p ∈ h8_ l a d ls, pgB p := fun p hp => by
 unfold h8_ at hp
 simp only [List.mem_append, List.mem_map] at hp
 rcases hp with (hp | ⟨s, h1, rfl⟩) | hp
 ·exact h p (List.mem_of_mem_take hp)
 ·exact y0_ (hs s h1)
 ·exact h p (List.mem_of_mem_drop hp)
theorem ii_ {l : List Pg} {a : Int} {w : Str} : cg_ l a 1 [w] = true ↔ g5_ l = true ∧ 0 ≤ a ∧ a < l.length ∧ fr_ w = true := by
 constructor
 ·intro h
  obtain ⟨h1, h2, h3, h4, h5, h6⟩ := dh_ h
  exact ⟨h1, h2, by omega, h4 w (by simp)⟩
 ·rintro ⟨h1, h2, h3, h4⟩
  have := jb_ h1
  exact rp_ h1 h2 (by omega) (by simpa using h4) (by simp; omega) (by simp; omega)
theorem oc_ {l : List Pg} {a : Int} {w : Str} : cg_ l a 0 [w] = true ↔ g5_ l = true ∧ 0 ≤ a ∧ a ≤ l.length ∧ fr_ w = true ∧ l.length < 16 := by
 constructor
 ·intro h
  obtain ⟨h1, h2, h3, h4, h5, h6⟩ := dh_ h
  simp at h6
  exact ⟨h1, h2, by omega, h4 w (by simp), by omega⟩
 ·rintro ⟨h1, h2, h3, h4, h5⟩
  have := jb_ h1
  exact rp_ h1 h2 (by omega) (by simpa using h4) (by simp; omega) (by simp; omega)
theorem kg_ {l : List Pg} {a : Int} : cg_ l a 1 [] = true ↔ g5_ l = true ∧ 0 ≤ a ∧ a < l.length ∧ 2 ≤ l.length := by
 constructor
 ·intro h
  obtain ⟨h1, h2, h3, h4, h5, h6⟩ := dh_ h
  simp at h5
  exact ⟨h1, h2, by omega, by omega⟩
 ·rintro ⟨h1, h2, h3, h4⟩
  have := jb_ h1
  exact rp_ h1 h2 (by omega) (fun s hs => by cases hs) (by simp; omega) (by simp; omega)
theorem aj5_ {l : List Pg} {a : Int} {w : Str} (h : cg_ l a 1 [w] = true) : chg l a 1 [w] = l.set a.toNat (e8_ w) := by
 obtain ⟨_, h2, h3, _⟩ := ii_.1 h
 rw [k9_ h, List.set_eq_take_append_cons_drop, if_pos (by omega)]
 unfold h8_; simp
theorem amu_ {l : List Pg} {a : Int} {w : Str} (h : cg_ l a 0 [w] = true) : chg l a 0 [w] = l.take a.toNat ++ e8_ w :: l.drop a.toNat := by
 rw [k9_ h]; unfold h8_; simp
theorem alk_ {l : List Pg} {a : Int} (h : cg_ l a 1 [] = true) : chg l a 1 [] = l.take a.toNat ++ l.drop (a.toNat + 1) := by
 rw [k9_ h]; unfold h8_; simp
end
section
set_option maxRecDepth 100000
end
section
set_option maxRecDepth 100000
set_option maxHeartbeats 4000000
/-! books and programs, plainly -/
end
section
set_option maxRecDepth 100000
set_option maxHeartbeats 4000000
theorem aln_ (n : Nat) (h0 : 0 < n) (h1 : n ≤ 100000) : ACall En 186 [.sl true [], .i .i64 n] [] [.ow 0 4 0 0] [⟨99, 4, []⟩] := by
 have hw : IntKind.i64.wrap ((n : Int) - 0) = n := by rw [bx_ (by omega) (by omega)]; omega
 have hw0 : IntKind.i64.wrap (0 : Int) = 0 := by rw [bx_ (by omega) (by omega)]
 refine ao_ (fn := Tryz.f186) [32] Tryz.func186 rfl rfl (by simp) fun C => ?_
 rw [bb_]
 simp only [Tryz.ntmps186, T7_, List.length_nil, Nat.reduceAdd, Nat.reduceSub, List.replicate_succ, List.replicate_zero, List.cons_append, List.nil_append, bu_]
 refine .seq (.rgn [] (by simp only [go_sem, seval, jy_, hg_, hf_, an_, ar_, hw, hw0]; rfl) ?_ ?_)
 ·first | trivial | simp
 refine .seq (.seq (.rgn [] (by simp only [go_sem, seval, jy_, hg_, hf_, an_, ar_, hw, hw0]; rfl) ?_ ?_))
 ·first | trivial | simp
 refine .condB (by simp only [go_sem, seval, jy_, hg_, hf_, an_, ar_, hw, hw0]; rfl) (by simp only [go_sem, seval, jy_, hg_, hf_, an_, ar_, hw, hw0]) (fun h6 => ?_) (fun h6 => ?_)
 ·simp at h6; omega
 ·refine .skip (.seq (.seq (.rgnS [10] [jy_ En] (by simp only [go_sem, seval, jy_, hg_, hf_, an_, ar_, hw, hw0]; rfl) ?_ ?_)))
  ·exact ⟨_, _, _, _, _, _, rfl, by simp only [go_sem, seval]; rfl, rfl⟩
  refine .seq (.rgn [] (by simp only [go_sem, seval, jy_, hg_, hf_, an_, ar_, hw, hw0]; rfl) ?_ ?_)
  ·first | trivial | simp
  refine .condB (by simp only [go_sem, seval, jy_, hg_, hf_, an_, ar_, hw, hw0]; rfl) (by simp only [go_sem, seval, jy_, hg_, hf_, an_, ar_, hw, hw0]) (fun h16 => ?_) (fun h16 => ?_)
  ·refine .rgnS [19, 20, 22] [jy_ En, hg_ En, hf_ En 99 4 32 n] (by simp only [go_sem, seval, jy_, hg_, hf_, an_, ar_, hw, hw0]; rfl) ?_ ?_
   ·and_intros <;> first | exact ⟨_, _, _, _, _, _, rfl, by simp only [go_sem, seval]; rfl, rfl⟩ | exact ⟨_, _, _, _, _, _, _, rfl, by simp only [go_sem, seval]; rfl, by decide, rfl, rfl⟩ | exact ⟨_, _, _, _, _, _, _, rfl, by simp only [go_sem, seval]; rfl, by simp only [go_sem, seval]; rfl, by decide, rfl, rfl, rfl, rfl, h0, by omega⟩ | omega | (simp; done)
   refine .seq (.rgn [] (by simp only [go_sem, seval, jy_, hg_, hf_, an_, ar_, hw, hw0]; rfl) ?_ ?_)
   ·first | trivial | simp
   refine .ret ⟨.inr rfl, ?_⟩
   exact Out.mem' (by simp only [Tryz.results186]; rfl) (by simp only [bd_, bo_, go_sem, seval, jy_, hg_, hf_, an_, ar_, hw, hw0]) (by simp only [bn_, rns, rn, go_sem, seval, jy_, hg_, hf_, an_, ar_, hw, hw0]) (by simp) rfl (by decide) (by simp only [go_sem, seval, jy_, hg_, hf_, an_, ar_, hw, hw0]) (by simp only [ar_, go_sem, seval, jy_, hg_, hf_, an_, ar_, hw, hw0]) (by simp only [an_, go_sem, seval, jy_, hg_, hf_, an_, ar_, hw, hw0])
  ·simp at h16; omega
end
section
set_option maxRecDepth 100000
set_option maxHeartbeats 4000000
theorem yr_ (s : Str) (hs : s.length ≤ 281474976710656) : ACall En 133 [.s s] [] [.b (!fr_ s)] [] := by
 refine ao_ (fn := Tryz.f133) [] Tryz.func133 rfl rfl (by simp) fun C => ?_
 rw [bb_]
 simp only [Tryz.ntmps133, T7_, List.length_nil, Nat.reduceAdd, Nat.reduceSub, List.replicate_succ, List.replicate_zero, List.cons_append, List.nil_append, bu_]
 refine .seq (.rgn [] (by simp only [go_sem, seval]; rfl) ?_ ?_)
 ·first | trivial | simp
 refine .seq (.rgn [bj_ (rn_ s hs)] (by simp only [go_sem, seval]; rfl) ?_ ?_)
 ·first | trivial | simp
 refine .ret ⟨.inr rfl, ?_⟩
 exact Out.plain (by simp only [Tryz.results133]; rfl) (by simp only [bd_, bo_, go_sem, seval] <;> (split <;> rfl)) (by simp only [bn_, go_sem, seval] <;> (simp_all)) (by simp only [go_sem, seval])
theorem aie_ (l : List Str) (hs : ∀ s ∈ l, s.length ≤ 281474976710656) (hl : l.length ≤ 1000000) : ACall En 184 [.sl false (cb_ l), .fn (.func 133) [] []] [] [.i .i64 (v7_ (fun p => !fr_ p) l)] [] := by
 refine ao_ (fn := Tryz.f184) [] Tryz.func184 rfl rfl (by simp) fun C => ?_
 rw [bb_]
 simp only [Tryz.ntmps184, T7_, List.length_nil, Nat.reduceAdd, Nat.reduceSub, List.replicate_succ, List.replicate_zero, List.cons_append, List.nil_append, bu_]
 refine .seq (.rgn [] (by simp only [go_sem, seval, ab_, aa_]; rfl) ?_ ?_)
 ·(first | trivial | (simp; done) | (simp only [T3_] at h9; and_intros <;> omega))
 refine .seq (.seq (.rgn [] (by simp only [go_sem, seval, ab_, aa_]; rfl) ?_ ?_))
 ·(first | trivial | (simp; done) | (simp only [T3_] at h9; and_intros <;> omega))
 refine .block (.loopK (fun k : Nat => ⟨[.sl false (cb_ l), .fn (.func 133) [] [], .no, .no, .no, .no, .no, .i .i64 l.length, .i .i64 k, .no, .no, .no, .no, .no, .no, .no, .no, .no, .no], bk_ [], us []⟩) (fun k : Nat => k ≤ l.length ∧ (l.take k).any (fun p => !fr_ p) = false) (fun k : Nat => l.length - k) (0) ?_ ?_ (fun k hI => ?_))
 ·simp
 ·exact Can.weak (Weak.lit (by simp only [go_sem, seval, ab_, aa_, ay_, leV, aw_, ax_, V.inn, us, T9_, Ta_] <;> (simp)) (by simp only [go_sem, seval, ab_, aa_, ay_, leV, aw_, ax_, V.inn, us, T9_, Ta_]) (by simp only [go_sem, seval, ab_, aa_, ay_, leV, aw_, ax_, V.inn, us, T9_, Ta_]))
 refine .seq (.rgn [] (by simp only [go_sem, seval, ab_, aa_]; rfl) ?_ ?_)
 ·(first | trivial | (simp; done) | (simp only [T3_] at h9; and_intros <;> omega))
 refine .seq (.condB (by simp only [go_sem, seval, ab_, aa_]; rfl) (by simp only [go_sem, seval, ab_, aa_]) (fun h9 => ?_) (fun h9 => ?_))
 ·refine .skip (.seq (.block (.seq (.rgn [] (by simp only [go_sem, seval, ab_, aa_]; rfl) ?_ ?_))))
  ·(first | trivial | (simp; done) | (simp only [T3_] at h9; and_intros <;> omega))
  refine .seq (.rgn [dc_ (k < l.length) (fun h => yr_ (l.getD k []) (hs _ (b3_ h)))] (by simp only [go_sem, seval, ab_, aa_, db_ (show k < l.length by simpa using h9)]; rfl) ?_ ?_)
  ·(first | trivial | (simp; done) | (simp only [T3_] at h9; and_intros <;> omega))
  refine .condB (by simp only [go_sem, seval, ab_, aa_]; rfl) (by simp only [go_sem, seval, ab_, aa_]) (fun h16 => ?_) (fun h16 => ?_)
  ·refine .seq (.rgn [] (by simp only [go_sem, seval, ab_, aa_]; rfl) ?_ ?_)
   ·(first | trivial | (simp; done) | (simp only [T3_] at h9; and_intros <;> omega))
   refine .ret ⟨.inr rfl, ?_⟩
   exact Out.plain (by simp only [Tryz.results184]; rfl) (by simp only [bd_, bo_, go_sem, seval, ab_, aa_] <;> (split <;> rfl)) (by simp only [bn_, go_sem, seval, ab_, aa_] <;> (simp at h9; rw [aas_ (d := []) h9 hI.2 h16])) (by simp only [go_sem, seval, ab_, aa_])
  ·refine .skip (.rgn [] (by simp only [go_sem, seval, ab_, aa_]; rfl) ?_ ?_)
   ·(first | trivial | (simp; done) | (simp only [T3_] at h9; and_intros <;> omega))
   refine Exists.intro (k + 1) ⟨?_, ?_, ?_⟩
   ·simp at h9; refine ⟨by omega, ?_⟩; rw [wc_ (d := []) h9, hI.2, h16]; rfl
   ·simp at h9; omega
   exact Can.weak (Weak.lit (by simp only [go_sem, seval, ab_, aa_, ay_, leV, aw_, ax_, V.inn, us, T9_, Ta_] <;> (rw [bx_ (by omega) (by omega)]; simp)) (by simp only [go_sem, seval, ab_, aa_, ay_, leV, aw_, ax_, V.inn, us, T9_, Ta_]) (by simp only [go_sem, seval, ab_, aa_, ay_, leV, aw_, ax_, V.inn, us, T9_, Ta_]))
 ·refine .exit (.seq (.rgn [] (by simp only [go_sem, seval, ab_, aa_]; rfl) ?_ ?_))
  ·(first | trivial | (simp; done) | (simp only [T3_] at h9; and_intros <;> omega))
  refine .ret ⟨.inr rfl, ?_⟩
  exact Out.plain (by simp only [Tryz.results184]; rfl) (by simp only [bd_, bo_, go_sem, seval, ab_, aa_] <;> (split <;> rfl)) (by simp only [bn_, go_sem, seval, ab_, aa_] <;> (simp at h9; have h0 := hI.2; rw [T1_ h9] at h0; rw [s2_ h0])) (by simp only [go_sem, seval, ab_, aa_])
theorem wo_ (l : List Str) (hs : ∀ s ∈ l, s.length ≤ 281474976710656) (hl : l.length ≤ 1000000) : ACall En 132 [.sl false (cb_ l), .fn (.func 133) [] []] [] [.b (l.any fun p => !fr_ p)] [] := by
 refine ao_ (fn := Tryz.f132) [] Tryz.func132 rfl rfl (by simp) fun C => ?_
 rw [bb_]
 simp only [Tryz.ntmps132, T7_, List.length_nil, Nat.reduceAdd, Nat.reduceSub, List.replicate_succ, List.replicate_zero, List.cons_append, List.nil_append, bu_]
 refine .seq (.rgn [] (by simp only [go_sem, seval, aa_]; rfl) ?_ ?_)
 ·first | trivial | simp
 refine .seq (.rgn [bj_ (aie_ l hs hl)] (by simp only [go_sem, seval, aa_]; rfl) ?_ ?_)
 ·first | trivial | simp
 refine .ret ⟨.inr rfl, ?_⟩
 exact Out.plain (by simp only [Tryz.results132]; rfl) (by simp only [bd_, bo_, go_sem, seval, aa_] <;> (split <;> rfl)) (by simp only [bn_, go_sem, seval, aa_] <;> (rw [z1_])) (by simp only [go_sem, seval, aa_])
def plR (X : List (List Pg)) : List (List V) := X.map fun l => [.sl false (pgR l)]
theorem ci_ (X : List (List Pg)) : (plR X).length = X.length := by simp [plR]
theorem ca_ : ∀ X : List (List Pg), cw_ (plR X) = true
 | [] => rfl
 | x :: X => by
  show cw_ ([.sl false (pgR x)] :: plR X) = true
  simp only [cw_, c9_, V.pure, ad_, ca_ X, Bool.and_true]
theorem z8_ {X : List (List Pg)} {k : Nat} (h : k < X.length) : (plR X).getD k [] = [.sl false (pgR (X.getD k []))] := by
 simp [plR, T8_, T6_ h]
def oy_ (X : List (List Pg)) (k : Nat) : Nat := ((X.take k).map List.length).sum
theorem mu_ {X : List (List Pg)} {k : Nat} (h : k < X.length) : oy_ X (k + 1) = oy_ X k + (X.getD k []).length := by
 unfold oy_
 rw [List.take_add_one, T6_ h, List.map_append, List.sum_append, T8_, T6_ h]; simp
theorem vz_ {X : List (List Pg)} {k : Nat} (h : X.length ≤ k) : oy_ X k = X.flatten.length := by
 unfold oy_
 rw [T1_ h, List.length_flatten]
theorem aj3_ {X : List (List Pg)} (k : Nat) : oy_ X k ≤ X.flatten.length := by
 have h : ∀ (a b : List (List Pg)), (a.map List.length).sum ≤ (a ++ b).flatten.length := fun a b => by
  rw [List.flatten_append, T2_, List.length_flatten (L := a)]; omega
 have := h (X.take k) (X.drop k)
 rw [List.take_append_drop] at this
 exact this
theorem adg_ {X : List (List Pg)} {k : Nat} (h : k < X.length) : (X.take (k + 1)).flatten = (X.take k).flatten ++ X.getD k [] := by
 rw [List.take_add_one, T6_ h, List.flatten_append, T8_, T6_ h]; simp
theorem adx_ {X : List (List Pg)} (k : Nat) : (X.take k).flatten.length = oy_ X k := by unfold oy_; rw [List.length_flatten]
theorem agr_ (X : List (List Pg)) (h0 : 0 < X.flatten.length) (h1 : X.flatten.length ≤ 100000) (h2 : X.length ≤ 100) : ACall En 135 [.sl false (plR X)] [] [.ow 0 4 0 X.flatten.length] [⟨99, 4, pgR X.flatten⟩] := by
 have hs := fun k => aj3_ (X := X) k
 have hr : ∀ r ∈ pgR X.flatten, r.length = 4 := fun r hr => by obtain ⟨p, _, rfl⟩ := List.mem_map.1 hr; rfl
 have hr2 : ∀ k, ∀ r ∈ pgR (X.getD k []), r.length = 4 := fun k r hr => by obtain ⟨p, _, rfl⟩ := List.mem_map.1 hr; rfl
 refine ao_ (fn := Tryz.f135) [80] Tryz.func135 rfl rfl (by simp) fun C => ?_
 rw [bb_]
 simp only [Tryz.ntmps135, T7_, List.length_nil, Nat.reduceAdd, Nat.reduceSub, List.replicate_succ, List.replicate_zero, List.cons_append, List.nil_append, bu_]
 refine .seq (.rgn [] (by simp only [go_sem, seval, an_, ar_, ci_, ca_, ae_, ad_]; rfl) ?_ ?_)
 ·(first | trivial | (simp; done) | (simp only [T3_] at h12; and_intros <;> omega) | (simp only [T3_] at h28; and_intros <;> omega))
 refine .seq (.rgn [] (by simp only [go_sem, seval, an_, ar_, ci_, ca_, ae_, ad_]; rfl) ?_ ?_)
 ·(first | trivial | (simp; done) | (simp only [T3_] at h12; and_intros <;> omega) | (simp only [T3_] at h28; and_intros <;> omega))
 refine .seq (.seq (.rgn [] (by simp only [go_sem, seval, an_, ar_, ci_, ca_, ae_, ad_]; rfl) ?_ ?_))
 ·(first | trivial | (simp; done) | (simp only [T3_] at h12; and_intros <;> omega) | (simp only [T3_] at h28; and_intros <;> omega))
 refine .block (.loopK (fun k : Nat => ⟨[.sl false (plR X), .no, .no, .i .i64 (oy_ X k), .no, .no, .no, .no, .no, .sl false (plR X), .i .i64 X.length, .i .i64 k, .no, .no, .no, .no, .no, .no, .no, .no, .no, .no, .no, .no, .no, .no, .no, .no, .no, .no, .no, .no, .no, .no, .no, .no], bk_ [], us []⟩) (fun k : Nat => k ≤ X.length) (fun k : Nat => X.length - k) (0) ?_ ?_ (fun k hI => ?_))
 ·simp
 ·exact Can.weak (Weak.lit (by simp only [go_sem, seval, an_, ar_, ci_, ca_, ae_, ad_, ay_, leV, aw_, ax_, V.inn, us, T9_, Ta_] <;> ((try simp [oy_]))) (by simp only [go_sem, seval, an_, ar_, ci_, ca_, ae_, ad_, ay_, leV, aw_, ax_, V.inn, us, T9_, Ta_]) (by simp only [go_sem, seval, an_, ar_, ci_, ca_, ae_, ad_, ay_, leV, aw_, ax_, V.inn, us, T9_, Ta_]))
 refine .seq (.rgn [] (by simp only [go_sem, seval, an_, ar_, ci_, ca_, ae_, ad_]; rfl) ?_ ?_)
 ·(first | trivial | (simp; done) | (simp only [T3_] at h12; and_intros <;> omega) | (simp only [T3_] at h28; and_intros <;> omega))
 refine .seq (.condB (by simp only [go_sem, seval, an_, ar_, ci_, ca_, ae_, ad_]; rfl) (by simp only [go_sem, seval, an_, ar_, ci_, ca_, ae_, ad_]) (fun h12 => ?_) (fun h12 => ?_))
 ·refine .skip (.seq (.block (.seq (.rgn [] (by simp only [go_sem, seval, an_, ar_, ci_, ca_, ae_, ad_, z8_ (show k < X.length by simpa using h12)]; rfl) ?_ ?_))))
  ·(first | trivial | (simp; done) | (simp only [T3_] at h12; and_intros <;> omega) | (simp only [T3_] at h28; and_intros <;> omega))
  refine .seq (.rgn [] (by simp only [go_sem, seval, an_, ar_, ci_, ca_, ae_, ad_]; rfl) ?_ ?_)
  ·(first | trivial | (simp; done) | (simp only [T3_] at h12; and_intros <;> omega) | (simp only [T3_] at h28; and_intros <;> omega))
  refine .seq (.rgn [] (by simp only [go_sem, seval, an_, ar_, ci_, ca_, ae_, ad_]; rfl) ?_ ?_)
  ·(first | trivial | (simp; done) | (simp only [T3_] at h12; and_intros <;> omega) | (simp only [T3_] at h28; and_intros <;> omega))
  refine .condB (by simp only [go_sem, seval, an_, ar_, ci_, ca_, ae_, ad_]; rfl) (by simp only [go_sem, seval, an_, ar_, ci_, ca_, ae_, ad_]) (fun h20 => ?_) (fun h20 => ?_)
  ·simp only [T3_] at h12 h20; have e := mu_ (X := X) (k := k) (by omega); have e2 := hs (k + 1); rw [bx_ (by omega) (by omega)] at h20; omega
  ·refine .skip (.rgn [] (by simp only [go_sem, seval, an_, ar_, ci_, ca_, ae_, ad_]; rfl) ?_ ?_)
   ·(first | trivial | (simp; done) | (simp only [T3_] at h12; and_intros <;> omega) | (simp only [T3_] at h28; and_intros <;> omega))
   refine Exists.intro (k + 1) ⟨?_, ?_, ?_⟩
   ·simp at h12; omega
   ·simp at h12; omega
   exact Can.weak (Weak.lit (by simp only [go_sem, seval, an_, ar_, ci_, ca_, ae_, ad_, ay_, leV, aw_, ax_, V.inn, us, T9_, Ta_] <;> (simp at h12; have e := mu_ h12; have e2 := hs (k + 1); rw [bx_ (by omega) (by omega), bx_ (by omega) (by omega)]; (try simp [e]))) (by simp only [go_sem, seval, an_, ar_, ci_, ca_, ae_, ad_, ay_, leV, aw_, ax_, V.inn, us, T9_, Ta_]) (by simp only [go_sem, seval, an_, ar_, ci_, ca_, ae_, ad_, ay_, leV, aw_, ax_, V.inn, us, T9_, Ta_]))
 ·refine .exit (.seq (.rgn [c4_ [] [34] (aln_ X.flatten.length h0 h1)] (by simp only [go_sem, seval, an_, ar_, ci_, ca_, ae_, ad_]; rfl) ?_ ?_))
  ·simp only [T4_] at h12; exact ⟨by rw [vz_ (by omega)], by simp⟩
  refine .seq (.seq (.rgn [] (by simp only [go_sem, seval, an_, ar_, ci_, ca_, ae_, ad_]; rfl) ?_ ?_))
  ·(first | trivial | (simp; done) | (simp only [T3_] at h12; and_intros <;> omega) | (simp only [T3_] at h28; and_intros <;> omega))
  refine .block (.loopK (fun k : Nat => ⟨[.no, .no, .no, .no, .no, .no, .ow 80 4 0 (oy_ X k), .no, .no, .no, .no, .no, .no, .no, .no, .no, .no, .no, .no, .no, .no, .no, .no, .no, .no, .sl false (plR X), .i .i64 X.length, .i .i64 k, .no, .no, .no, .no, .no, .no, .no, .no], bk_ [(80, ⟨99, 4, pgR (X.take k).flatten⟩)], us [80]⟩) (fun k : Nat => k ≤ X.length) (fun k : Nat => X.length - k) (0) ?_ ?_ (fun k hI => ?_))
  ·simp
  ·refine Can.trans (Can.swap 34 80 (by decide) (by decide) (by decide) (by decide) (by simp only [go_sem, seval, an_, ar_, ci_, ca_, ae_, ad_, V.cl]) (by simp only [go_sem, seval, an_, ar_, ci_, ca_, ae_, ad_, V.cl]) (by simp only [go_sem, seval, an_, ar_, ci_, ca_, ae_, ad_, b5_, sw, swM, rnB] <;> rfl) (by simp only [go_sem, seval, an_, ar_, ci_, ca_, ae_, ad_, b5_, sw, swM, rnB] <;> rfl) (by simp only [go_sem, seval, an_, ar_, ci_, ca_, ae_, ad_, b5_, sw, swM, rnB] <;> rfl)) ?_
   exact Can.weak (Weak.lit (by simp only [go_sem, seval, an_, ar_, ci_, ca_, ae_, ad_, ay_, leV, aw_, ax_, V.inn, us, T9_, Ta_] <;> ((try simp [oy_]))) (by simp only [go_sem, seval, an_, ar_, ci_, ca_, ae_, ad_, ay_, leV, aw_, ax_, V.inn, us, T9_, Ta_]) (by simp only [go_sem, seval, an_, ar_, ci_, ca_, ae_, ad_, ay_, leV, aw_, ax_, V.inn, us, T9_, Ta_] <;> ((try simp [pgR]))))
  refine .seq (.rgn [] (by simp only [go_sem, seval, an_, ar_, ci_, ca_, ae_, ad_]; rfl) ?_ ?_)
  ·(first | trivial | (simp; done) | (simp only [T3_] at h12; and_intros <;> omega) | (simp only [T3_] at h28; and_intros <;> omega))
  refine .seq (.condB (by simp only [go_sem, seval, an_, ar_, ci_, ca_, ae_, ad_]; rfl) (by simp only [go_sem, seval, an_, ar_, ci_, ca_, ae_, ad_]) (fun h28 => ?_) (fun h28 => ?_))
  ·refine .skip (.seq (.block (.seq (.rgn [] (by simp only [go_sem, seval, an_, ar_, ci_, ca_, ae_, ad_, z8_ (show k < X.length by simpa using h28)]; rfl) ?_ ?_))))
   ·(first | trivial | (simp; done) | (simp only [T3_] at h12; and_intros <;> omega) | (simp only [T3_] at h28; and_intros <;> omega))
   refine .rgn [] (by simp only [go_sem, seval, an_, ar_, ci_, ca_, ae_, ad_]; rfl) ?_ ?_
   ·simp only [T3_] at h28; have e := mu_ (X := X) (k := k) (by omega); have e2 := hs (k + 1); exact ⟨hr2 k, by simp, adx_ k, by omega⟩
   refine .rgn [] (by simp only [go_sem, seval, an_, ar_, ci_, ca_, ae_, ad_]; rfl) ?_ ?_
   ·(first | trivial | (simp; done) | (simp only [T3_] at h12; and_intros <;> omega) | (simp only [T3_] at h28; and_intros <;> omega))
   refine Exists.intro (k + 1) ⟨?_, ?_, ?_⟩
   ·simp at h28; omega
   ·simp at h28; omega
   refine Can.trans (Can.swap 43 80 (by decide) (by decide) (by decide) (by decide) (by simp only [go_sem, seval, an_, ar_, ci_, ca_, ae_, ad_, V.cl]) (by simp only [go_sem, seval, an_, ar_, ci_, ca_, ae_, ad_, V.cl]) (by simp only [go_sem, seval, an_, ar_, ci_, ca_, ae_, ad_, b5_, sw, swM, rnB] <;> rfl) (by simp only [go_sem, seval, an_, ar_, ci_, ca_, ae_, ad_, b5_, sw, swM, rnB] <;> rfl) (by simp only [go_sem, seval, an_, ar_, ci_, ca_, ae_, ad_, b5_, sw, swM, rnB] <;> rfl)) ?_
   exact Can.weak (Weak.lit (by simp only [go_sem, seval, an_, ar_, ci_, ca_, ae_, ad_, ay_, leV, aw_, ax_, V.inn, us, T9_, Ta_] <;> (simp only [T3_] at h28; exact ⟨by rw [mu_ (by omega)], bx_ (n := ((k + 1 : Nat) : Int)) (by omega) (by omega)⟩)) (by simp only [go_sem, seval, an_, ar_, ci_, ca_, ae_, ad_, ay_, leV, aw_, ax_, V.inn, us, T9_, Ta_]) (by simp only [go_sem, seval, an_, ar_, ci_, ca_, ae_, ad_, ay_, leV, aw_, ax_, V.inn, us, T9_, Ta_] <;> (simp only [T3_] at h28; rw [adg_ (by omega)]; simp [pgR])))
  ·refine .exit (.seq (.rgn [] (by simp only [go_sem, seval, an_, ar_, ci_, ca_, ae_, ad_]; rfl) ?_ ?_))
   ·(first | trivial | (simp; done) | (simp only [T3_] at h12; and_intros <;> omega) | (simp only [T3_] at h28; and_intros <;> omega))
   refine .ret ⟨.inr rfl, ?_⟩
   exact Out.mem' (by simp only [Tryz.results135]; rfl) (by simp only [bd_, bo_, go_sem, seval, an_, ar_, ci_, ca_, ae_, ad_]) (by simp only [bn_, rns, rn, go_sem, seval, an_, ar_, ci_, ca_, ae_, ad_] <;> (simp only [T4_] at h28; rw [vz_ (by omega)])) (by simp) rfl (by decide) (by simp only [go_sem, seval, an_, ar_, ci_, ca_, ae_, ad_]) (by simp only [ar_, go_sem, seval, an_, ar_, ci_, ca_, ae_, ad_]) (by simp only [an_, go_sem, seval, an_, ar_, ci_, ca_, ae_, ad_] <;> (simp only [T4_] at h28; rw [T1_ (by omega)]))
theorem fv_ (e : Pg) (r : List Pg) : pgR (e :: r) = pgC e :: pgR r := rfl
theorem p2_ (l : List Pg) : ∀ r ∈ pgR l, r.length = 4 := fun r hr => by obtain ⟨p, _, rfl⟩ := List.mem_map.1 hr; rfl
theorem ace_ (e : Pg) (r : List Pg) (hl : r.length < 1000000) : ACall En 213 [.sl false (pgR (e :: r))] [] [.ow 0 4 0 (r.length + 1)] [⟨99, 4, pgR (e :: r)⟩] := by
 have hc : ∀ l : List Pg, clr 1 (pgR l) = true := fun l => g4_ _ _ (ad_ l)
 have hcc : cls 1 (pgC e) = true := e2_ _ _ (rr_ e)
 have hrn : rns [17] (pgC e) = pgC e := ez_ _ _ (rr_ e)
 have hrr : rnr [17] (pgR r) = pgR r := cz_ _ _ (ad_ r)
 refine ao_ (fn := Tryz.f213) [17] Tryz.func213 rfl rfl (by simp) fun C => ?_
 rw [bb_]
 simp only [Tryz.ntmps213, T7_, List.length_nil, Nat.reduceAdd, Nat.reduceSub, List.replicate_succ, List.replicate_zero, List.cons_append, List.nil_append, bu_]
 refine .seq (.rgn [] (by simp only [go_sem, seval, fv_, ae_, hc, hcc, hrn, hrr, rnr]; rfl) ?_ ?_)
 ·(first | trivial | (simp; done) | (simp [pgC]; done))
 refine .seq (.seq (.rgnS [4] [nilO En] (by simp only [go_sem, seval, fv_, ae_, hc, hcc, hrn, hrr, rnr]; rfl) ?_ ?_))
 ·(first | trivial | (simp; done) | (simp [pgC]; done))
 refine .condB (by simp only [go_sem, seval, fv_, ae_, hc, hcc, hrn, hrr, rnr]; rfl) (by simp only [go_sem, seval, fv_, ae_, hc, hcc, hrn, hrr, rnr]) (fun h4 => ?_) (fun h4 => ?_)
 ·exact absurd h4 (by simp)
 ·refine .skip (.seq (.rgn [] (by simp only [go_sem, seval, fv_, ae_, hc, hcc, hrn, hrr, rnr]; rfl) ?_ ?_))
  ·refine ⟨p2_ (e :: r), by simp, ?_⟩; omega
  refine .ret ⟨.inr rfl, ?_⟩
  exact Out.mem' (by simp only [Tryz.results213]; rfl) (by simp only [bd_, bo_, go_sem, seval, fv_, ae_, hc, hcc, hrn, hrr, rnr]) (by simp only [bn_, rns, rn, go_sem, seval, fv_, ae_, hc, hcc, hrn, hrr, rnr] <;> (simp)) (by simp) rfl (by decide) (by simp only [go_sem, seval, fv_, ae_, hc, hcc, hrn, hrr, rnr]) (by simp only [ar_, go_sem, seval, fv_, ae_, hc, hcc, hrn, hrr, rnr]) (by simp only [an_, go_sem, seval, fv_, ae_, hc, hcc, hrn, hrr, rnr] <;> ((try rfl)))
theorem aiw_ (l : List Pg) (hl : l.length < 1000000) : ACall En 212 [.ow 0 4 0 l.length] [⟨99, 4, pgR l⟩] [.ow 0 4 0 l.length] [⟨99, 4, pgR l⟩] := by
 refine ao_ (fn := Tryz.f212) [0] Tryz.func212 rfl rfl (by simp) fun C => ?_
 rw [bb_]
 simp only [Tryz.ntmps212, T7_, List.length_nil, Nat.reduceAdd, Nat.reduceSub, List.replicate_succ, List.replicate_zero, List.cons_append, List.nil_append, bu_]
 refine .seq (.rgn [] (by simp only [go_sem, seval, ad_, ae_]; rfl) ?_ ?_)
 ·first | trivial | simp
 refine .seq (.rgn [] (by simp only [go_sem, seval, ad_, ae_]; rfl) ?_ ?_)
 ·first | trivial | simp
 refine .ret ⟨.inr rfl, ?_⟩
 exact Out.mem' (by simp only [Tryz.results212]; rfl) (by simp only [bd_, bo_, go_sem, seval, ad_, ae_]) (by simp only [bn_, rns, rn, go_sem, seval, ad_, ae_] <;> ((try simp))) (by simp) rfl (by decide) (by simp only [go_sem, seval, ad_, ae_]) (by simp only [ar_, go_sem, seval, ad_, ae_]) (by simp only [an_, go_sem, seval, ad_, ae_] <;> ((try simp)))
theorem xl_ (l : List Pg) (h0 : 0 < l.length) (hl : l.length < 1000000) : ACall En 185 [.sl false (pgR l)] [] [.ow 0 4 0 l.length] [⟨99, 4, pgR l⟩] := by
 have CC : ACall En 213 [.sl false (pgR l)] [] [.ow 0 4 0 l.length] [⟨99, 4, pgR l⟩] := by
  cases l with
  | nil => simp at h0
  | cons e r => exact ace_ e r (by simp at hl; omega)
 refine ao_ (fn := Tryz.f185) [14] Tryz.func185 rfl rfl (by simp) fun C => ?_
 rw [bb_]
 simp only [Tryz.ntmps185, T7_, List.length_nil, Nat.reduceAdd, Nat.reduceSub, List.replicate_succ, List.replicate_zero, List.cons_append, List.nil_append, bu_]
 refine .seq (.rgn [] (by simp only [go_sem, seval, ad_, ae_]; rfl) ?_ ?_)
 ·first | trivial | simp
 refine .seq (.rgn [c4_ [] [14] CC, c4_ [14] [] (aiw_ l hl)] (by simp only [go_sem, seval, ad_, ae_]; rfl) ?_ ?_)
 ·first | trivial | simp
 refine .ret ⟨.inr rfl, ?_⟩
 exact Out.mem' (by simp only [Tryz.results185]; rfl) (by simp only [bd_, bo_, go_sem, seval, ad_, ae_]) (by simp only [bn_, rns, rn, go_sem, seval, ad_, ae_] <;> ((try simp))) (by simp) rfl (by decide) (by simp only [go_sem, seval, ad_, ae_]) (by simp only [ar_, go_sem, seval, ad_, ae_]) (by simp only [an_, go_sem, seval, ad_, ae_] <;> ((try simp)))
theorem r2_ (X : List (List Pg)) (h0 : 0 < X.flatten.length) (h1 : X.flatten.length ≤ 100000) (h2 : X.length ≤ 100) : ACall En 135 [.sl false (plR X)] [] [.sl false (pgR X.flatten)] [] :=
 (agr_ X h0 h1 h2).frz1 (by simp [gi_, frz, ae_, T1_])
theorem ah4_ {l : List Pg} {k : Nat} (h : k < l.length) : (pgR l).set k [.s (l.getD k Pg0).line, .b (l.getD k Pg0).good, .s (l.getD k Pg0).text, .sl false (inR (l.getD k Pg0).frm)] = pgR l := by
 refine List.ext_getElem (by simp) fun j h1 h2 => ?_
 rw [List.getElem_set]
 split
 ·rename_i e; subst e
  have := eg_ h
  rw [T8_, T6_ h2] at this
  exact this.symm
 ·rfl
theorem alo_ {l : List Pg} {k z n : Nat} {rows : List (List V)} {a t : Str} {g : Bool} (hn : n = rows.length) : hh_ 29 z rows ((pgR l).set k [.s a, .b g, .s t, .ow 29 z 0 n]) = (pgR l).set k [.s a, .b g, .s t, .sl false rows] := by
 have h : ∀ (L : List (List V)) (i : Nat) (r : List V), hh_ 29 z rows (L.set i r) = (hh_ 29 z rows L).set i (gi_ 29 z rows r) := by
  intro L
  induction L with
  | nil => intro i r; rfl
  | cons x L ih =>
   intro i r
   cases i with
   | zero => rfl
   | succ i => simp only [List.set_cons_succ, hh_, ih]
 rw [h, iz_ _ (ad_ l)]
 congr 1
 subst hn
 simp [gi_, frz, T1_]
theorem y8_ (l : List Pg) (h0 : 0 < l.length) (hl : l.length ≤ 100000) (hs : ∀ p ∈ l, pgB p) : ACall En 134 [.sl false (pgR l)] [] [.sl false (pgR l)] [] := by
 refine ao_ (fn := Tryz.f134) [] Tryz.func134 rfl rfl (by simp) fun C => ?_
 rw [bb_]
 simp only [Tryz.ntmps134, T7_, List.length_nil, Nat.reduceAdd, Nat.reduceSub, List.replicate_succ, List.replicate_zero, List.cons_append, List.nil_append, bu_]
 refine .seq (.rgn [] (by simp only [go_sem, seval, an_, ar_, ae_, ad_, aj_, ac_, ah_]; rfl) ?_ ?_)
 ·(first | trivial | (simp; done) | (simp only [T3_] at h11; and_intros <;> first | omega | (simp; done)))
 refine .seq (.rgn [c4_ [] [17] (xl_ l h0 (by omega))] (by simp only [go_sem, seval, an_, ar_, ae_, ad_, aj_, ac_, ah_]; rfl) ?_ ?_)
 ·(first | trivial | (simp; done) | (simp only [T3_] at h11; and_intros <;> first | omega | (simp; done)))
 refine .seq (.seq (.rgn [] (by simp only [go_sem, seval, an_, ar_, ae_, ad_, aj_, ac_, ah_]; rfl) ?_ ?_))
 ·(first | trivial | (simp; done) | (simp only [T3_] at h11; and_intros <;> first | omega | (simp; done)))
 refine .block (.loopK (fun k : Nat => ⟨[.no, .no, .no, .ow 17 4 0 l.length, .no, .no, .no, .no, .sl false (pgR l), .i .i64 l.length, .i .i64 k, .no, .no, .no, .no, .no, .no, .no, .no, .no, .no, .no, .no, .no], bk_ [(17, ⟨99, 4, pgR l⟩)], us [17]⟩) (fun k : Nat => k ≤ l.length) (fun k : Nat => l.length - k) (0) ?_ ?_ (fun k hI => ?_))
 ·simp
 ·exact Can.weak (Weak.lit (by simp only [go_sem, seval, an_, ar_, ae_, ad_, aj_, ac_, ah_, ay_, leV, aw_, ax_, V.inn, us, T9_, Ta_] <;> ((try simp))) (by simp only [go_sem, seval, an_, ar_, ae_, ad_, aj_, ac_, ah_, ay_, leV, aw_, ax_, V.inn, us, T9_, Ta_]) (by simp only [go_sem, seval, an_, ar_, ae_, ad_, aj_, ac_, ah_, ay_, leV, aw_, ax_, V.inn, us, T9_, Ta_]))
 refine .seq (.rgn [] (by simp only [go_sem, seval, an_, ar_, ae_, ad_, aj_, ac_, ah_]; rfl) ?_ ?_)
 ·(first | trivial | (simp; done) | (simp only [T3_] at h11; and_intros <;> first | omega | (simp; done)))
 refine .seq (.condB (by simp only [go_sem, seval, an_, ar_, ae_, ad_, aj_, ac_, ah_]; rfl) (by simp only [go_sem, seval, an_, ar_, ae_, ad_, aj_, ac_, ah_]) (fun h11 => ?_) (fun h11 => ?_))
 ·refine .skip (.seq (.block (.seq (.rgn [] (by simp only [go_sem, seval, an_, ar_, ae_, ad_, aj_, ac_, ah_, eg_ (show k < l.length by simpa using h11)]; rfl) ?_ ?_))))
  ·(first | trivial | (simp; done) | (simp only [T3_] at h11; and_intros <;> first | omega | (simp; done)))
  refine .rgn [aec_ [] [29] (k < l.length) (fun h => p8_ (l.getD k Pg0).frm (by have := (hs _ (b3_ (d := Pg0) h)).2.2; omega))] (by simp only [go_sem, seval, an_, ar_, ae_, ad_, aj_, ac_, ah_, eg_ (show k < l.length by simpa using h11)]; rfl) ?_ ?_
  ·(first | trivial | (simp; done) | (simp only [T3_] at h11; and_intros <;> first | omega | (simp; done)))
  refine .rgn [] (by simp only [go_sem, seval, an_, ar_, ae_, ad_, aj_, ac_, ah_]; rfl) ?_ ?_
  ·(first | trivial | (simp; done) | (simp only [T3_] at h11; and_intros <;> first | omega | (simp; done)))
  refine Exists.intro (k + 1) ⟨?_, ?_, ?_⟩
  ·simp at h11; omega
  ·simp at h11; omega
  refine Can.trans (Can.frz 29 (by simp only [go_sem, seval, an_, ar_, ae_, ad_, aj_, ac_, ah_] <;> rfl) (by simp only [go_sem, seval, an_, ar_, ae_, ad_, aj_, ac_, ah_]) (by simp only [go_sem, seval, an_, ar_, ae_, ad_, aj_, ac_, ah_] <;> rfl) (by simp only [go_sem, seval, an_, ar_, ae_, ad_, aj_, ac_, ah_] <;> rfl)) ?_
  exact Can.weak (Weak.lit (by simp only [go_sem, seval, an_, ar_, ae_, ad_, aj_, ac_, ah_, ay_, leV, aw_, ax_, V.inn, us, T9_, Ta_] <;> (rw [bx_ (by simp at h11; omega) (by simp at h11; omega)]; (try simp))) (by simp only [go_sem, seval, an_, ar_, ae_, ad_, aj_, ac_, ah_, ay_, leV, aw_, ax_, V.inn, us, T9_, Ta_]) (by simp only [go_sem, seval, an_, ar_, ae_, ad_, aj_, ac_, ah_, ay_, leV, aw_, ax_, V.inn, us, T9_, Ta_] <;> (simp only [T3_] at h11; rw [alo_ (by rw [ah_]), ah4_ (by omega)])))
 ·refine .exit (.seq (.rgn [] (by simp only [go_sem, seval, an_, ar_, ae_, ad_, aj_, ac_, ah_]; rfl) ?_ ?_))
  ·(first | trivial | (simp; done) | (simp only [T3_] at h11; and_intros <;> first | omega | (simp; done)))
  refine .frz 17 (by simp only [go_sem, seval, an_, ar_, ae_, ad_, aj_, ac_, ah_]; rfl) (by simp only [go_sem, seval, an_, ar_, ae_, ad_, aj_, ac_, ah_]) (by simp only [go_sem, seval, an_, ar_, ae_, ad_, aj_, ac_, ah_]; rfl) (by simp only [go_sem, seval, an_, ar_, ae_, ad_, aj_, ac_, ah_]; rfl) ?_
  refine .ret ⟨.inr rfl, ?_⟩
  exact Out.plain (by simp only [Tryz.results134]; rfl) (by simp only [bd_, bo_, go_sem, seval, an_, ar_, ae_, ad_, aj_, ac_, ah_] <;> (split <;> rfl)) (by simp only [bn_, go_sem, seval, an_, ar_, ae_, ad_, aj_, ac_, ah_] <;> (simp [T1_, ae_, peel])) (by simp only [go_sem, seval, an_, ar_, ae_, ad_, aj_, ac_, ah_])
theorem vy_ (l : List Pg) (n : Nat) : (pgR l).take n = pgR (l.take n) := by simp [pgR, List.map_take]
theorem xg_ (l : List Pg) (n : Nat) : (pgR l).drop n = pgR (l.drop n) := by simp [pgR, List.map_drop]
theorem ll_ (l : List Pg) (a : Int) (d : Nat) (ls : List Str) (hs : ∀ p ∈ l, pgB p) (hl : l.length ≤ 2000000) (ha : -9223372036854775808 ≤ a) (ha2 : a < 9223372036854775808) (hd : d ≤ 1) (hls : ∀ s ∈ ls, s.length ≤ 2000000) (hn : ls.length ≤ 1) : ACall En 82 [.sl false (pgR l), .i .i64 a, .i .i64 d, .sl false (cb_ ls)] [] [.sl false (pgR (chg l a d ls)), .b (cg_ l a d ls)] [] := by
 have hw1 : IntKind.i64.wrap ((l.length : Int) - d) = (l.length : Int) - d := by rw [bx_ (by omega) (by omega)]
 have hw2 : IntKind.i64.wrap ((l.length : Int) - d + ls.length) = (l.length : Int) - d + ls.length := by rw [bx_ (by omega) (by omega)]
 have hw3 : cg_ l a d ls = true → IntKind.i64.wrap (a + d) = a + d := fun h => by obtain ⟨q1, q2, q3, q4, q5, q6⟩ := dh_ h; rw [bx_ (by omega) (by omega)]
 have hO : cg_ l a d ls = (((g5_ l && (decide (0 ≤ a) && decide (a ≤ (l.length : Int) - d))) && ls.all fr_) && (decide (1 ≤ (l.length : Int) - d + ls.length) && decide ((l.length : Int) - d + ls.length ≤ 16))) := rfl
 have hC1 : cg_ l a d ls = true → 0 < (h8_ l a.toNat d ls).length := fun h => by
  obtain ⟨q1, q2, q3, q4, q5, q6⟩ := dh_ h
  rw [jv_ (by omega)]; omega
 have hC2 : cg_ l a d ls = true → (h8_ l a.toNat d ls).length ≤ 100000 := fun h => by
  obtain ⟨q1, q2, q3, q4, q5, q6⟩ := dh_ h
  rw [jv_ (by omega)]; omega
 have hfl : [l.take a.toNat, ls.map e8_, l.drop (a.toNat + d)].flatten = h8_ l a.toNat d ls := by simp [h8_]
 have hF1 : cg_ l a d ls = true → 0 < [l.take a.toNat, ls.map e8_, l.drop (a.toNat + d)].flatten.length := fun h => by rw [hfl]; exact hC1 h
 have hF2 : cg_ l a d ls = true → [l.take a.toNat, ls.map e8_, l.drop (a.toNat + d)].flatten.length ≤ 100000 := fun h => by rw [hfl]; exact hC2 h
 have hN : ∀ x : Bool, (!g5_ l || !(decide (0 ≤ a) && decide (a ≤ (l.length : Int) - d)) || !ls.all fr_ || !(decide (1 ≤ (l.length : Int) - d + ls.length) && decide ((l.length : Int) - d + ls.length ≤ 16))) = x → cg_ l a d ls = !x := fun x h => by
  rw [hO, ← h, ← Bool.not_and, ← Bool.not_and, ← Bool.not_and, Bool.not_not]
 have hall : (ls.any fun p => !fr_ p) = !ls.all fr_ := by rw [List.any_eq_not_all_not]; simp
 refine ao_ (fn := Tryz.f82) [] Tryz.func82 rfl rfl (by simp) fun C => ?_
 rw [bb_]
 simp only [Tryz.ntmps82, T7_, List.length_nil, Nat.reduceAdd, Nat.reduceSub, List.replicate_succ, List.replicate_zero, List.cons_append, List.nil_append, bu_]
 refine .seq (.rgn [] (by simp only [go_sem, seval, an_, ar_, ae_, ad_, aj_, ac_, ab_, aa_, hw1, hw2, hall]; rfl) ?_ ?_)
 ·(first | trivial | (simp; done) | (simp only [T3_] at h43; and_intros <;> first | omega | (simp; done) | (simp; omega)))
 refine .seq (.seq (.rgn [bj_ (so_ l hs (by omega)), bj_ (uh_ a 0 ((l.length : Int) - d)), bj_ (wo_ ls (fun s h => by have := hls s h; omega) (by omega)), bj_ (uh_ ((l.length : Int) - d + ls.length) 1 16)] (by simp only [go_sem, seval, an_, ar_, ae_, ad_, aj_, ac_, ab_, aa_, hw1, hw2, hall]; rfl) ?_ ?_))
 ·(first | trivial | (simp; done) | (simp only [T3_] at h43; and_intros <;> first | omega | (simp; done) | (simp; omega)))
 refine .condB (by simp only [go_sem, seval, an_, ar_, ae_, ad_, aj_, ac_, ab_, aa_, hw1, hw2, hall]; rfl) (by simp only [go_sem, seval, an_, ar_, ae_, ad_, aj_, ac_, ab_, aa_, hw1, hw2, hall]) (fun h39 => ?_) (fun h39 => ?_)
 ·refine .seq (.rgn [] (by simp only [go_sem, seval, an_, ar_, ae_, ad_, aj_, ac_, ab_, aa_, hw1, hw2, hall]; rfl) ?_ ?_)
  ·(first | trivial | (simp; done) | (simp only [T3_] at h43; and_intros <;> first | omega | (simp; done) | (simp; omega)))
  refine .ret ⟨.inr rfl, ?_⟩
  exact Out.plainL (by simp only [Tryz.results82]; rfl) (by simp only [bd_, bo_, go_sem, seval, an_, ar_, ae_, ad_, aj_, ac_, ab_, aa_, hw1, hw2, hall] <;> (split <;> rfl)) (by simp only [bn_, go_sem, seval, an_, ar_, ae_, ad_, aj_, ac_, ab_, aa_, hw1, hw2, hall] <;> (have e : cg_ l a d ls = false := (by rw [hN _ h39]; rfl); rw [j6_ e, e]; simp [les, leV, ler, pgR])) (by simp only [go_sem, seval, an_, ar_, ae_, ad_, aj_, ac_, ab_, aa_, hw1, hw2, hall])
 ·refine .skip (.seq (.rgn [] (by simp only [go_sem, seval, an_, ar_, ae_, ad_, aj_, ac_, ab_, aa_, hw1, hw2, hall]; rfl) ?_ ?_))
  ·(first | trivial | (simp; done) | (simp only [T3_] at h43; and_intros <;> first | omega | (simp; done) | (simp; omega)))
  refine .seqJ (fun u : Unit => ⟨[.sl false (pgR l), .i .i64 a, .i .i64 d, .no, .no, .no, .no, .no, .no, .no, .sl false (pgR (ls.map e8_)), .no, .no, .no, .no, .no, .no, .no, .no, .no, .no, .no, .no, .no, .no, .no, .no, .no, .no, .no, .no, .no, .no, .no, .no, .no, .no, .no, .no, .no, .no, .no, .no, .no, .no, .no, .no, .no, .no, .no, .no, .no, .no, .no, .no, .no, .no, .no, .no, .no, .no, .no, .no, .no], bk_ [], us []⟩) (fun u : Unit => cg_ l a d ls = true) ?_ (fun u hJ => ?_)
  ·refine .seq (.rgn [] (by simp only [go_sem, seval, an_, ar_, ae_, ad_, aj_, ac_, ab_, aa_, hw1, hw2, hall]; rfl) ?_ ?_)
   ·(first | trivial | (simp; done) | (simp only [T3_] at h43; and_intros <;> first | omega | (simp; done) | (simp; omega)))
   refine .block (.loopK (fun k : Nat => ⟨[.sl false (pgR l), .i .i64 a, .i .i64 d, .no, .no, .no, .no, .no, .no, .no, .ow 100 4 0 k, .no, .no, .no, .no, .no, .no, .no, .no, .no, .no, .no, .no, .no, .no, .no, .no, .no, .no, .no, .no, .no, .no, .no, .no, .no, .no, .no, .no, .no, .sl false (cb_ ls), .i .i64 ls.length, .i .i64 k, .no, .no, .no, .no, .no, .no, .no, .no, .no, .no, .no, .no, .no, .no, .no, .no, .no, .no, .no, .no, .no], bk_ [(100, ⟨99, 4, pgR ((ls.take k).map e8_)⟩)], us [100]⟩) (fun k : Nat => k ≤ ls.length ∧ cg_ l a d ls = true) (fun k : Nat => ls.length - k) (0) ?_ ?_ (fun k hI => ?_))
   ·exact ⟨Nat.zero_le _, by rw [hN _ h39]; rfl⟩
   ·refine Can.trans (Can.ownSlot 10 100 99 4 (by simp only [go_sem, seval, an_, ar_, ae_, ad_, aj_, ac_, ab_, aa_, hw1, hw2, hall] <;> rfl) (by simp only [go_sem, seval, an_, ar_, ae_, ad_, aj_, ac_, ab_, aa_, hw1, hw2, hall]) (by simp only [go_sem, seval, an_, ar_, ae_, ad_, aj_, ac_, ab_, aa_, hw1, hw2, hall] <;> rfl)) ?_
    exact Can.weak (Weak.lit (by simp only [go_sem, seval, an_, ar_, ae_, ad_, aj_, ac_, ab_, aa_, hw1, hw2, hall, ay_, leV, aw_, ax_, V.inn, us, T9_, Ta_] <;> ((try simp))) (by simp only [go_sem, seval, an_, ar_, ae_, ad_, aj_, ac_, ab_, aa_, hw1, hw2, hall, ay_, leV, aw_, ax_, V.inn, us, T9_, Ta_]) (by simp only [go_sem, seval, an_, ar_, ae_, ad_, aj_, ac_, ab_, aa_, hw1, hw2, hall, ay_, leV, aw_, ax_, V.inn, us, T9_, Ta_] <;> ((try simp [pgR]))))
   refine .seq (.rgn [] (by simp only [go_sem, seval, an_, ar_, ae_, ad_, aj_, ac_, ab_, aa_, hw1, hw2, hall]; rfl) ?_ ?_)
   ·(first | trivial | (simp; done) | (simp only [T3_] at h43; and_intros <;> first | omega | (simp; done) | (simp; omega)))
   refine .seq (.condB (by simp only [go_sem, seval, an_, ar_, ae_, ad_, aj_, ac_, ab_, aa_, hw1, hw2, hall]; rfl) (by simp only [go_sem, seval, an_, ar_, ae_, ad_, aj_, ac_, ab_, aa_, hw1, hw2, hall]) (fun h43 => ?_) (fun h43 => ?_))
   ·refine .skip (.seq (.block (.seq (.rgn [] (by simp only [go_sem, seval, an_, ar_, ae_, ad_, aj_, ac_, ab_, aa_, hw1, hw2, hall, db_ (show k < ls.length by simpa using h43)]; rfl) ?_ ?_))))
    ·(first | trivial | (simp; done) | (simp only [T3_] at h43; and_intros <;> first | omega | (simp; done) | (simp; omega)))
    refine .rgn [dc_ (k < ls.length) (fun h => n4_ (ls.getD k []) (by have := hls _ (b3_ (d := []) h); omega))] (by simp only [go_sem, seval, an_, ar_, ae_, ad_, aj_, ac_, ab_, aa_, hw1, hw2, hall]; rfl) ?_ ?_
    ·(first | trivial | (simp; done) | (simp only [T3_] at h43; and_intros <;> first | omega | (simp; done) | (simp; omega)))
    refine .rgn [] (by simp only [go_sem, seval, an_, ar_, ae_, ad_, aj_, ac_, ab_, aa_, hw1, hw2, hall]; rfl) ?_ ?_
    ·(first | trivial | (simp; done) | (simp only [T3_] at h43; and_intros <;> first | omega | (simp; done) | (simp; omega)))
    refine Exists.intro (k + 1) ⟨?_, ?_, ?_⟩
    ·simp at h43; exact ⟨by omega, hI.2⟩
    ·simp at h43; omega
    refine Can.trans (Can.swap 60 100 (by decide) (by decide) (by decide) (by decide) (by simp only [go_sem, seval, an_, ar_, ae_, ad_, aj_, ac_, ab_, aa_, hw1, hw2, hall, V.cl]) (by simp only [go_sem, seval, an_, ar_, ae_, ad_, aj_, ac_, ab_, aa_, hw1, hw2, hall, V.cl]) (by simp only [go_sem, seval, an_, ar_, ae_, ad_, aj_, ac_, ab_, aa_, hw1, hw2, hall, b5_, sw, swM, rnB] <;> rfl) (by simp only [go_sem, seval, an_, ar_, ae_, ad_, aj_, ac_, ab_, aa_, hw1, hw2, hall, b5_, sw, swM, rnB] <;> rfl) (by simp only [go_sem, seval, an_, ar_, ae_, ad_, aj_, ac_, ab_, aa_, hw1, hw2, hall, b5_, sw, swM, rnB] <;> rfl)) ?_
    exact Can.weak (Weak.lit (by simp only [go_sem, seval, an_, ar_, ae_, ad_, aj_, ac_, ab_, aa_, hw1, hw2, hall, ay_, leV, aw_, ax_, V.inn, us, T9_, Ta_] <;> (rw [bx_ (by simp at h43; omega) (by simp at h43; omega)]; (try simp))) (by simp only [go_sem, seval, an_, ar_, ae_, ad_, aj_, ac_, ab_, aa_, hw1, hw2, hall, ay_, leV, aw_, ax_, V.inn, us, T9_, Ta_]) (by simp only [go_sem, seval, an_, ar_, ae_, ad_, aj_, ac_, ab_, aa_, hw1, hw2, hall, ay_, leV, aw_, ax_, V.inn, us, T9_, Ta_] <;> (rw [bkTk (by simpa using h43), aj_])))
   ·refine .exit ?_
    refine Exists.intro (()) ⟨?_, ?_⟩
    ·exact hI.2
    refine Can.trans (Can.frz 100 (by simp only [go_sem, seval, an_, ar_, ae_, ad_, aj_, ac_, ab_, aa_, hw1, hw2, hall] <;> rfl) (by simp only [go_sem, seval, an_, ar_, ae_, ad_, aj_, ac_, ab_, aa_, hw1, hw2, hall]) (by simp only [go_sem, seval, an_, ar_, ae_, ad_, aj_, ac_, ab_, aa_, hw1, hw2, hall] <;> rfl) (by simp only [go_sem, seval, an_, ar_, ae_, ad_, aj_, ac_, ab_, aa_, hw1, hw2, hall] <;> rfl)) ?_
    exact Can.weak (Weak.lit (by simp only [go_sem, seval, an_, ar_, ae_, ad_, aj_, ac_, ab_, aa_, hw1, hw2, hall, ay_, leV, aw_, ax_, V.inn, us, T9_, Ta_] <;> (simp only [T4_] at h43; (obtain rfl : k = ls.length := (by omega)); simp [T1_, ae_, leV, by_])) (by simp only [go_sem, seval, an_, ar_, ae_, ad_, aj_, ac_, ab_, aa_, hw1, hw2, hall, ay_, leV, aw_, ax_, V.inn, us, T9_, Ta_]) (by simp only [go_sem, seval, an_, ar_, ae_, ad_, aj_, ac_, ab_, aa_, hw1, hw2, hall, ay_, leV, aw_, ax_, V.inn, us, T9_, Ta_]))
  refine .seq (.rgnD [dc_ (cg_ l a d ls = true) (fun h => r2_ [l.take a.toNat, ls.map e8_, l.drop (a.toNat + d)] (hF1 h) (hF2 h) (by simp)), dc_ (cg_ l a d ls = true) (fun h => y8_ (h8_ l a.toNat d ls) (hC1 h) (hC2 h) (adf_ hs hls))] enM (by simp only [go_sem, seval, an_, ar_, ae_, ad_, aj_, ac_, ab_, aa_, hw1, hw2, hall, hw3 hJ, plR, List.map_cons, List.map_nil, T7_, List.length_nil, vy_, xg_, List.drop_zero, List.take_length, Int.toNat_natCast, show (a + (d : Int)).toNat = a.toNat + d by have := (dh_ hJ).2.1; omega]; rfl) (by rfl) ?_ ?_)
  ·obtain ⟨q1, q2, q3, q4, q5, q6⟩ := dh_ hJ; refine ⟨⟨⟨⟨by omega, by omega, by omega, fun h => absurd rfl h⟩, ⟨by omega, by omega, by omega⟩, .inr (p2_ l)⟩, hJ⟩, by rw [hfl]; exact by_ _, hJ⟩
  refine .ret ⟨.inr rfl, ?_⟩
  exact Out.plainL (by simp only [Tryz.results82]; rfl) (by simp only [bd_, bo_, go_sem, seval, an_, ar_, ae_, ad_, aj_, ac_, ab_, aa_, hw1, hw2, hall] <;> (split <;> rfl)) (by simp only [bn_, go_sem, seval, an_, ar_, ae_, ad_, aj_, ac_, ab_, aa_, hw1, hw2, hall] <;> (rw [k9_ hJ, hJ]; simp [les, leV, by_])) (by simp only [go_sem, seval, an_, ar_, ae_, ad_, aj_, ac_, ab_, aa_, hw1, hw2, hall])
theorem u9_ (l : List Pg) (a : Int) (w : Str) (hs : ∀ p ∈ l, pgB p) (hl : l.length ≤ 2000000) (ha : -9223372036854775808 ≤ a) (ha2 : a < 9223372036854775808) (hw : w.length ≤ 2000000) : ACall En 32 [.sl false (pgR l), .i .i64 a, .s w] [] [.sl false (pgR (chg l a 1 [w])), .b (cg_ l a 1 [w])] [] := by
 refine ao_ (fn := Tryz.f32) [] Tryz.func32 rfl rfl (by simp) fun C => ?_
 rw [bb_]
 simp only [Tryz.ntmps32, T7_, List.length_nil, Nat.reduceAdd, Nat.reduceSub, List.replicate_succ, List.replicate_zero, List.cons_append, List.nil_append, bu_]
 refine .seq (.rgn [] (by simp only [go_sem, seval, ad_, aa_]; rfl) ?_ ?_)
 ·first | trivial | simp
 refine .seq (.rgn [bj_ (ll_ l a 1 [w] hs hl ha ha2 (by decide) (by simpa using hw) (by simp))] (by simp only [go_sem, seval, ad_, aa_]; rfl) ?_ ?_)
 ·first | trivial | simp
 refine .ret ⟨.inr rfl, ?_⟩
 exact Out.plain (by simp only [Tryz.results32]; rfl) (by simp only [bd_, bo_, go_sem, seval, ad_, aa_] <;> (split <;> rfl)) (by simp only [bn_, go_sem, seval, ad_, aa_] <;> (simp_all)) (by simp only [go_sem, seval, ad_, aa_])
theorem y9_ (l : List Pg) (a : Int) (w : Str) (hs : ∀ p ∈ l, pgB p) (hl : l.length ≤ 2000000) (ha : -9223372036854775808 ≤ a) (ha2 : a < 9223372036854775808) (hw : w.length ≤ 2000000) : ACall En 34 [.sl false (pgR l), .i .i64 a, .s w] [] [.sl false (pgR (chg l a 0 [w])), .b (cg_ l a 0 [w])] [] := by
 refine ao_ (fn := Tryz.f34) [] Tryz.func34 rfl rfl (by simp) fun C => ?_
 rw [bb_]
 simp only [Tryz.ntmps34, T7_, List.length_nil, Nat.reduceAdd, Nat.reduceSub, List.replicate_succ, List.replicate_zero, List.cons_append, List.nil_append, bu_]
 refine .seq (.rgn [] (by simp only [go_sem, seval, ad_, aa_]; rfl) ?_ ?_)
 ·first | trivial | simp
 refine .seq (.rgn [bj_ (ll_ l a 0 [w] hs hl ha ha2 (by decide) (by simpa using hw) (by simp))] (by simp only [go_sem, seval, ad_, aa_]; rfl) ?_ ?_)
 ·first | trivial | simp
 refine .ret ⟨.inr rfl, ?_⟩
 exact Out.plain (by simp only [Tryz.results34]; rfl) (by simp only [bd_, bo_, go_sem, seval, ad_, aa_] <;> (split <;> rfl)) (by simp only [bn_, go_sem, seval, ad_, aa_] <;> (simp_all)) (by simp only [go_sem, seval, ad_, aa_])
theorem ws_ (l : List Pg) (a : Int) (hs : ∀ p ∈ l, pgB p) (hl : l.length ≤ 2000000) (ha : -9223372036854775808 ≤ a) (ha2 : a < 9223372036854775808) : ACall En 36 [.sl false (pgR l), .i .i64 a] [] [.sl false (pgR (chg l a 1 [])), .b (cg_ l a 1 [])] [] := by
 refine ao_ (fn := Tryz.f36) [] Tryz.func36 rfl rfl (by simp) fun C => ?_
 rw [bb_]
 simp only [Tryz.ntmps36, T7_, List.length_nil, Nat.reduceAdd, Nat.reduceSub, List.replicate_succ, List.replicate_zero, List.cons_append, List.nil_append, bu_]
 refine .seq (.rgn [] (by simp only [go_sem, seval, ad_, aa_]; rfl) ?_ ?_)
 ·first | trivial | simp
 refine .seq (.rgn [bj_ (ll_ l a 1 [] hs hl ha ha2 (by decide) (fun s h => by cases h) (by simp))] (by simp only [go_sem, seval, ad_, aa_]; rfl) ?_ ?_)
 ·first | trivial | simp
 refine .ret ⟨.inr rfl, ?_⟩
 exact Out.plain (by simp only [Tryz.results36]; rfl) (by simp only [bd_, bo_, go_sem, seval, ad_, aa_] <;> (split <;> rfl)) (by simp only [bn_, go_sem, seval, ad_, aa_] <;> (simp_all)) (by simp only [go_sem, seval, ad_, aa_])
end
section
set_option maxRecDepth 100000
set_option maxHeartbeats 4000000
theorem aj1_ (s : Str) : (tOk s && ((spl s).length : Int) == 1) = fr_ s := by
 have h := r7_ s
 have hn := adw_ s
 have h1 : 0 < (spl s).length := List.length_pos_iff.2 hn
 rw [← Bool.not_inj_iff, ← h, Bool.not_and]
 congr 1
 rw [Bool.eq_iff_iff]
 simp only [Bool.not_eq_true', beq_eq_false_iff_ne, T3_]
 omega
theorem cr_ (l : List Pg) (n : Nat) : (pgR l).take n = pgR (l.take n) := by simp [pgR, List.map_take]
theorem cu_ (l : List Pg) (n : Nat) : (pgR l).drop n = pgR (l.drop n) := by simp [pgR, List.map_drop]
theorem aj6_ {l : List Pg} {k : Nat} (h : k < l.length) : pgR (l.take (k + 1)) = pgR (l.take k) ++ [pgC (l.getD k Pg0)] := by
 rw [List.take_add_one, T6_ h, T8_, T6_ h]; unfold pgR; rw [List.map_append]; rfl
theorem ce_ (l : List Pg) : (pgR l).take l.length = pgR l := T1_ (by rw [ae_]; exact Nat.le_refl _)
theorem cs_ (l : List Pg) (n : Nat) : ((pgR l).getD n []).drop 4 = [] := by
 rcases Nat.lt_or_ge n l.length with h | h
 ·rw [eg_ h]; rfl
 ·rw [T8_, List.getElem?_eq_none (by rw [ae_]; exact h)]; rfl
theorem cq_ (l : List Pg) (p : Pg) : pgR l ++ [[.s p.line, .b p.good, .s p.text, .sl false (inR p.frm)]] = pgR (l ++ [p]) := by simp [pgR, pgC]
theorem ct_ (a b : List Pg) : pgR a ++ pgR b = pgR (a ++ b) := by simp [pgR]
theorem gp_ (l : List Pg) : ∀ r ∈ pgR l, r.length = 4 := fun r hr => by obtain ⟨p, _, rfl⟩ := List.mem_map.1 hr; rfl
theorem dd_ {L : List Pg} {f : List Int} {a t : Str} {g : Bool} : hh_ 33 1 (inR f) (pgR L ++ [[.s a, .b g, .s t, .ow 33 1 0 f.length]]) = pgR (L ++ [⟨a, g, t, f⟩]) := by
 have h : ∀ A B : List (List V), hh_ 33 1 (inR f) (A ++ B) = hh_ 33 1 (inR f) A ++ hh_ 33 1 (inR f) B := by
  intro A B
  induction A with
  | nil => rfl
  | cons x A ih => simp only [List.cons_append, hh_, ih]
 rw [h, iz_ _ (ad_ L), ← cq_]
 congr 1
 simp [hh_, gi_, frz, ah_, T1_]
theorem on_ (l : List Pg) (a : Int) (w : Str) : cg_ l a 1 [w] = !(!g5_ l || decide (a < 0) || decide (a ≥ (l.length : Int)) || !fr_ w) := by
 rw [Bool.eq_iff_iff, ii_]
 simp only [Bool.not_eq_true', Bool.or_eq_false_iff, Bool.not_eq_false', T4_]
 exact ⟨fun ⟨h1, h2, h3, h4⟩ => ⟨⟨⟨h1, by omega⟩, by omega⟩, h4⟩, fun ⟨⟨⟨h1, h2⟩, h3⟩, h4⟩ => ⟨h1, by omega, by omega, h4⟩⟩
theorem y3_ (l : List Pg) (a : Int) (w : Str) : cg_ l a 0 [w] = !(!g5_ l || decide (a < 0) || decide (a > (l.length : Int)) || !fr_ w || decide ((l.length : Int) ≥ 16)) := by
 rw [Bool.eq_iff_iff, oc_]
 simp only [Bool.not_eq_true', Bool.or_eq_false_iff, Bool.not_eq_false', T4_]
 exact ⟨fun ⟨h1, h2, h3, h4, h5⟩ => ⟨⟨⟨⟨h1, by omega⟩, by omega⟩, h4⟩, by omega⟩, fun ⟨⟨⟨⟨h1, h2⟩, h3⟩, h4⟩, h5⟩ => ⟨h1, by omega, by omega, h4, by omega⟩⟩
theorem qc_ (l : List Pg) (a : Int) : cg_ l a 1 [] = !(!g5_ l || decide (a < 0) || decide (a ≥ (l.length : Int)) || decide ((l.length : Int) < 2)) := by
 rw [Bool.eq_iff_iff, kg_]
 simp only [Bool.not_eq_true', Bool.or_eq_false_iff, Bool.not_eq_false', T4_]
 exact ⟨fun ⟨h1, h2, h3, h4⟩ => ⟨⟨⟨h1, by omega⟩, by omega⟩, by omega⟩, fun ⟨⟨⟨h1, h2⟩, h3⟩, h4⟩ => ⟨h1, by omega, by omega, by omega⟩⟩
theorem sa_ (s : Str) (hs : s.length ≤ 281474976710656) : ACall En 79 [.s s] [] [.b (fr_ s)] [] := by
 refine ao_ (fn := Tryz.f79) [] Tryz.func79 rfl rfl (by simp) fun C => ?_
 rw [bb_]
 simp only [Tryz.ntmps79, T7_, List.length_nil, Nat.reduceAdd, Nat.reduceSub, List.replicate_succ, List.replicate_zero, List.cons_append, List.nil_append, bu_]
 refine .seq (.rgn [] (by simp only [go_sem, seval, ab_, aa_]; rfl) ?_ ?_)
 ·first | trivial | simp
 refine .seq (.rgn [bj_ (nu_ s hs), dc_ (tOk s = true) (fun h => qw_ s (ts_ h))] (by simp only [go_sem, seval, ab_, aa_]; rfl) ?_ ?_)
 ·first | trivial | simp
 refine .ret ⟨.inr rfl, ?_⟩
 exact Out.plain (by simp only [Tryz.results79]; rfl) (by simp only [bd_, bo_, go_sem, seval, ab_, aa_] <;> (split <;> rfl)) (by simp only [bn_, go_sem, seval, ab_, aa_] <;> (rw [aj1_])) (by simp only [go_sem, seval, ab_, aa_])
theorem h0_ (l : List Pg) (hs : ∀ p ∈ l, pgB p) (hl : l.length ≤ 2000000) : ACall En 80 [.sl false (pgR l)] [] [.ow 0 4 0 l.length] [⟨99, 4, pgR l⟩] := by
 have hc : ∀ l : List Pg, clr 200 (pgR l) = true := fun l => g4_ _ _ (ad_ l)
 have hi : ∀ l : List Int, clr 200 (inR l) = true := fun l => g4_ _ _ (ac_ l)
 have hi2 : ∀ l : List Int, (inR l).take l.length = inR l := fun l => T1_ (by rw [ah_]; exact Nat.le_refl _)
 have hr : ∀ l : List Pg, rnr (swL 38 80) (pgR l) = pgR l := fun l => cz_ _ _ (ad_ l)
 refine ao_ (fn := Tryz.f80) [80] Tryz.func80 rfl rfl (by simp) fun C => ?_
 rw [bb_]
 simp only [Tryz.ntmps80, T7_, List.length_nil, Nat.reduceAdd, Nat.reduceSub, List.replicate_succ, List.replicate_zero, List.cons_append, List.nil_append, bu_]
 refine .seq (.rgn [] (by simp only [go_sem, seval, an_, ar_, ae_, ad_, aj_, ac_, ah_, hc, hi, hi2, hr, dd_]; rfl) ?_ ?_)
 ·(first | trivial | (simp; done) | (simp only [T3_] at h10; have q := (hs _ (b3_ (d := Pg0) (show k < l.length by omega))).2.2; and_intros <;> first | omega | (simp; done) | (simp; omega) | (intro r hr; obtain ⟨x, _, rfl⟩ := List.mem_map.1 hr; rfl)))
 refine .seq (.rgn [] (by simp only [go_sem, seval, an_, ar_, ae_, ad_, aj_, ac_, ah_, hc, hi, hi2, hr, dd_]; rfl) ?_ ?_)
 ·(first | trivial | (simp; done) | (simp only [T3_] at h10; have q := (hs _ (b3_ (d := Pg0) (show k < l.length by omega))).2.2; and_intros <;> first | omega | (simp; done) | (simp; omega) | (intro r hr; obtain ⟨x, _, rfl⟩ := List.mem_map.1 hr; rfl)))
 refine .seq (.seq (.rgn [] (by simp only [go_sem, seval, an_, ar_, ae_, ad_, aj_, ac_, ah_, hc, hi, hi2, hr, dd_]; rfl) ?_ ?_))
 ·(first | trivial | (simp; done) | (simp only [T3_] at h10; have q := (hs _ (b3_ (d := Pg0) (show k < l.length by omega))).2.2; and_intros <;> first | omega | (simp; done) | (simp; omega) | (intro r hr; obtain ⟨x, _, rfl⟩ := List.mem_map.1 hr; rfl)))
 refine .block (.loopK (fun k : Nat => ⟨[.sl false (pgR l), .no, .no, .ow 80 4 0 k, .i .i64 k, .no, .no, .no, .no, .no, .no, .no, .no, .no, .no, .no, .no, .no, .no, .no, .no, .no, .no, .no, .no, .no, .no, .no, .no, .no], bk_ [(80, ⟨99, 4, pgR (l.take k)⟩)], us [80]⟩) (fun k : Nat => k ≤ l.length) (fun k : Nat => l.length - k) (0) ?_ ?_ (fun k hI => ?_))
 ·simp
 ·refine Can.trans (Can.ownSlot 3 80 99 4 (by simp only [go_sem, seval, an_, ar_, ae_, ad_, aj_, ac_, ah_, hc, hi, hi2, hr, dd_] <;> rfl) (by simp only [go_sem, seval, an_, ar_, ae_, ad_, aj_, ac_, ah_, hc, hi, hi2, hr, dd_]) (by simp only [go_sem, seval, an_, ar_, ae_, ad_, aj_, ac_, ah_, hc, hi, hi2, hr, dd_] <;> rfl)) ?_
  exact Can.weak (Weak.lit (by simp only [go_sem, seval, an_, ar_, ae_, ad_, aj_, ac_, ah_, hc, hi, hi2, hr, dd_, ay_, leV, aw_, ax_, V.inn, us, T9_, Ta_] <;> ((try simp))) (by simp only [go_sem, seval, an_, ar_, ae_, ad_, aj_, ac_, ah_, hc, hi, hi2, hr, dd_, ay_, leV, aw_, ax_, V.inn, us, T9_, Ta_]) (by simp only [go_sem, seval, an_, ar_, ae_, ad_, aj_, ac_, ah_, hc, hi, hi2, hr, dd_, ay_, leV, aw_, ax_, V.inn, us, T9_, Ta_] <;> ((try simp [pgR]))))
 refine .seq (.seq (.rgn [] (by simp only [go_sem, seval, an_, ar_, ae_, ad_, aj_, ac_, ah_, hc, hi, hi2, hr, dd_]; rfl) ?_ ?_))
 ·(first | trivial | (simp; done) | (simp only [T3_] at h10; have q := (hs _ (b3_ (d := Pg0) (show k < l.length by omega))).2.2; and_intros <;> first | omega | (simp; done) | (simp; omega) | (intro r hr; obtain ⟨x, _, rfl⟩ := List.mem_map.1 hr; rfl)))
 refine .condB (by simp only [go_sem, seval, an_, ar_, ae_, ad_, aj_, ac_, ah_, hc, hi, hi2, hr, dd_]; rfl) (by simp only [go_sem, seval, an_, ar_, ae_, ad_, aj_, ac_, ah_, hc, hi, hi2, hr, dd_]) (fun h10 => ?_) (fun h10 => ?_)
 ·refine .skip (.seq (.block (.seq (.rgn [] (by simp only [go_sem, seval, an_, ar_, ae_, ad_, aj_, ac_, ah_, hc, hi, hi2, hr, dd_, eg_ (show k < l.length by simpa using h10)]; rfl) ?_ ?_))))
  ·(first | trivial | (simp; done) | (simp only [T3_] at h10; have q := (hs _ (b3_ (d := Pg0) (show k < l.length by omega))).2.2; and_intros <;> first | omega | (simp; done) | (simp; omega) | (intro r hr; obtain ⟨x, _, rfl⟩ := List.mem_map.1 hr; rfl)))
  refine .seq (.rgn [] (by simp only [go_sem, seval, an_, ar_, ae_, ad_, aj_, ac_, ah_, hc, hi, hi2, hr, dd_, eg_ (show k < l.length by simpa using h10)]; rfl) ?_ ?_)
  ·(first | trivial | (simp; done) | (simp only [T3_] at h10; have q := (hs _ (b3_ (d := Pg0) (show k < l.length by omega))).2.2; and_intros <;> first | omega | (simp; done) | (simp; omega) | (intro r hr; obtain ⟨x, _, rfl⟩ := List.mem_map.1 hr; rfl)))
  refine .rgn [] (by simp only [go_sem, seval, an_, ar_, ae_, ad_, aj_, ac_, ah_, hc, hi, hi2, hr, dd_]; rfl) ?_ ?_
  ·(first | trivial | (simp; done) | (simp only [T3_] at h10; have q := (hs _ (b3_ (d := Pg0) (show k < l.length by omega))).2.2; and_intros <;> first | omega | (simp; done) | (simp; omega) | (intro r hr; obtain ⟨x, _, rfl⟩ := List.mem_map.1 hr; rfl)))
  refine .rgn [] (by simp only [go_sem, seval, an_, ar_, ae_, ad_, aj_, ac_, ah_, hc, hi, hi2, hr, dd_]; rfl) ?_ ?_
  ·(first | trivial | (simp; done) | (simp only [T3_] at h10; have q := (hs _ (b3_ (d := Pg0) (show k < l.length by omega))).2.2; and_intros <;> first | omega | (simp; done) | (simp; omega) | (intro r hr; obtain ⟨x, _, rfl⟩ := List.mem_map.1 hr; rfl)))
  refine Exists.intro (k + 1) ⟨?_, ?_, ?_⟩
  ·simp at h10; omega
  ·simp at h10; omega
  refine Can.trans (Can.frz 33 (by simp only [go_sem, seval, an_, ar_, ae_, ad_, aj_, ac_, ah_, hc, hi, hi2, hr, dd_] <;> rfl) (by simp only [go_sem, seval, an_, ar_, ae_, ad_, aj_, ac_, ah_, hc, hi, hi2, hr, dd_]) (by simp only [go_sem, seval, an_, ar_, ae_, ad_, aj_, ac_, ah_, hc, hi, hi2, hr, dd_] <;> rfl) (by simp only [go_sem, seval, an_, ar_, ae_, ad_, aj_, ac_, ah_, hc, hi, hi2, hr, dd_] <;> rfl)) ?_
  refine Can.trans (Can.swap 38 80 (by decide) (by decide) (by decide) (by decide) (by simp only [go_sem, seval, an_, ar_, ae_, ad_, aj_, ac_, ah_, hc, hi, hi2, hr, dd_, V.cl]) (by simp only [go_sem, seval, an_, ar_, ae_, ad_, aj_, ac_, ah_, hc, hi, hi2, hr, dd_, V.cl]) (by simp only [go_sem, seval, an_, ar_, ae_, ad_, aj_, ac_, ah_, hc, hi, hi2, hr, dd_, b5_, sw, swM, rnB] <;> rfl) (by simp only [go_sem, seval, an_, ar_, ae_, ad_, aj_, ac_, ah_, hc, hi, hi2, hr, dd_, b5_, sw, swM, rnB] <;> rfl) (by simp only [go_sem, seval, an_, ar_, ae_, ad_, aj_, ac_, ah_, hc, hi, hi2, hr, dd_, b5_, sw, swM, rnB] <;> rfl)) ?_
  exact Can.weak (Weak.lit (by simp only [go_sem, seval, an_, ar_, ae_, ad_, aj_, ac_, ah_, hc, hi, hi2, hr, dd_, ay_, leV, aw_, ax_, V.inn, us, T9_, Ta_] <;> (rw [bx_ (by simp at h10; omega) (by simp at h10; omega)]; (try simp))) (by simp only [go_sem, seval, an_, ar_, ae_, ad_, aj_, ac_, ah_, hc, hi, hi2, hr, dd_, ay_, leV, aw_, ax_, V.inn, us, T9_, Ta_]) (by simp only [go_sem, seval, an_, ar_, ae_, ad_, aj_, ac_, ah_, hc, hi, hi2, hr, dd_, ay_, leV, aw_, ax_, V.inn, us, T9_, Ta_] <;> (simp only [T3_] at h10; rw [aj6_ (by omega)]; simp [pgR])))
 ·refine .exit (.seq (.rgn [] (by simp only [go_sem, seval, an_, ar_, ae_, ad_, aj_, ac_, ah_, hc, hi, hi2, hr, dd_]; rfl) ?_ ?_))
  ·(first | trivial | (simp; done) | (simp only [T3_] at h10; have q := (hs _ (b3_ (d := Pg0) (show k < l.length by omega))).2.2; and_intros <;> first | omega | (simp; done) | (simp; omega) | (intro r hr; obtain ⟨x, _, rfl⟩ := List.mem_map.1 hr; rfl)))
  refine .ret ⟨.inr rfl, ?_⟩
  exact Out.mem' (by simp only [Tryz.results80]; rfl) (by simp only [bd_, bo_, go_sem, seval, an_, ar_, ae_, ad_, aj_, ac_, ah_, hc, hi, hi2, hr, dd_]) (by simp only [bn_, rns, rn, go_sem, seval, an_, ar_, ae_, ad_, aj_, ac_, ah_, hc, hi, hi2, hr, dd_] <;> (simp only [T4_] at h10; rw [show k = l.length by omega])) (by simp) rfl (by decide) (by simp only [go_sem, seval, an_, ar_, ae_, ad_, aj_, ac_, ah_, hc, hi, hi2, hr, dd_]) (by simp only [ar_, go_sem, seval, an_, ar_, ae_, ad_, aj_, ac_, ah_, hc, hi, hi2, hr, dd_]) (by simp only [an_, go_sem, seval, an_, ar_, ae_, ad_, aj_, ac_, ah_, hc, hi, hi2, hr, dd_] <;> (simp only [T4_] at h10; rw [T1_ (show l.length ≤ k by omega)]))
theorem chJ {n : Nat} {x v : List Pg} (hn : n = x.length) (h : x = v) : leV (peel (if n ≤ x.length then V.sl false (pgR (x.take n)) else V.no)) (V.sl false (pgR v)) := by
 subst hn h
 rw [if_pos (Nat.le_refl _), List.take_length]
 exact ⟨fun h => h, by_ _⟩
theorem wx_ (l : List Pg) (a : Int) (w : Str) (hs : ∀ p ∈ l, pgB p) (hl : l.length ≤ 2000000) (ha : -9223372036854775808 ≤ a) (ha2 : a < 9223372036854775808) (hw : w.length ≤ 2000000) : ACall En 30 [.sl false (pgR l), .i .i64 a, .s w] [] [.sl false (pgR (chg l a 1 [w])), .b (cg_ l a 1 [w])] [] := by
 refine ao_ (fn := Tryz.f30) [] Tryz.func30 rfl rfl (by simp) fun C => ?_
 rw [bb_]
 simp only [Tryz.ntmps30, T7_, List.length_nil, Nat.reduceAdd, Nat.reduceSub, List.replicate_succ, List.replicate_zero, List.cons_append, List.nil_append, bu_]
 refine .seq (.rgn [] (by simp only [go_sem, seval, an_, ar_, ae_, ad_, aj_, ac_, ce_, cr_, cu_, cs_, cq_, ct_, b8_, Int.toNat_natCast, List.take_length]; rfl) ?_ ?_)
 ·(first | trivial | (simp; done) | (obtain ⟨q1, q2, q3, q4⟩ := ii_.1 (show cg_ l a 1 [w] = true by rw [on_, h26]; rfl); and_intros <;> omega))
 refine .seq (.seq (.rgn [bj_ (nq_ l hs (by omega)), bj_ (sa_ w (by omega))] (by simp only [go_sem, seval, an_, ar_, ae_, ad_, aj_, ac_, ce_, cr_, cu_, cs_, cq_, ct_, b8_, Int.toNat_natCast, List.take_length]; rfl) ?_ ?_))
 ·(first | trivial | (simp; done) | (obtain ⟨q1, q2, q3, q4⟩ := ii_.1 (show cg_ l a 1 [w] = true by rw [on_, h26]; rfl); and_intros <;> omega))
 refine .condB (by simp only [go_sem, seval, an_, ar_, ae_, ad_, aj_, ac_, ce_, cr_, cu_, cs_, cq_, ct_, b8_, Int.toNat_natCast, List.take_length]; rfl) (by simp only [go_sem, seval, an_, ar_, ae_, ad_, aj_, ac_, ce_, cr_, cu_, cs_, cq_, ct_, b8_, Int.toNat_natCast, List.take_length]) (fun h26 => ?_) (fun h26 => ?_)
 ·refine .seq (.rgn [] (by simp only [go_sem, seval, an_, ar_, ae_, ad_, aj_, ac_, ce_, cr_, cu_, cs_, cq_, ct_, b8_, Int.toNat_natCast, List.take_length]; rfl) ?_ ?_)
  ·(first | trivial | (simp; done) | (obtain ⟨q1, q2, q3, q4⟩ := ii_.1 (show cg_ l a 1 [w] = true by rw [on_, h26]; rfl); and_intros <;> omega))
  refine .ret ⟨.inr rfl, ?_⟩
  exact Out.plainL (by simp only [Tryz.results30]; rfl) (by simp only [bd_, bo_, go_sem, seval, an_, ar_, ae_, ad_, aj_, ac_, ce_, cr_, cu_, cs_, cq_, ct_, b8_, Int.toNat_natCast, List.take_length] <;> (split <;> rfl)) (by simp only [bn_, go_sem, seval, an_, ar_, ae_, ad_, aj_, ac_, ce_, cr_, cu_, cs_, cq_, ct_, b8_, Int.toNat_natCast, List.take_length] <;> (have e : cg_ l a 1 [w] = false := (by rw [on_, h26]; rfl); rw [j6_ e, e]; exact ⟨by_ _, rfl⟩)) (by simp only [go_sem, seval, an_, ar_, ae_, ad_, aj_, ac_, ce_, cr_, cu_, cs_, cq_, ct_, b8_, Int.toNat_natCast, List.take_length])
 ·refine .skip (.seq (.rgn [c4_ [] [39] (h0_ l hs hl)] (by simp only [go_sem, seval, an_, ar_, ae_, ad_, aj_, ac_, ce_, cr_, cu_, cs_, cq_, ct_, b8_, Int.toNat_natCast, List.take_length]; rfl) ?_ ?_))
  ·(first | trivial | (simp; done) | (obtain ⟨q1, q2, q3, q4⟩ := ii_.1 (show cg_ l a 1 [w] = true by rw [on_, h26]; rfl); and_intros <;> omega))
  refine .seq (.rgn [bj_ (nf_ w (by omega))] (by simp only [go_sem, seval, an_, ar_, ae_, ad_, aj_, ac_, ce_, cr_, cu_, cs_, cq_, ct_, b8_, Int.toNat_natCast, List.take_length]; rfl) ?_ ?_)
  ·(first | trivial | (simp; done) | (obtain ⟨q1, q2, q3, q4⟩ := ii_.1 (show cg_ l a 1 [w] = true by rw [on_, h26]; rfl); and_intros <;> omega))
  refine .seq (.rgn [] (by simp only [go_sem, seval, an_, ar_, ae_, ad_, aj_, ac_, ce_, cr_, cu_, cs_, cq_, ct_, b8_, Int.toNat_natCast, List.take_length]; rfl) ?_ ?_)
  ·(first | trivial | (simp; done) | (obtain ⟨q1, q2, q3, q4⟩ := ii_.1 (show cg_ l a 1 [w] = true by rw [on_, h26]; rfl); and_intros <;> omega))
  refine .frz 39 (by simp only [go_sem, seval, an_, ar_, ae_, ad_, aj_, ac_, ce_, cr_, cu_, cs_, cq_, ct_, b8_, Int.toNat_natCast, List.take_length]; rfl) (by simp only [go_sem, seval, an_, ar_, ae_, ad_, aj_, ac_, ce_, cr_, cu_, cs_, cq_, ct_, b8_, Int.toNat_natCast, List.take_length]) (by simp only [go_sem, seval, an_, ar_, ae_, ad_, aj_, ac_, ce_, cr_, cu_, cs_, cq_, ct_, b8_, Int.toNat_natCast, List.take_length]; rfl) (by simp only [go_sem, seval, an_, ar_, ae_, ad_, aj_, ac_, ce_, cr_, cu_, cs_, cq_, ct_, b8_, Int.toNat_natCast, List.take_length]; rfl) ?_
  refine .ret ⟨.inr rfl, ?_⟩
  exact Out.plainL (by simp only [Tryz.results30]; rfl) (by simp only [bd_, bo_, go_sem, seval, an_, ar_, ae_, ad_, aj_, ac_, ce_, cr_, cu_, cs_, cq_, ct_, b8_, Int.toNat_natCast, List.take_length] <;> (split <;> rfl)) (by simp only [bn_, go_sem, seval, an_, ar_, ae_, ad_, aj_, ac_, ce_, cr_, cu_, cs_, cq_, ct_, b8_, Int.toNat_natCast, List.take_length] <;> (have e : cg_ l a 1 [w] = true := (by rw [on_, h26]; rfl); exact ⟨chJ (by simp) (aj5_ e).symm, e.symm⟩)) (by simp only [go_sem, seval, an_, ar_, ae_, ad_, aj_, ac_, ce_, cr_, cu_, cs_, cq_, ct_, b8_, Int.toNat_natCast, List.take_length])
theorem yl_ (l : List Pg) (a : Int) (w : Str) (hs : ∀ p ∈ l, pgB p) (hl : l.length ≤ 2000000) (ha : -9223372036854775808 ≤ a) (ha2 : a < 9223372036854775808) (hw : w.length ≤ 2000000) : ACall En 33 [.sl false (pgR l), .i .i64 a, .s w] [] [.sl false (pgR (chg l a 0 [w])), .b (cg_ l a 0 [w])] [] := by
 have hB1 : ∀ p ∈ l.take a.toNat, pgB p := fun p hp => hs p (List.mem_of_mem_take hp)
 have hB2 : ∀ p ∈ l.drop a.toNat, pgB p := fun p hp => hs p (List.mem_of_mem_drop hp)
 refine ao_ (fn := Tryz.f33) [] Tryz.func33 rfl rfl (by simp) fun C => ?_
 rw [bb_]
 simp only [Tryz.ntmps33, T7_, List.length_nil, Nat.reduceAdd, Nat.reduceSub, List.replicate_succ, List.replicate_zero, List.cons_append, List.nil_append, bu_]
 refine .seq (.rgn [] (by simp only [go_sem, seval, an_, ar_, ae_, ad_, aj_, ac_, ce_, cr_, cu_, cs_, cq_, ct_, b8_, Int.toNat_natCast, List.take_length]; rfl) ?_ ?_)
 ·(first | trivial | (simp; done) | (obtain ⟨q1, q2, q3, q4, q5⟩ := oc_.1 (show cg_ l a 0 [w] = true by rw [y3_, h31]; rfl); and_intros <;> first | omega | (simp; done) | exact fun h => absurd rfl h | exact .inr (gp_ l) | exact gp_ _ | (simp only [List.length_take, List.length_drop]; omega)))
 refine .seq (.seq (.rgn [bj_ (nq_ l hs (by omega)), bj_ (sa_ w (by omega))] (by simp only [go_sem, seval, an_, ar_, ae_, ad_, aj_, ac_, ce_, cr_, cu_, cs_, cq_, ct_, b8_, Int.toNat_natCast, List.take_length]; rfl) ?_ ?_))
 ·(first | trivial | (simp; done) | (obtain ⟨q1, q2, q3, q4, q5⟩ := oc_.1 (show cg_ l a 0 [w] = true by rw [y3_, h31]; rfl); and_intros <;> first | omega | (simp; done) | exact fun h => absurd rfl h | exact .inr (gp_ l) | exact gp_ _ | (simp only [List.length_take, List.length_drop]; omega)))
 refine .condB (by simp only [go_sem, seval, an_, ar_, ae_, ad_, aj_, ac_, ce_, cr_, cu_, cs_, cq_, ct_, b8_, Int.toNat_natCast, List.take_length]; rfl) (by simp only [go_sem, seval, an_, ar_, ae_, ad_, aj_, ac_, ce_, cr_, cu_, cs_, cq_, ct_, b8_, Int.toNat_natCast, List.take_length]) (fun h31 => ?_) (fun h31 => ?_)
 ·refine .seq (.rgn [] (by simp only [go_sem, seval, an_, ar_, ae_, ad_, aj_, ac_, ce_, cr_, cu_, cs_, cq_, ct_, b8_, Int.toNat_natCast, List.take_length]; rfl) ?_ ?_)
  ·(first | trivial | (simp; done) | (obtain ⟨q1, q2, q3, q4, q5⟩ := oc_.1 (show cg_ l a 0 [w] = true by rw [y3_, h31]; rfl); and_intros <;> first | omega | (simp; done) | exact fun h => absurd rfl h | exact .inr (gp_ l) | exact gp_ _ | (simp only [List.length_take, List.length_drop]; omega)))
  refine .ret ⟨.inr rfl, ?_⟩
  exact Out.plainL (by simp only [Tryz.results33]; rfl) (by simp only [bd_, bo_, go_sem, seval, an_, ar_, ae_, ad_, aj_, ac_, ce_, cr_, cu_, cs_, cq_, ct_, b8_, Int.toNat_natCast, List.take_length] <;> (split <;> rfl)) (by simp only [bn_, go_sem, seval, an_, ar_, ae_, ad_, aj_, ac_, ce_, cr_, cu_, cs_, cq_, ct_, b8_, Int.toNat_natCast, List.take_length] <;> (have e : cg_ l a 0 [w] = false := (by rw [y3_, h31]; rfl); rw [j6_ e, e]; exact ⟨by_ _, rfl⟩)) (by simp only [go_sem, seval, an_, ar_, ae_, ad_, aj_, ac_, ce_, cr_, cu_, cs_, cq_, ct_, b8_, Int.toNat_natCast, List.take_length])
 ·refine .skip (.seq (.rgn [c4_ [] [46] (h0_ (l.take a.toNat) hB1 (by simp; omega)), bj_ (nf_ w (by omega))] (by simp only [go_sem, seval, an_, ar_, ae_, ad_, aj_, ac_, ce_, cr_, cu_, cs_, cq_, ct_, b8_, Int.toNat_natCast, List.take_length]; rfl) ?_ ?_))
  ·(first | trivial | (simp; done) | (obtain ⟨q1, q2, q3, q4, q5⟩ := oc_.1 (show cg_ l a 0 [w] = true by rw [y3_, h31]; rfl); and_intros <;> first | omega | (simp; done) | exact fun h => absurd rfl h | exact .inr (gp_ l) | exact gp_ _ | (simp only [List.length_take, List.length_drop]; omega)))
  refine .seq (.rgn [c4_ [] [55] (h0_ (l.drop a.toNat) hB2 (by simp; omega))] (by simp only [go_sem, seval, an_, ar_, ae_, ad_, aj_, ac_, ce_, cr_, cu_, cs_, cq_, ct_, b8_, Int.toNat_natCast, List.take_length]; rfl) ?_ ?_)
  ·(first | trivial | (simp; done) | (obtain ⟨q1, q2, q3, q4, q5⟩ := oc_.1 (show cg_ l a 0 [w] = true by rw [y3_, h31]; rfl); and_intros <;> first | omega | (simp; done) | exact fun h => absurd rfl h | exact .inr (gp_ l) | exact gp_ _ | (simp only [List.length_take, List.length_drop]; omega)))
  refine .frz 56 (by simp only [go_sem, seval, an_, ar_, ae_, ad_, aj_, ac_, ce_, cr_, cu_, cs_, cq_, ct_, b8_, Int.toNat_natCast, List.take_length]; rfl) (by simp only [go_sem, seval, an_, ar_, ae_, ad_, aj_, ac_, ce_, cr_, cu_, cs_, cq_, ct_, b8_, Int.toNat_natCast, List.take_length]) (by simp only [go_sem, seval, an_, ar_, ae_, ad_, aj_, ac_, ce_, cr_, cu_, cs_, cq_, ct_, b8_, Int.toNat_natCast, List.take_length]; rfl) (by simp only [go_sem, seval, an_, ar_, ae_, ad_, aj_, ac_, ce_, cr_, cu_, cs_, cq_, ct_, b8_, Int.toNat_natCast, List.take_length]; rfl) ?_
  refine .ret ⟨.inr rfl, ?_⟩
  exact Out.plainL (by simp only [Tryz.results33]; rfl) (by simp only [bd_, bo_, go_sem, seval, an_, ar_, ae_, ad_, aj_, ac_, ce_, cr_, cu_, cs_, cq_, ct_, b8_, Int.toNat_natCast, List.take_length] <;> (split <;> rfl)) (by simp only [bn_, go_sem, seval, an_, ar_, ae_, ad_, aj_, ac_, ce_, cr_, cu_, cs_, cq_, ct_, b8_, Int.toNat_natCast, List.take_length] <;> (have e : cg_ l a 0 [w] = true := (by rw [y3_, h31]; rfl); exact ⟨chJ (by simp only [T2_, List.length_singleton]) (by rw [amu_ e]; simp), e.symm⟩)) (by simp only [go_sem, seval, an_, ar_, ae_, ad_, aj_, ac_, ce_, cr_, cu_, cs_, cq_, ct_, b8_, Int.toNat_natCast, List.take_length])
theorem vx_ (l : List Pg) (a : Int) (hs : ∀ p ∈ l, pgB p) (hl : l.length ≤ 2000000) (ha : -9223372036854775808 ≤ a) (ha2 : a < 9223372036854775808) : ACall En 35 [.sl false (pgR l), .i .i64 a] [] [.sl false (pgR (chg l a 1 [])), .b (cg_ l a 1 [])] [] := by
 have hB1 : ∀ p ∈ l.take a.toNat, pgB p := fun p hp => hs p (List.mem_of_mem_take hp)
 have hB2 : ∀ p ∈ l.drop (a.toNat + 1), pgB p := fun p hp => hs p (List.mem_of_mem_drop hp)
 have hw : cg_ l a 1 [] = true → IntKind.i64.wrap (a + 1) = a + 1 := fun h => by obtain ⟨q1, q2, q3, q4⟩ := kg_.1 h; rw [bx_ (by omega) (by omega)]
 refine ao_ (fn := Tryz.f35) [] Tryz.func35 rfl rfl (by simp) fun C => ?_
 rw [bb_]
 simp only [Tryz.ntmps35, T7_, List.length_nil, Nat.reduceAdd, Nat.reduceSub, List.replicate_succ, List.replicate_zero, List.cons_append, List.nil_append, bu_]
 refine .seq (.rgn [] (by simp only [go_sem, seval, an_, ar_, ae_, ad_, aj_, ac_, ce_, cr_, cu_, cs_, cq_, ct_, b8_, Int.toNat_natCast, List.take_length]; rfl) ?_ ?_)
 ·(first | trivial | (simp; done) | (obtain ⟨q1, q2, q3, q4⟩ := kg_.1 (show cg_ l a 1 [] = true by rw [qc_, h23]; rfl); have q5 : (a + 1).toNat = a.toNat + 1 := (by omega); and_intros <;> first | omega | (simp; done) | exact fun h => absurd rfl h | exact .inr (gp_ l) | exact gp_ _ | (rw [q5]; exact by_ _) | (simp only [List.length_take, List.length_drop]; omega)))
 refine .seq (.seq (.rgn [bj_ (nq_ l hs (by omega))] (by simp only [go_sem, seval, an_, ar_, ae_, ad_, aj_, ac_, ce_, cr_, cu_, cs_, cq_, ct_, b8_, Int.toNat_natCast, List.take_length]; rfl) ?_ ?_))
 ·(first | trivial | (simp; done) | (obtain ⟨q1, q2, q3, q4⟩ := kg_.1 (show cg_ l a 1 [] = true by rw [qc_, h23]; rfl); have q5 : (a + 1).toNat = a.toNat + 1 := (by omega); and_intros <;> first | omega | (simp; done) | exact fun h => absurd rfl h | exact .inr (gp_ l) | exact gp_ _ | (rw [q5]; exact by_ _) | (simp only [List.length_take, List.length_drop]; omega)))
 refine .condB (by simp only [go_sem, seval, an_, ar_, ae_, ad_, aj_, ac_, ce_, cr_, cu_, cs_, cq_, ct_, b8_, Int.toNat_natCast, List.take_length]; rfl) (by simp only [go_sem, seval, an_, ar_, ae_, ad_, aj_, ac_, ce_, cr_, cu_, cs_, cq_, ct_, b8_, Int.toNat_natCast, List.take_length]) (fun h23 => ?_) (fun h23 => ?_)
 ·refine .seq (.rgn [] (by simp only [go_sem, seval, an_, ar_, ae_, ad_, aj_, ac_, ce_, cr_, cu_, cs_, cq_, ct_, b8_, Int.toNat_natCast, List.take_length]; rfl) ?_ ?_)
  ·(first | trivial | (simp; done) | (obtain ⟨q1, q2, q3, q4⟩ := kg_.1 (show cg_ l a 1 [] = true by rw [qc_, h23]; rfl); have q5 : (a + 1).toNat = a.toNat + 1 := (by omega); and_intros <;> first | omega | (simp; done) | exact fun h => absurd rfl h | exact .inr (gp_ l) | exact gp_ _ | (rw [q5]; exact by_ _) | (simp only [List.length_take, List.length_drop]; omega)))
  refine .ret ⟨.inr rfl, ?_⟩
  exact Out.plainL (by simp only [Tryz.results35]; rfl) (by simp only [bd_, bo_, go_sem, seval, an_, ar_, ae_, ad_, aj_, ac_, ce_, cr_, cu_, cs_, cq_, ct_, b8_, Int.toNat_natCast, List.take_length] <;> (split <;> rfl)) (by simp only [bn_, go_sem, seval, an_, ar_, ae_, ad_, aj_, ac_, ce_, cr_, cu_, cs_, cq_, ct_, b8_, Int.toNat_natCast, List.take_length] <;> (have e : cg_ l a 1 [] = false := (by rw [qc_, h23]; rfl); rw [j6_ e, e]; exact ⟨by_ _, rfl⟩)) (by simp only [go_sem, seval, an_, ar_, ae_, ad_, aj_, ac_, ce_, cr_, cu_, cs_, cq_, ct_, b8_, Int.toNat_natCast, List.take_length])
 ·refine .skip (.seq (.rgnD [c4_ [] [38] (h0_ (l.take a.toNat) hB1 (by simp; omega)), c4_ [] [43] (h0_ (l.drop (a.toNat + 1)) hB2 (by simp; omega))] enM (by simp only [go_sem, seval, an_, ar_, ae_, ad_, aj_, ac_, ce_, cr_, cu_, cs_, cq_, ct_, b8_, Int.toNat_natCast, List.take_length, hw (show cg_ l a 1 [] = true by rw [qc_, h23]; rfl)]; rfl) (by rfl) ?_ ?_))
  ·(first | trivial | (simp; done) | (obtain ⟨q1, q2, q3, q4⟩ := kg_.1 (show cg_ l a 1 [] = true by rw [qc_, h23]; rfl); have q5 : (a + 1).toNat = a.toNat + 1 := (by omega); and_intros <;> first | omega | (simp; done) | exact fun h => absurd rfl h | exact .inr (gp_ l) | exact gp_ _ | (rw [q5]; exact by_ _) | (simp only [List.length_take, List.length_drop]; omega)))
  refine .frz 44 (by simp only [go_sem, seval, an_, ar_, ae_, ad_, aj_, ac_, ce_, cr_, cu_, cs_, cq_, ct_, b8_, Int.toNat_natCast, List.take_length]; rfl) (by simp only [go_sem, seval, an_, ar_, ae_, ad_, aj_, ac_, ce_, cr_, cu_, cs_, cq_, ct_, b8_, Int.toNat_natCast, List.take_length]) (by simp only [go_sem, seval, an_, ar_, ae_, ad_, aj_, ac_, ce_, cr_, cu_, cs_, cq_, ct_, b8_, Int.toNat_natCast, List.take_length]; rfl) (by simp only [go_sem, seval, an_, ar_, ae_, ad_, aj_, ac_, ce_, cr_, cu_, cs_, cq_, ct_, b8_, Int.toNat_natCast, List.take_length]; rfl) ?_
  refine .ret ⟨.inr rfl, ?_⟩
  exact Out.plainL (by simp only [Tryz.results35]; rfl) (by simp only [bd_, bo_, go_sem, seval, an_, ar_, ae_, ad_, aj_, ac_, ce_, cr_, cu_, cs_, cq_, ct_, b8_, Int.toNat_natCast, List.take_length] <;> (split <;> rfl)) (by simp only [bn_, go_sem, seval, an_, ar_, ae_, ad_, aj_, ac_, ce_, cr_, cu_, cs_, cq_, ct_, b8_, Int.toNat_natCast, List.take_length] <;> (have e : cg_ l a 1 [] = true := (by rw [qc_, h23]; rfl); exact ⟨chJ (by simp only [T2_]) (alk_ e).symm, e.symm⟩)) (by simp only [go_sem, seval, an_, ar_, ae_, ad_, aj_, ac_, ce_, cr_, cu_, cs_, cq_, ct_, b8_, Int.toNat_natCast, List.take_length])
end
section
set_option maxRecDepth 100000
end
end Go.Proofs.YtefmbmafdgedmaaGreatDoor
