/- Books, changed: the program's, as places of one's own. Conditions: none. -/
import Derived.Test.YtefmbmafdgedmaaGreatDoorK32
import Derived.Test.YtefmbmafdgedmaaGreatDoorK14
set_option linter.unusedVariables false
set_option linter.unusedSimpArgs false
namespace Go.Proofs.YtefmbmafdgedmaaGreatDoor
section
open Go.RowKit
set_option maxRecDepth 100000
set_option maxHeartbeats 4000000
def k1_ (l : List Pg) (k : Nat) : List (List V) := (ttP.OR 1000 l).take k ++ (pgR l).drop k
theorem ade_ {l : List Pg} {k : Nat} (h : k ≤ l.length) : (k1_ l k).length = l.length := by
 unfold k1_; rw [T2_, List.length_take, ttP.OR_len, List.length_drop, ae_]; omega
theorem aa7_ (l : List Pg) : k1_ l 0 = pgR l := by simp [k1_]
theorem afx_ {l : List Pg} {k : Nat} (h : l.length ≤ k) : k1_ l k = ttP.OR 1000 l := by
 unfold k1_; rw [T1_ (by rw [ttP.OR_len]; exact h), List.drop_of_length_le (by rw [ae_]; exact h), List.append_nil]
theorem ahj_ {l : List Pg} {k : Nat} (h : k < l.length) : (k1_ l k).getD k [] = pgC (l.getD k Pg0) := by
 rw [← eg_ h]
 unfold k1_
 rw [T8_, List.getElem?_append_right (by rw [List.length_take, ttP.OR_len]; omega), List.length_take, ttP.OR_len, List.getElem?_drop, T8_]
 congr 2; omega
theorem aee_ {l : List Pg} {k : Nat} (h : k < l.length) : (k1_ l k).set k [.s (l.getD k Pg0).line, .b (l.getD k Pg0).good, .s (l.getD k Pg0).text, .ow (1000 + k) 1 0 (l.getD k Pg0).frm.length] = k1_ l (k + 1) := by
 have hk : ttP.NL (l.take k) = k := by rw [b4_, List.length_take]; omega
 have e : [.s (l.getD k Pg0).line, .b (l.getD k Pg0).good, .s (l.getD k Pg0).text, .ow (1000 + k) 1 0 (l.getD k Pg0).frm.length] = (ttP.OR 1000 l).getD k [] := by
  rw [ttP.OR_get (d := Pg0) h, hk]; rfl
 have hl : ((ttP.OR 1000 l).take k).length = k := by rw [List.length_take, ttP.OR_len]; omega
 rw [e]
 unfold k1_
 rw [List.set_append_right _ _ (by omega), hl, Nat.sub_self, List.drop_eq_getElem_cons (by rw [ae_]; exact h), List.set_cons_zero, List.take_add_one, T6_ (by rw [ttP.OR_len]; exact h), T8_, T6_ (by rw [ttP.OR_len]; exact h)]
 simp only [Option.getD_some, Option.toList_some, List.append_assoc, List.singleton_append]
theorem afr_ {l : List Pg} {k : Nat} {u : Nat → Bool} (h : ∀ i, i < ttP.NL (l.take k) → u (1000 + i) = true) : ax_ u (k1_ l k) = true := by
 unfold k1_
 rw [kd_]
 intro r hr
 rcases List.mem_append.1 hr with hr | hr
 ·rw [ttP.OR_take'] at hr
  exact kd_.1 (ttP.BL_inn _ _ u h).1 r hr
 ·have := gy_ u (pgR l) (ad_ l)
  exact kd_.1 this r (List.mem_of_mem_drop hr)
theorem ajf_ {l : List Pg} {k : Nat} {bx : Blk} (hk : k < l.length) : ax_ (us (17 :: List.range' 1000 (ttP.NL (l.take (k + 1))))) (k1_ l (k + 1)) = true ∧ ay_ ((17, ⟨99, 4, k1_ l (k + 1)⟩) :: wrL (bu_ 1000 (ttP.BL 1000 (l.take k)) ++ [(15, bx)]) (es_ (1000 + k) [⟨3, 1, inR (l.getD k Pg0).frm⟩])) (17 :: List.range' 1000 (ttP.NL (l.take (k + 1)))) (bu_ 1000 (ttP.BL 1000 (l.take (k + 1)))) := by
 have hU : ∀ i, i < ttP.NL (l.take (k + 1)) → us (17 :: List.range' 1000 (ttP.NL (l.take (k + 1)))) (1000 + i) = true := fun i hi => by
  simp only [us, List.contains_eq_mem, Bool.or_eq_true, T3_, List.mem_cons, List.mem_range'_1]
  exact .inr (.inr ⟨by omega, by omega⟩)
 refine ⟨afr_ hU, mn_ fun i b hb => ?_⟩
 have hi : i < ttP.NL (l.take (k + 1)) := by rw [← ttP.BL_len _ 1000]; exact (List.getElem?_eq_some_iff.1 hb).1
 refine ⟨?_, hU i hi, (ttP.BL_inn _ 1000 _ hU).2 b (List.mem_of_getElem? hb)⟩
 rw [f0_, if_neg (by omega)]
 rw [ttP.BL_take (d := Pg0) hk] at hb
 exact abh_ (by rw [ttP.BL_len, b4_, List.length_take]; omega) hb
theorem x9_ (l : List Pg) (h0 : 0 < l.length) (hl : l.length ≤ 100000) (hs : ∀ p ∈ l, pgB p) : ACall En 134 [.sl false (pgR l)] [] [.ow 0 4 0 l.length] (ttP.lst 99 4 0 l) := by
 have hB1 : ∀ k, k < l.length → ttP.BL 1000 (l.take k) ++ [⟨3, 1, inR (l.getD k Pg0).frm⟩] = ttP.BL 1000 (l.take (k + 1)) := fun k h => by rw [ttP.BL_take (d := Pg0) h]; rfl
 have hNk : ∀ k, k ≤ l.length → ttP.NL (l.take k) = k := fun k h => by rw [b4_, List.length_take]; omega
 have hlen : ∀ k, k ≤ l.length → (ttP.BL 1000 (l.take k)).length = k := fun k h => by rw [ttP.BL_len, hNk k h]
 refine ao_ (fn := Tryz.f134) (17 :: List.range' 1000 (ttP.NL l)) Tryz.func134 rfl rfl (by simp) fun C => ?_
 rw [bb_]
 simp only [Tryz.ntmps134, T7_, List.length_nil, Nat.reduceAdd, Nat.reduceSub, List.replicate_succ, List.replicate_zero, List.cons_append, List.nil_append, bu_]
 refine .seq (.rgn [] (by simp only [go_sem, seval, an_, ar_, ae_, ad_, aj_, ac_, ah_, bf_, a7_, a3_, aq_, a4_, au_, bc_, a5_]; rfl) ?_ ?_)
 ·(first | trivial | (simp; done) | (simp only [T3_] at h11; and_intros <;> first | omega | exact ap_ _ _ | rfl | exact oi_ _ | (rw [List.all_eq_true]; intro x hx; rw [List.mem_range'_1] at hx; simp [List.mem_range'_1, hNk k hI]; omega) | (simp; done)))
 refine .seq (.rgn [c4_ [] [17] (xl_ l h0 (by omega))] (by simp only [go_sem, seval, an_, ar_, ae_, ad_, aj_, ac_, ah_, bf_, a7_, a3_, aq_, a4_, au_, bc_, a5_]; rfl) ?_ ?_)
 ·(first | trivial | (simp; done) | (simp only [T3_] at h11; and_intros <;> first | omega | exact ap_ _ _ | rfl | exact oi_ _ | (rw [List.all_eq_true]; intro x hx; rw [List.mem_range'_1] at hx; simp [List.mem_range'_1, hNk k hI]; omega) | (simp; done)))
 refine .seq (.seq (.rgn [] (by simp only [go_sem, seval, an_, ar_, ae_, ad_, aj_, ac_, ah_, bf_, a7_, a3_, aq_, a4_, au_, bc_, a5_]; rfl) ?_ ?_))
 ·(first | trivial | (simp; done) | (simp only [T3_] at h11; and_intros <;> first | omega | exact ap_ _ _ | rfl | exact oi_ _ | (rw [List.all_eq_true]; intro x hx; rw [List.mem_range'_1] at hx; simp [List.mem_range'_1, hNk k hI]; omega) | (simp; done)))
 refine .block (.loopK (fun k : Nat => ⟨[.no, .no, .no, .ow 17 4 0 l.length, .no, .no, .no, .no, .sl false (pgR l), .i .i64 l.length, .i .i64 k, .no, .no, .no, .no, .no, .no, .no, .no, .no, .no, .no, .no, .no], bk_ ((17, ⟨99, 4, k1_ l k⟩) :: bu_ 1000 (ttP.BL 1000 (l.take k))), us (17 :: List.range' 1000 (ttP.NL (l.take k)))⟩) (fun k : Nat => k ≤ l.length) (fun k : Nat => l.length - k) (0) ?_ ?_ (fun k hI => ?_))
 ·simp
 ·exact Can.weak (Weak.lit (by simp only [go_sem, seval, an_, ar_, ae_, ad_, aj_, ac_, ah_, bf_, a7_, a3_, aq_, a4_, au_, bc_, a5_, ay_, leV, aw_, ax_, V.inn, us, T9_, Ta_] <;> ((try simp))) (by simp only [go_sem, seval, an_, ar_, ae_, ad_, aj_, ac_, ah_, bf_, a7_, a3_, aq_, a4_, au_, bc_, a5_, ay_, leV, aw_, ax_, V.inn, us, T9_, Ta_]) (by simp only [go_sem, seval, an_, ar_, ae_, ad_, aj_, ac_, ah_, bf_, a7_, a3_, aq_, a4_, au_, bc_, a5_, ay_, leV, aw_, ax_, V.inn, us, T9_, Ta_] <;> (rw [aa7_]; exact ⟨rfl, gy_ _ _ (ad_ _), by simp only [List.take_zero, TT.BL, bu_, ay_]⟩)))
 refine .seq (.rgn [] (by simp only [go_sem, seval, an_, ar_, ae_, ad_, aj_, ac_, ah_, bf_, a7_, a3_, aq_, a4_, au_, bc_, a5_]; rfl) ?_ ?_)
 ·(first | trivial | (simp; done) | (simp only [T3_] at h11; and_intros <;> first | omega | exact ap_ _ _ | rfl | exact oi_ _ | (rw [List.all_eq_true]; intro x hx; rw [List.mem_range'_1] at hx; simp [List.mem_range'_1, hNk k hI]; omega) | (simp; done)))
 refine .seq (.condB (by simp only [go_sem, seval, an_, ar_, ae_, ad_, aj_, ac_, ah_, bf_, a7_, a3_, aq_, a4_, au_, bc_, a5_]; rfl) (by simp only [go_sem, seval, an_, ar_, ae_, ad_, aj_, ac_, ah_, bf_, a7_, a3_, aq_, a4_, au_, bc_, a5_]) (fun h11 => ?_) (fun h11 => ?_))
 ·refine .skip (.seq (.block (.seq (.rgn [] (by simp only [go_sem, seval, an_, ar_, ae_, ad_, aj_, ac_, ah_, bf_, a7_, a3_, aq_, a4_, au_, bc_, a5_, eg_ (show k < l.length by simpa using h11)]; rfl) ?_ ?_))))
  ·(first | trivial | (simp; done) | (simp only [T3_] at h11; and_intros <;> first | omega | exact ap_ _ _ | rfl | exact oi_ _ | (rw [List.all_eq_true]; intro x hx; rw [List.mem_range'_1] at hx; simp [List.mem_range'_1, hNk k hI]; omega) | (simp; done)))
  refine .rgn [bf_ [] (1000 + k) (p8_ (l.getD k Pg0).frm (by have := (hs _ (b3_ (d := Pg0) (show k < l.length by simpa using h11))).2.2; omega)) (t0_ (1000 + k) (l.getD k Pg0).frm)] (by simp only [go_sem, seval, an_, ar_, ae_, ad_, aj_, ac_, ah_, bf_, a7_, a3_, aq_, a4_, au_, bc_, a5_, ahj_ (show k < l.length by simpa using h11), ade_ hI, aee_ (show k < l.length by simpa using h11)]; rfl) ?_ ?_
  ·(first | trivial | (simp; done) | (simp only [T3_] at h11; and_intros <;> first | omega | exact ap_ _ _ | rfl | exact oi_ _ | (rw [List.all_eq_true]; intro x hx; rw [List.mem_range'_1] at hx; simp [List.mem_range'_1, hNk k hI]; omega) | (simp; done)))
  refine .rgn [] (by simp only [go_sem, seval, an_, ar_, ae_, ad_, aj_, ac_, ah_, bf_, a7_, a3_, aq_, a4_, au_, bc_, a5_]; rfl) ?_ ?_
  ·(first | trivial | (simp; done) | (simp only [T3_] at h11; and_intros <;> first | omega | exact ap_ _ _ | rfl | exact oi_ _ | (rw [List.all_eq_true]; intro x hx; rw [List.mem_range'_1] at hx; simp [List.mem_range'_1, hNk k hI]; omega) | (simp; done)))
  refine Exists.intro (k + 1) ⟨?_, ?_, ?_⟩
  ·simp at h11; omega
  ·simp at h11; omega
  exact Can.weak (Weak.lit (by simp only [go_sem, seval, an_, ar_, ae_, ad_, aj_, ac_, ah_, bf_, a7_, a3_, aq_, a4_, au_, bc_, a5_, ay_, leV, aw_, ax_, V.inn, us, T9_, Ta_] <;> (rw [bx_ (by simp at h11; omega) (by simp at h11; omega)]; (try simp))) (by simp only [go_sem, seval, an_, ar_, ae_, ad_, aj_, ac_, ah_, bf_, a7_, a3_, aq_, a4_, au_, bc_, a5_, ay_, leV, aw_, ax_, V.inn, us, T9_, Ta_]) (by simp only [go_sem, seval, an_, ar_, ae_, ad_, aj_, ac_, ah_, bf_, a7_, a3_, aq_, a4_, au_, bc_, a5_, ay_, leV, aw_, ax_, V.inn, us, T9_, Ta_] <;> (exact ajf_ (by simpa using h11))))
 ·refine .exit (.seq (.rgn [] (by simp only [go_sem, seval, an_, ar_, ae_, ad_, aj_, ac_, ah_, bf_, a7_, a3_, aq_, a4_, au_, bc_, a5_]; rfl) ?_ ?_))
  ·(first | trivial | (simp; done) | (simp only [T3_] at h11; and_intros <;> first | omega | exact ap_ _ _ | rfl | exact oi_ _ | (rw [List.all_eq_true]; intro x hx; rw [List.mem_range'_1] at hx; simp [List.mem_range'_1, hNk k hI]; omega) | (simp; done)))
  refine .ret ⟨.inr rfl, ?_⟩
  exact ttP.out_lst (by simp only [Tryz.results134]; rfl) (by simp only [bd_, bo_, go_sem, seval, an_, ar_, ae_, ad_, aj_, ac_, ah_, bf_, a7_, a3_, aq_, a4_, au_, bc_, a5_]) (by simp only [bn_, go_sem, seval, an_, ar_, ae_, ad_, aj_, ac_, ah_, bf_, a7_, a3_, aq_, a4_, au_, bc_, a5_] <;> rfl) (by decide) (by simp at h11; show bk_ _ = bk_ _; rw [afx_ h11, T1_ h11])
theorem aaf_ (l : List Pg) (a : Int) (d : Nat) (ls : List Str) : ∀ p ∈ chg l a d ls, p.frm.length ≤ 76 := fun p hp => by
 cases h : cg_ l a d ls with
 | false => rw [j6_ h] at hp; cases hp
 | true =>
  have hk := p5_ (adn_ h) p hp
  rw [(aig_ hk).2.1]
  exact aey_ (agf_ _)
theorem rk_ (l : List Pg) (a : Int) (d : Nat) (ls : List Str) : (chg l a d ls).length ≤ 16 := by
 cases h : cg_ l a d ls with
 | false => rw [j6_ h]; simp
 | true => exact (jb_ (adn_ h)).2.1
theorem akr_ : ∀ {l : List Pg}, (∀ p ∈ l, p.frm.length ≤ 76) → fL l ≤ l.length * 76
 | [], _ => by simp [fL]
 | p :: l, h => by
  have := akr_ (l := l) fun p hp => h p (List.mem_cons_of_mem _ hp)
  have := h p List.mem_cons_self
  simp only [fL, T7_]; omega
theorem y5_ (l : List Pg) (a : Int) (d : Nat) (ls : List Str) : fL (chg l a d ls) ≤ 1216 := by
 have := akr_ (aaf_ l a d ls)
 have := rk_ l a d ls
 omega
theorem nc_ (l : List Pg) (a : Int) (d : Nat) (ls : List Str) (hs : ∀ p ∈ l, pgB p) (hl : l.length ≤ 2000000) (ha : -9223372036854775808 ≤ a) (ha2 : a < 9223372036854775808) (hd : d ≤ 1) (hls : ∀ s ∈ ls, s.length ≤ 2000000) (hn : ls.length ≤ 1) : ACall En 82 [.sl false (pgR l), .i .i64 a, .i .i64 d, .sl false (cb_ ls)] [] [.ow 0 4 0 (chg l a d ls).length, .b (cg_ l a d ls)] (ttP.lst 99 4 0 (chg l a d ls)) := by
 have hw1 : IntKind.i64.wrap ((l.length : Int) - d) = (l.length : Int) - d := by rw [bx_ (by omega) (by omega)]
 have hw2 : IntKind.i64.wrap ((l.length : Int) - d + ls.length) = (l.length : Int) - d + ls.length := by rw [bx_ (by omega) (by omega)]
 have hw3 : cg_ l a d ls = true → IntKind.i64.wrap (a + d) = a + d := fun h => by obtain ⟨q1, q2, q3, q4, q5, q6⟩ := dh_ h; rw [bx_ (by omega) (by omega)]
 have hO : cg_ l a d ls = (((g5_ l && (decide (0 ≤ a) && decide (a ≤ (l.length : Int) - d))) && ls.all fr_) && (decide (1 ≤ (l.length : Int) - d + ls.length) && decide ((l.length : Int) - d + ls.length ≤ 16))) := rfl
 have hC1 : cg_ l a d ls = true → 0 < (h8_ l a.toNat d ls).length := fun h => by
  obtain ⟨q1, q2, q3, q4, q5, q6⟩ := dh_ h
  rw [jv_ (by omega)]; omega
 have hC2 : cg_ l a d ls = true → (h8_ l a.toNat d ls).length ≤ 100000 := fun h => by
  obtain ⟨q1, q2, q3, q4, q5, q6⟩ := dh_ h
  rw [jv_ (by omega)]; omega
 have hfl : [l.take a.toNat, ls.map e8_, l.drop (a.toNat + d)].flatten = h8_ l a.toNat d ls := by simp [h8_]
 have hF1 : cg_ l a d ls = true → 0 < [l.take a.toNat, ls.map e8_, l.drop (a.toNat + d)].flatten.length := fun h => by rw [hfl]; exact hC1 h
 have hF2 : cg_ l a d ls = true → [l.take a.toNat, ls.map e8_, l.drop (a.toNat + d)].flatten.length ≤ 100000 := fun h => by rw [hfl]; exact hC2 h
 have hN : ∀ x : Bool, (!g5_ l || !(decide (0 ≤ a) && decide (a ≤ (l.length : Int) - d)) || !ls.all fr_ || !(decide (1 ≤ (l.length : Int) - d + ls.length) && decide ((l.length : Int) - d + ls.length ≤ 16))) = x → cg_ l a d ls = !x := fun x h => by
  rw [hO, ← h, ← Bool.not_and, ← Bool.not_and, ← Bool.not_and, Bool.not_not]
 have hall : (ls.any fun p => !fr_ p) = !ls.all fr_ := by rw [List.any_eq_not_all_not]; simp
 have hG : cg_ l a d ls = true → chg l a d ls = h8_ l a.toNat d ls := k9_
 refine ao_ (fn := Tryz.f82) (List.range' 1000 (ttP.NL (chg l a d ls) + 1)) Tryz.func82 rfl rfl (by simp) fun C => ?_
 rw [bb_]
 simp only [Tryz.ntmps82, T7_, List.length_nil, Nat.reduceAdd, Nat.reduceSub, List.replicate_succ, List.replicate_zero, List.cons_append, List.nil_append, bu_]
 refine .seq (.rgn [] (by simp only [go_sem, seval, an_, ar_, ae_, ad_, aj_, ac_, ab_, aa_, hw1, hw2, hall, bf_, a7_, ak_, aq_]; rfl) ?_ ?_)
 ·(first | trivial | (simp; done) | (simp only [T3_] at h43; and_intros <;> first | omega | (simp; done) | (simp; omega)))
 refine .seq (.seq (.rgn [bj_ (so_ l hs (by omega)), bj_ (uh_ a 0 ((l.length : Int) - d)), bj_ (wo_ ls (fun s h => by have := hls s h; omega) (by omega)), bj_ (uh_ ((l.length : Int) - d + ls.length) 1 16)] (by simp only [go_sem, seval, an_, ar_, ae_, ad_, aj_, ac_, ab_, aa_, hw1, hw2, hall, bf_, a7_, ak_, aq_]; rfl) ?_ ?_))
 ·(first | trivial | (simp; done) | (simp only [T3_] at h43; and_intros <;> first | omega | (simp; done) | (simp; omega)))
 refine .condB (by simp only [go_sem, seval, an_, ar_, ae_, ad_, aj_, ac_, ab_, aa_, hw1, hw2, hall, bf_, a7_, ak_, aq_]; rfl) (by simp only [go_sem, seval, an_, ar_, ae_, ad_, aj_, ac_, ab_, aa_, hw1, hw2, hall, bf_, a7_, ak_, aq_]) (fun h39 => ?_) (fun h39 => ?_)
 ·refine .seq (.rgn [] (by simp only [go_sem, seval, an_, ar_, ae_, ad_, aj_, ac_, ab_, aa_, hw1, hw2, hall, bf_, a7_, ak_, aq_]; rfl) ?_ ?_)
  ·(first | trivial | (simp; done) | (simp only [T3_] at h43; and_intros <;> first | omega | (simp; done) | (simp; omega)))
  refine .can (Can.ownSlot 8 1000 99 4 (by simp only [go_sem, seval, an_, ar_, ae_, ad_, aj_, ac_, ab_, aa_, hw1, hw2, hall, bf_, a7_, ak_, aq_] <;> rfl) (by simp only [go_sem, seval, an_, ar_, ae_, ad_, aj_, ac_, ab_, aa_, hw1, hw2, hall, bf_, a7_, ak_, aq_]) (by simp only [go_sem, seval, an_, ar_, ae_, ad_, aj_, ac_, ab_, aa_, hw1, hw2, hall, bf_, a7_, ak_, aq_] <;> rfl)) ?_
  refine .ret ⟨.inr rfl, ?_⟩
  first | (have e : cg_ l a d ls = false := (by rw [hN _ h39]; rfl); rw [j6_ e, e]; exact ttP.out_lstB (c := 1000) (by simp only [Tryz.results82]; rfl) (by simp only [bd_, bo_, go_sem, seval, an_, ar_, ae_, ad_, aj_, ac_, ab_, aa_, hw1, hw2, hall, bf_, a7_, ak_, aq_]) (by simp only [bn_, go_sem, seval, an_, ar_, ae_, ad_, aj_, ac_, ab_, aa_, hw1, hw2, hall, bf_, a7_, ak_, aq_] <;> rfl) (fun i b hb => by cases i with | zero => exact hb | succ i => simp [TT.lst, TT.BL] at hb)) | (rw [hG hJ, hJ]; exact ttP.out_lstB (c := 1000) (by simp only [Tryz.results82]; rfl) (by simp only [bd_, bo_, go_sem, seval, an_, ar_, ae_, ad_, aj_, ac_, ab_, aa_, hw1, hw2, hall, bf_, a7_, ak_, aq_]) (by simp only [bn_, go_sem, seval, an_, ar_, ae_, ad_, aj_, ac_, ab_, aa_, hw1, hw2, hall, bf_, a7_, ak_, aq_] <;> rfl) (fun i b hb => by show bk_ _ _ = _; rw [dl_]; exact hb))
 ·refine .skip (.seq (.rgn [] (by simp only [go_sem, seval, an_, ar_, ae_, ad_, aj_, ac_, ab_, aa_, hw1, hw2, hall, bf_, a7_, ak_, aq_]; rfl) ?_ ?_))
  ·(first | trivial | (simp; done) | (simp only [T3_] at h43; and_intros <;> first | omega | (simp; done) | (simp; omega)))
  refine .seqJ (fun u : Unit => ⟨[.sl false (pgR l), .i .i64 a, .i .i64 d, .no, .no, .no, .no, .no, .no, .no, .sl false (pgR (ls.map e8_)), .no, .no, .no, .no, .no, .no, .no, .no, .no, .no, .no, .no, .no, .no, .no, .no, .no, .no, .no, .no, .no, .no, .no, .no, .no, .no, .no, .no, .no, .no, .no, .no, .no, .no, .no, .no, .no, .no, .no, .no, .no, .no, .no, .no, .no, .no, .no, .no, .no, .no, .no, .no, .no], bk_ [], us []⟩) (fun u : Unit => cg_ l a d ls = true) ?_ (fun u hJ => ?_)
  ·refine .seq (.rgn [] (by simp only [go_sem, seval, an_, ar_, ae_, ad_, aj_, ac_, ab_, aa_, hw1, hw2, hall, bf_, a7_, ak_, aq_]; rfl) ?_ ?_)
   ·(first | trivial | (simp; done) | (simp only [T3_] at h43; and_intros <;> first | omega | (simp; done) | (simp; omega)))
   refine .block (.loopK (fun k : Nat => ⟨[.sl false (pgR l), .i .i64 a, .i .i64 d, .no, .no, .no, .no, .no, .no, .no, .ow 100 4 0 k, .no, .no, .no, .no, .no, .no, .no, .no, .no, .no, .no, .no, .no, .no, .no, .no, .no, .no, .no, .no, .no, .no, .no, .no, .no, .no, .no, .no, .no, .sl false (cb_ ls), .i .i64 ls.length, .i .i64 k, .no, .no, .no, .no, .no, .no, .no, .no, .no, .no, .no, .no, .no, .no, .no, .no, .no, .no, .no, .no, .no], bk_ [(100, ⟨99, 4, pgR ((ls.take k).map e8_)⟩)], us [100]⟩) (fun k : Nat => k ≤ ls.length ∧ cg_ l a d ls = true) (fun k : Nat => ls.length - k) (0) ?_ ?_ (fun k hI => ?_))
   ·exact ⟨Nat.zero_le _, by rw [hN _ h39]; rfl⟩
   ·refine Can.trans (Can.ownSlot 10 100 99 4 (by simp only [go_sem, seval, an_, ar_, ae_, ad_, aj_, ac_, ab_, aa_, hw1, hw2, hall, bf_, a7_, ak_, aq_] <;> rfl) (by simp only [go_sem, seval, an_, ar_, ae_, ad_, aj_, ac_, ab_, aa_, hw1, hw2, hall, bf_, a7_, ak_, aq_]) (by simp only [go_sem, seval, an_, ar_, ae_, ad_, aj_, ac_, ab_, aa_, hw1, hw2, hall, bf_, a7_, ak_, aq_] <;> rfl)) ?_
    exact Can.weak (Weak.lit (by simp only [go_sem, seval, an_, ar_, ae_, ad_, aj_, ac_, ab_, aa_, hw1, hw2, hall, bf_, a7_, ak_, aq_, ay_, leV, aw_, ax_, V.inn, us, T9_, Ta_] <;> ((try simp))) (by simp only [go_sem, seval, an_, ar_, ae_, ad_, aj_, ac_, ab_, aa_, hw1, hw2, hall, bf_, a7_, ak_, aq_, ay_, leV, aw_, ax_, V.inn, us, T9_, Ta_]) (by simp only [go_sem, seval, an_, ar_, ae_, ad_, aj_, ac_, ab_, aa_, hw1, hw2, hall, bf_, a7_, ak_, aq_, ay_, leV, aw_, ax_, V.inn, us, T9_, Ta_] <;> ((try simp [pgR]))))
   refine .seq (.rgn [] (by simp only [go_sem, seval, an_, ar_, ae_, ad_, aj_, ac_, ab_, aa_, hw1, hw2, hall, bf_, a7_, ak_, aq_]; rfl) ?_ ?_)
   ·(first | trivial | (simp; done) | (simp only [T3_] at h43; and_intros <;> first | omega | (simp; done) | (simp; omega)))
   refine .seq (.condB (by simp only [go_sem, seval, an_, ar_, ae_, ad_, aj_, ac_, ab_, aa_, hw1, hw2, hall, bf_, a7_, ak_, aq_]; rfl) (by simp only [go_sem, seval, an_, ar_, ae_, ad_, aj_, ac_, ab_, aa_, hw1, hw2, hall, bf_, a7_, ak_, aq_]) (fun h43 => ?_) (fun h43 => ?_))
   ·refine .skip (.seq (.block (.seq (.rgn [] (by simp only [go_sem, seval, an_, ar_, ae_, ad_, aj_, ac_, ab_, aa_, hw1, hw2, hall, bf_, a7_, ak_, aq_, db_ (show k < ls.length by simpa using h43)]; rfl) ?_ ?_))))
    ·(first | trivial | (simp; done) | (simp only [T3_] at h43; and_intros <;> first | omega | (simp; done) | (simp; omega)))
    refine .rgn [dc_ (k < ls.length) (fun h => n4_ (ls.getD k []) (by have := hls _ (b3_ (d := []) h); omega))] (by simp only [go_sem, seval, an_, ar_, ae_, ad_, aj_, ac_, ab_, aa_, hw1, hw2, hall, bf_, a7_, ak_, aq_]; rfl) ?_ ?_
    ·(first | trivial | (simp; done) | (simp only [T3_] at h43; and_intros <;> first | omega | (simp; done) | (simp; omega)))
    refine .rgn [] (by simp only [go_sem, seval, an_, ar_, ae_, ad_, aj_, ac_, ab_, aa_, hw1, hw2, hall, bf_, a7_, ak_, aq_]; rfl) ?_ ?_
    ·(first | trivial | (simp; done) | (simp only [T3_] at h43; and_intros <;> first | omega | (simp; done) | (simp; omega)))
    refine Exists.intro (k + 1) ⟨?_, ?_, ?_⟩
    ·simp at h43; exact ⟨by omega, hI.2⟩
    ·simp at h43; omega
    refine Can.trans (Can.swap 60 100 (by decide) (by decide) (by decide) (by decide) (by simp only [go_sem, seval, an_, ar_, ae_, ad_, aj_, ac_, ab_, aa_, hw1, hw2, hall, bf_, a7_, ak_, aq_, V.cl]) (by simp only [go_sem, seval, an_, ar_, ae_, ad_, aj_, ac_, ab_, aa_, hw1, hw2, hall, bf_, a7_, ak_, aq_, V.cl]) (by simp only [go_sem, seval, an_, ar_, ae_, ad_, aj_, ac_, ab_, aa_, hw1, hw2, hall, bf_, a7_, ak_, aq_, b5_, sw, swM, rnB] <;> rfl) (by simp only [go_sem, seval, an_, ar_, ae_, ad_, aj_, ac_, ab_, aa_, hw1, hw2, hall, bf_, a7_, ak_, aq_, b5_, sw, swM, rnB] <;> rfl) (by simp only [go_sem, seval, an_, ar_, ae_, ad_, aj_, ac_, ab_, aa_, hw1, hw2, hall, bf_, a7_, ak_, aq_, b5_, sw, swM, rnB] <;> rfl)) ?_
    exact Can.weak (Weak.lit (by simp only [go_sem, seval, an_, ar_, ae_, ad_, aj_, ac_, ab_, aa_, hw1, hw2, hall, bf_, a7_, ak_, aq_, ay_, leV, aw_, ax_, V.inn, us, T9_, Ta_] <;> (rw [bx_ (by simp at h43; omega) (by simp at h43; omega)]; (try simp))) (by simp only [go_sem, seval, an_, ar_, ae_, ad_, aj_, ac_, ab_, aa_, hw1, hw2, hall, bf_, a7_, ak_, aq_, ay_, leV, aw_, ax_, V.inn, us, T9_, Ta_]) (by simp only [go_sem, seval, an_, ar_, ae_, ad_, aj_, ac_, ab_, aa_, hw1, hw2, hall, bf_, a7_, ak_, aq_, ay_, leV, aw_, ax_, V.inn, us, T9_, Ta_] <;> (rw [bkTk (by simpa using h43), aj_])))
   ·refine .exit ?_
    refine Exists.intro (()) ⟨?_, ?_⟩
    ·exact hI.2
    refine Can.trans (Can.frz 100 (by simp only [go_sem, seval, an_, ar_, ae_, ad_, aj_, ac_, ab_, aa_, hw1, hw2, hall, bf_, a7_, ak_, aq_] <;> rfl) (by simp only [go_sem, seval, an_, ar_, ae_, ad_, aj_, ac_, ab_, aa_, hw1, hw2, hall, bf_, a7_, ak_, aq_]) (by simp only [go_sem, seval, an_, ar_, ae_, ad_, aj_, ac_, ab_, aa_, hw1, hw2, hall, bf_, a7_, ak_, aq_] <;> rfl) (by simp only [go_sem, seval, an_, ar_, ae_, ad_, aj_, ac_, ab_, aa_, hw1, hw2, hall, bf_, a7_, ak_, aq_] <;> rfl)) ?_
    exact Can.weak (Weak.lit (by simp only [go_sem, seval, an_, ar_, ae_, ad_, aj_, ac_, ab_, aa_, hw1, hw2, hall, bf_, a7_, ak_, aq_, ay_, leV, aw_, ax_, V.inn, us, T9_, Ta_] <;> (simp only [T4_] at h43; (obtain rfl : k = ls.length := (by omega)); simp [T1_, ae_, leV, by_])) (by simp only [go_sem, seval, an_, ar_, ae_, ad_, aj_, ac_, ab_, aa_, hw1, hw2, hall, bf_, a7_, ak_, aq_, ay_, leV, aw_, ax_, V.inn, us, T9_, Ta_]) (by simp only [go_sem, seval, an_, ar_, ae_, ad_, aj_, ac_, ab_, aa_, hw1, hw2, hall, bf_, a7_, ak_, aq_, ay_, leV, aw_, ax_, V.inn, us, T9_, Ta_]))
  refine .seq (.rgnD [dc_ (cg_ l a d ls = true) (fun h => r2_ [l.take a.toNat, ls.map e8_, l.drop (a.toNat + d)] (hF1 h) (hF2 h) (by simp)), bf_ [] 1000 (x9_ (h8_ l a.toNat d ls) (hC1 hJ) (hC2 hJ) (adf_ hs hls)) (ttP.lst_seg 99 4 1000 (h8_ l a.toNat d ls))] enM (by simp only [go_sem, seval, an_, ar_, ae_, ad_, aj_, ac_, ab_, aa_, hw1, hw2, hall, bf_, a7_, ak_, aq_, hw3 hJ, plR, List.map_cons, List.map_nil, T7_, List.length_nil, vy_, xg_, List.drop_zero, List.take_length, Int.toNat_natCast, show (a + (d : Int)).toNat = a.toNat + d by have := (dh_ hJ).2.1; omega]; rfl) (by exact aa9_ 1000 11 (fun j i hj hi => by (obtain _ | _ | _ | _ | _ | _ | _ | _ | _ | _ | _ | _ | _ | _ | j := j) <;> first | exact absurd rfl hj | (simp at hi; done) | (simp only [List.map, List.getElem?_cons_zero, List.getElem?_cons_succ, Option.some.injEq] at hi; subst hi; refine ⟨?_, ?_⟩ <;> simp [d3_])) (fun i hi => by simp only [List.map, List.getElem?_cons_zero, List.getElem?_cons_succ, Option.some.injEq] at hi; subst hi; refine ⟨?_, ?_⟩ <;> (intro x hx; simp only [d3_, List.nil_append, yq_, List.mem_range'_1] at hx; omega)) rfl) ?_ ?_)
  ·obtain ⟨q1, q2, q3, q4, q5, q6⟩ := dh_ hJ; exact ⟨⟨⟨⟨by omega, by omega, by omega, fun h => absurd rfl h⟩, ⟨by omega, by omega, by omega⟩, .inr (p2_ l)⟩, hJ⟩, ⟨by rw [hfl]; exact ap_ _ _, rfl, ttP.lst_own _ _ _ _⟩, c3_ (by decide) (by rw [TT.lst_len, b4_]; have := hC2 hJ; omega)⟩
  refine .ret ⟨.inr rfl, ?_⟩
  first | (have e : cg_ l a d ls = false := (by rw [hN _ h39]; rfl); rw [j6_ e, e]; exact ttP.out_lstB (c := 1000) (by simp only [Tryz.results82]; rfl) (by simp only [bd_, bo_, go_sem, seval, an_, ar_, ae_, ad_, aj_, ac_, ab_, aa_, hw1, hw2, hall, bf_, a7_, ak_, aq_]) (by simp only [bn_, go_sem, seval, an_, ar_, ae_, ad_, aj_, ac_, ab_, aa_, hw1, hw2, hall, bf_, a7_, ak_, aq_] <;> rfl) (fun i b hb => by cases i with | zero => exact hb | succ i => simp [TT.lst, TT.BL] at hb)) | (rw [hG hJ, hJ]; exact ttP.out_lstB (c := 1000) (by simp only [Tryz.results82]; rfl) (by simp only [bd_, bo_, go_sem, seval, an_, ar_, ae_, ad_, aj_, ac_, ab_, aa_, hw1, hw2, hall, bf_, a7_, ak_, aq_]) (by simp only [bn_, go_sem, seval, an_, ar_, ae_, ad_, aj_, ac_, ab_, aa_, hw1, hw2, hall, bf_, a7_, ak_, aq_] <;> rfl) (fun i b hb => by show bk_ _ _ = _; rw [dl_]; exact hb))
theorem kl_ {m : Mem} {l : List Pg} {a d : Int} {r rr : List (List V)} (h : r = rr) : LDs m [.sl false (pgR l), .i .i64 a, .i .i64 d, .sl true r] [.sl false (pgR l), .i .i64 a, .i .i64 d, .sl false rr] := by
 subst h
 exact .cons (pg_ _ _) (.cons (pg_ _ _) (.cons (pg_ _ _) (.cons (by simp only [LD]; exact .inl ⟨fun h => (by cases h), by_ _⟩) .nil)))
theorem hq_ (l : List Pg) (a : Int) (d : Nat) (ls : List Str) : ((List.range' 1000 (ttP.lst 99 4 1000 (chg l a d ls)).length).all fun l => !(decide (l < 10) || decide (1000000000 ≤ l))) = true :=
 c3_ (by decide) (by rw [TT.lst_len, b4_]; have := rk_ l a d ls; omega)
theorem yv_ (l : List Pg) (a : Int) (w : Str) (hs : ∀ p ∈ l, pgB p) (hl : l.length ≤ 2000000) (ha : -9223372036854775808 ≤ a) (ha2 : a < 9223372036854775808) (hw : w.length ≤ 2000000) : ACall En 32 [.sl false (pgR l), .i .i64 a, .s w] [] [.ow 0 4 0 (chg l a 1 [w]).length, .b (cg_ l a 1 [w])] (ttP.lst 99 4 0 (chg l a 1 [w])) := by
 refine ao_ (fn := Tryz.f32) (List.range' 1000 (ttP.NL (chg l a 1 [w]) + 1)) Tryz.func32 rfl rfl (by simp) fun C => ?_
 rw [bb_]
 simp only [Tryz.ntmps32, T7_, List.length_nil, Nat.reduceAdd, Nat.reduceSub, List.replicate_succ, List.replicate_zero, List.cons_append, List.nil_append, bu_]
 refine .seq (.rgn [] (by simp only [go_sem, seval, ad_, aa_, bf_, a7_, ak_]; rfl) ?_ ?_)
 ·(first | trivial | exact ⟨⟨kl_ rfl, rfl, ttP.lst_own _ _ _ _⟩, hq_ _ _ _ _⟩ | (simp; done))
 refine .seq (.rgn [bf_ [] 1000 (nc_ l a 1 [w] hs hl ha ha2 (by decide) (by simpa using hw) (by simp)) (ttP.lst_segB 99 4 1000 (chg l a 1 [w]) (cg_ l a 1 [w]))] (by simp only [go_sem, seval, ad_, aa_, bf_, a7_, ak_]; rfl) ?_ ?_)
 ·(first | trivial | exact ⟨⟨kl_ rfl, rfl, ttP.lst_own _ _ _ _⟩, hq_ _ _ _ _⟩ | (simp; done))
 refine .ret ⟨.inr rfl, ?_⟩
 exact ttP.out_lstB (c := 1000) (by simp only [Tryz.results32]; rfl) (by simp only [bd_, bo_, go_sem, seval, ad_, aa_, bf_, a7_, ak_]) (by simp only [bn_, go_sem, seval, ad_, aa_, bf_, a7_, ak_] <;> rfl) (fun i b hb => by show bk_ _ _ = _; rw [dl_]; exact hb)
theorem abq_ (l : List Pg) (a : Int) (w : Str) (hs : ∀ p ∈ l, pgB p) (hl : l.length ≤ 2000000) (ha : -9223372036854775808 ≤ a) (ha2 : a < 9223372036854775808) (hw : w.length ≤ 2000000) : ACall En 34 [.sl false (pgR l), .i .i64 a, .s w] [] [.ow 0 4 0 (chg l a 0 [w]).length, .b (cg_ l a 0 [w])] (ttP.lst 99 4 0 (chg l a 0 [w])) := by
 refine ao_ (fn := Tryz.f34) (List.range' 1000 (ttP.NL (chg l a 0 [w]) + 1)) Tryz.func34 rfl rfl (by simp) fun C => ?_
 rw [bb_]
 simp only [Tryz.ntmps34, T7_, List.length_nil, Nat.reduceAdd, Nat.reduceSub, List.replicate_succ, List.replicate_zero, List.cons_append, List.nil_append, bu_]
 refine .seq (.rgn [] (by simp only [go_sem, seval, ad_, aa_, bf_, a7_, ak_]; rfl) ?_ ?_)
 ·(first | trivial | exact ⟨⟨kl_ rfl, rfl, ttP.lst_own _ _ _ _⟩, hq_ _ _ _ _⟩ | (simp; done))
 refine .seq (.rgn [bf_ [] 1000 (nc_ l a 0 [w] hs hl ha ha2 (by decide) (by simpa using hw) (by simp)) (ttP.lst_segB 99 4 1000 (chg l a 0 [w]) (cg_ l a 0 [w]))] (by simp only [go_sem, seval, ad_, aa_, bf_, a7_, ak_]; rfl) ?_ ?_)
 ·(first | trivial | exact ⟨⟨kl_ rfl, rfl, ttP.lst_own _ _ _ _⟩, hq_ _ _ _ _⟩ | (simp; done))
 refine .ret ⟨.inr rfl, ?_⟩
 exact ttP.out_lstB (c := 1000) (by simp only [Tryz.results34]; rfl) (by simp only [bd_, bo_, go_sem, seval, ad_, aa_, bf_, a7_, ak_]) (by simp only [bn_, go_sem, seval, ad_, aa_, bf_, a7_, ak_] <;> rfl) (fun i b hb => by show bk_ _ _ = _; rw [dl_]; exact hb)
theorem x2_ (l : List Pg) (a : Int) (hs : ∀ p ∈ l, pgB p) (hl : l.length ≤ 2000000) (ha : -9223372036854775808 ≤ a) (ha2 : a < 9223372036854775808) : ACall En 36 [.sl false (pgR l), .i .i64 a] [] [.ow 0 4 0 (chg l a 1 []).length, .b (cg_ l a 1 [])] (ttP.lst 99 4 0 (chg l a 1 [])) := by
 refine ao_ (fn := Tryz.f36) (List.range' 1000 (ttP.NL (chg l a 1 []) + 1)) Tryz.func36 rfl rfl (by simp) fun C => ?_
 rw [bb_]
 simp only [Tryz.ntmps36, T7_, List.length_nil, Nat.reduceAdd, Nat.reduceSub, List.replicate_succ, List.replicate_zero, List.cons_append, List.nil_append, bu_]
 refine .seq (.rgn [] (by simp only [go_sem, seval, ad_, aa_, bf_, a7_, ak_]; rfl) ?_ ?_)
 ·(first | trivial | exact ⟨⟨kl_ rfl, rfl, ttP.lst_own _ _ _ _⟩, hq_ _ _ _ _⟩ | (simp; done))
 refine .seq (.rgn [bf_ [] 1000 (nc_ l a 1 [] hs hl ha ha2 (by decide) (fun s h => by cases h) (by simp)) (ttP.lst_segB 99 4 1000 (chg l a 1 []) (cg_ l a 1 []))] (by simp only [go_sem, seval, ad_, aa_, bf_, a7_, ak_]; rfl) ?_ ?_)
 ·(first | trivial | exact ⟨⟨kl_ rfl, rfl, ttP.lst_own _ _ _ _⟩, hq_ _ _ _ _⟩ | (simp; done))
 refine .ret ⟨.inr rfl, ?_⟩
 exact ttP.out_lstB (c := 1000) (by simp only [Tryz.results36]; rfl) (by simp only [bd_, bo_, go_sem, seval, ad_, aa_, bf_, a7_, ak_]) (by simp only [bn_, go_sem, seval, ad_, aa_, bf_, a7_, ak_] <;> rfl) (fun i b hb => by show bk_ _ _ = _; rw [dl_]; exact hb)
/-! two books, one behind the other -/
abbrev lP (c : Nat) (l : List Pg) : List Blk := ttP.lst 99 4 c l
theorem c2_ (c : Nat) (l : List Pg) : (lP c l).length = l.length + 1 := by rw [TT.lst_len, b4_]
theorem bh_ (c : Nat) (l : List Pg) : (lP c (bl_ mPS l 1).1).length = l.length + 1 := by rw [c2_, fj_]
theorem pR0 (l : List Pg) : LD (ky_ (List.range' 1000 (l.length + 1)) (bk_ (bu_ 1000 (lP 1000 l)))) (.ow 1000 4 0 l.length) (.sl false (pgR l)) := l5_ l fun i x hx => an6_ (c2_ 1000 l).symm hx
theorem pR1 (l : List Pg) (R : List (Nat × Blk)) : LD (ky_ (List.range' 1000 (l.length + 1)) (bk_ (bu_ 1000 (lP 1000 l) ++ R))) (.ow 1000 4 0 l.length) (.sl false (pgR l)) := l5_ l fun i x hx => row0 (c2_ 1000 l).symm hx
theorem rdU {X U : List Blk} {n i : Nat} {x : Blk} (hX : X.length = n + 1) (hx : U[i]? = some x) : bk_ (bu_ 1000 X ++ bu_ (1000 + (n + 1)) U) (1000 + (n + 1) + i) = some x := by
 rw [y2_ (by omega), dl_]; exact hx
theorem rsU {X U : List Blk} {n k i : Nat} {x : Blk} (hX : X.length = n + 1) (hU : U.length = k) (hx : U[i]? = some x) : ky_ (List.range' (1000 + (n + 1)) k) (bk_ (bu_ 1000 X ++ bu_ (1000 + (n + 1)) U)) (1000 + (n + 1) + i) = some x := by
 rw [z7_ (by rw [List.mem_range'_1]; have := (List.getElem?_eq_some_iff.1 hx).1; omega)]; exact rdU hX hx
theorem pU (u : List Pg) {X : List Blk} {n : Nat} (hX : X.length = n + 1) : LD (ky_ (List.range' (1000 + (n + 1)) (u.length + 1)) (bk_ (bu_ 1000 X ++ bu_ (1000 + (n + 1)) (lP (1000 + (n + 1)) u)))) (.ow (1000 + (n + 1)) 4 0 u.length) (.sl false (pgR u)) := l5_ u fun i x hx => rsU hX (c2_ _ u) hx
theorem pM (u : List Pg) {X : List Blk} {n : Nat} (hX : X.length = n + 1) : LD (ky_ (List.range' (1000 + (n + 1)) (u.length + 1)) (bk_ (bu_ 1000 X ++ bu_ (1000 + (n + 1)) (lP (1000 + (n + 1)) (bl_ mPS u 1).1)))) (.ow (1000 + (n + 1)) 4 0 u.length) (.sl false (pgR (bl_ mPS u 1).1)) := ak6_ u fun i x hx => rsU hX (bh_ _ u) hx
theorem c7_ {n k : Nat} (h : n + k ≤ 100000000) : ((List.range' (1000 + (n + 1)) k).all fun x => !(decide (x < 10) || decide (1000000000 ≤ x) || (List.range' 1000 (n + 1)).contains x)) = true := by
 rw [List.all_eq_true]; intro x hx; rw [List.mem_range'_1] at hx; simp [List.mem_range'_1]; omega
theorem m6_ (l : List Pg) : 0 ≤ (bl_ mPS l 1).2 := by
 have := ur_ l 1 l.length (Nat.le_refl _)
 rw [tj_ mPS (Nat.le_refl _)] at this
 omega
end
end Go.Proofs.YtefmbmafdgedmaaGreatDoor
