/- Pages as trees of places of one's own. Conditions: none. -/
import Derived.Test.YtefmbmafdgedmaaGreatDoorK18
import Derived.Test.YtefmbmafdgedmaaGreatDoorK17
import Derived.Test.YtefmbmafdgedmaaGreatDoorK20
import Derived.Test.YtefmbmafdgedmaaGreatDoorKj
import Derived.Test.YtefmbmafdgedmaaGreatDoorKr
set_option linter.unusedVariables false
set_option linter.unusedSimpArgs false
namespace Go.Proofs.YtefmbmafdgedmaaGreatDoor
section
open Go.RowKit
set_option maxRecDepth 100000
set_option maxHeartbeats 4000000
def ttP : TT Pg where
 N := fun _ => 1
 O := fun b p => [.s p.line, .b p.good, .s p.text, .ow b 1 0 p.frm.length]
 B := fun _ p => [⟨3, 1, inR p.frm⟩]
 C := pgC
 len := fun _ _ => rfl
 map := fun p η b c h => by
  have h1 : η.getD b 0 = c := by simpa using h 0 (by omega)
  exact ⟨by simp only [rns, rn, h1], by simp only [List.map_cons, List.map_nil, rnB, cz_ η _ (ac_ _)]⟩
 cl := fun p b n h => ⟨by simp only [cls, V.cl, Bool.and_true, Bool.true_and, T3_]; omega, fun x hx => by
  simp only [List.mem_singleton] at hx; subst hx; exact g4_ n _ (ac_ _)⟩
 inn := fun p b u h => ⟨by simp only [aw_, V.inn, Bool.and_true, Bool.true_and]; simpa using h 0 (by omega), fun x hx => by
  simp only [List.mem_singleton] at hx; subst hx; exact gy_ u _ (ac_ _)⟩
 own := fun p b => ⟨rfl, fun x hx => by
  simp only [List.mem_singleton] at hx; subst hx
  exact List.all_eq_true.2 fun r hr => by obtain ⟨t, _, rfl⟩ := List.mem_map.1 hr; rfl⟩
 ld := fun p b m h => by
  have h0 := h 0 _ rfl
  refine .cons (by simp only [LD, leV]) (.cons (by simp only [LD, leV]) (.cons (by simp only [LD, leV]) (.cons ?_ .nil)))
  refine LD.ow (by simpa using h0) rfl (by rw [ah_]) ?_
  have : ∀ l : List Int, LDr m (inR l) (inR l) := fun l => by
   induction l with
   | nil => exact .nil
   | cons n l ih => exact .cons (.cons (by simp only [LD, leV, and_self]) .nil) ih
  exact this _
theorem b4_ : ∀ l : List Pg, ttP.NL l = l.length
 | [] => rfl
 | p :: l => by simp only [TT.NL, T7_, b4_ l]; show 1 + _ = _; omega
theorem abb_ (l : List Int) (hl : l.length ≤ 1048576) : ACall En 130 [.sl false (inR l)] [] [.ow 0 1 0 l.length] [⟨3, 1, inR l⟩] := by
 have hp : ∀ k, cw_ (dn_ (inR l) [.i .i64 0] k) = true := fun k => gs_ (ac_ _) rfl
 have h1 : ∀ k j, ((dn_ (inR l) [.i .i64 0] k).getD j []).drop 1 = [] := fun k j => mf_ _ _ (fun r hr => pa_ hr) rfl k j
 refine ao_ (fn := Tryz.f130) [17] Tryz.func130 rfl rfl (by simp) fun C => ?_
 rw [bb_]
 simp only [Tryz.ntmps130, T7_, List.length_nil, Nat.reduceAdd, Nat.reduceSub, List.replicate_succ, List.replicate_zero, List.cons_append, List.nil_append, bu_]
 refine .seq (.rgn [] (by simp only [go_sem, seval, hp, h1, av_, ah_, ac_]; rfl) ?_ ?_)
 ·first | trivial | simp
 refine .seq (.rgn [] (by simp only [go_sem, seval, hp, h1, av_, ah_, ac_]; rfl) ?_ ?_)
 ·simp; omega
 refine .seq (.seq (.rgn [] (by simp only [go_sem, seval, hp, h1, av_, ah_, ac_]; rfl) ?_ ?_))
 ·first | trivial | simp
 refine .block (.loopK (fun k : Nat => ⟨[.sl false (inR l), .no, .no, .ow 17 1 0 l.length, .i .i64 k, .no, .no, .no, .no, .no, .no, .no, .no, .no, .no, .no, .no, .no, .no, .no, .no, .no], bk_ [(17, ⟨3, 1, dn_ (inR l) [.i .i64 0] k⟩)], us [17]⟩) (fun k : Nat => k ≤ l.length) (fun k : Nat => l.length - k) (0) ?_ ?_ (fun k hI => ?_))
 ·simp
 ·exact Can.weak (Weak.lit (by simp only [go_sem, seval, hp, h1, av_, ah_, ac_, ay_, leV, aw_, ax_, V.inn, us, T9_, Ta_] <;> (simp)) (by simp only [go_sem, seval, hp, h1, av_, ah_, ac_, ay_, leV, aw_, ax_, V.inn, us, T9_, Ta_]) (by simp only [go_sem, seval, hp, h1, av_, ah_, ac_, ay_, leV, aw_, ax_, V.inn, us, T9_, Ta_] <;> (simp [f6_, ah_])))
 refine .seq (.seq (.rgn [] (by simp only [go_sem, seval, hp, h1, av_, ah_, ac_]; rfl) ?_ ?_))
 ·first | trivial | simp
 refine .condB (by simp only [go_sem, seval, hp, h1, av_, ah_, ac_]; rfl) (by simp only [go_sem, seval, hp, h1, av_, ah_, ac_]) (fun h11 => ?_) (fun h11 => ?_)
 ·refine .skip (.seq (.block (.rgn [] (by simp only [go_sem, seval, hp, h1, av_, ah_, ac_, el_ (show k < l.length by simpa using h11)]; rfl) ?_ ?_)))
  ·simp only [T3_] at h11; simp; omega
  refine .rgn [] (by simp only [go_sem, seval, hp, h1, av_, ah_, ac_]; rfl) ?_ ?_
  ·first | trivial | simp
  refine Exists.intro (k + 1) ⟨?_, ?_, ?_⟩
  ·simp at h11; omega
  ·simp at h11; omega
  exact Can.weak (Weak.lit (by simp only [go_sem, seval, hp, h1, av_, ah_, ac_, ay_, leV, aw_, ax_, V.inn, us, T9_, Ta_] <;> (rw [bx_ (by simp at h11; omega) (by simp at h11; omega)]; simp)) (by simp only [go_sem, seval, hp, h1, av_, ah_, ac_, ay_, leV, aw_, ax_, V.inn, us, T9_, Ta_]) (by simp only [go_sem, seval, hp, h1, av_, ah_, ac_, ay_, leV, aw_, ax_, V.inn, us, T9_, Ta_] <;> (rw [← gm_ (by rw [ah_]; simpa using h11), el_ (by simpa using h11)])))
 ·refine .exit (.seq (.rgn [] (by simp only [go_sem, seval, hp, h1, av_, ah_, ac_]; rfl) ?_ ?_))
  ·first | trivial | simp
  refine .ret ⟨.inr rfl, ?_⟩
  exact Out.mem' (by simp only [Tryz.results130]; rfl) (by simp only [bd_, bo_, go_sem, seval, hp, h1, av_, ah_, ac_]) (by simp only [bn_, rns, rn, go_sem, seval, hp, h1, av_, ah_, ac_] <;> (simp)) (by simp) rfl (by decide) (by simp only [go_sem, seval, hp, h1, av_, ah_, ac_]) (by simp only [ar_, go_sem, seval, hp, h1, av_, ah_, ac_]) (by simp only [an_, go_sem, seval, hp, h1, av_, ah_, ac_] <;> (simp at h11; rw [g7_ (by simpa [ah_] using h11)]))
theorem ab5_ (p : Pg) (hs : p.frm.length ≤ 1048576) : ACall En 81 [.ag (pgC p)] [] [.ag (ttP.O 0 p)] (ttP.B 0 p) := by
 refine ao_ (fn := Tryz.f81) (List.range' 1000 (ttP.N p)) Tryz.func81 rfl rfl (by simp) fun C => ?_
 rw [bb_]
 simp only [Tryz.ntmps81, T7_, List.length_nil, Nat.reduceAdd, Nat.reduceSub, List.replicate_succ, List.replicate_zero, List.cons_append, List.nil_append, bu_]
 refine .seq (.rgn [] (by simp only [go_sem, seval, aj_, ac_]; rfl) ?_ ?_)
 ·first | trivial | simp
 refine .seq (.rgn [] (by simp only [go_sem, seval, aj_, ac_]; rfl) ?_ ?_)
 ·first | trivial | simp
 refine .seq (.rgn [] (by simp only [go_sem, seval, aj_, ac_]; rfl) ?_ ?_)
 ·first | trivial | simp
 refine .seq (.rgn [] (by simp only [go_sem, seval, aj_, ac_]; rfl) ?_ ?_)
 ·first | trivial | simp
 refine .seq (.rgn [] (by simp only [go_sem, seval, aj_, ac_]; rfl) ?_ ?_)
 ·first | trivial | simp
 refine .seq (.rgn [c4_ [] [1000] (abb_ p.frm hs)] (by simp only [go_sem, seval, aj_, ac_]; rfl) ?_ ?_)
 ·first | trivial | simp
 refine .seq (.rgn [] (by simp only [go_sem, seval, aj_, ac_]; rfl) ?_ ?_)
 ·first | trivial | simp
 refine .ret ⟨.inr rfl, ?_⟩
 exact ttP.out_one (by simp only [Tryz.results81]; rfl) (by simp only [bd_, bo_, go_sem, seval, aj_, ac_]) (by simp only [bn_, go_sem, seval, aj_, ac_] <;> rfl) (by intro i b hb; simp only [ttP, List.getElem?_cons] at hb; split at hb <;> simp_all [bk_])
theorem lo_ (l : List Pg) (hs : ∀ p ∈ l, p.frm.length ≤ 1048576) (hk : l.length ≤ 1048576) : ACall En 31 [.sl false (pgR l)] [] [.ow 0 4 0 l.length] (ttP.lst 99 4 0 l) := by
 have hN := fun k => ttP.NL_le l k
 have hO : ∀ b a, (ttP.O b a).length = 4 := fun _ _ => rfl
 have hz4 : ∀ u, aw_ u zPg = true := fun u => rfl
 have hB : ttP.NL l ≤ 1048576 := by rw [b4_]; exact hk
 refine ao_ (fn := Tryz.f31) (17 :: List.range' 1000 (ttP.NL l)) Tryz.func31 rfl rfl (by simp) fun C => ?_
 rw [bb_]
 simp only [Tryz.ntmps31, T7_, List.length_nil, Nat.reduceAdd, Nat.reduceSub, List.replicate_succ, List.replicate_zero, List.cons_append, List.nil_append, bu_]
 refine .seq (.rgn [] (by simp only [go_sem, seval, av_, ttP.OR_len, bf_, a7_, a3_, ae_, ad_, aj_, ac_]; rfl) ?_ ?_)
 ·first | trivial | simp
 refine .seq (.rgn [] (by simp only [go_sem, seval, av_, ttP.OR_len, bf_, a7_, a3_, ae_, ad_, aj_, ac_]; rfl) ?_ ?_)
 ·simp; omega
 refine .seq (.seq (.rgn [] (by simp only [go_sem, seval, av_, ttP.OR_len, bf_, a7_, a3_, ae_, ad_, aj_, ac_]; rfl) ?_ ?_))
 ·first | trivial | simp
 refine .block (.loopK (fun k : Nat => ⟨[.sl false (pgR l), .no, .no, .ow 17 4 0 l.length, .i .i64 k, .no, .no, .no, .no, .no, .no, .no, .no, .no, .no, .no, .no, .no, .no, .no, .no, .no, .no], bk_ ((17, ⟨99, 4, dn_ (ttP.OR 1000 l) zPg k⟩) :: bu_ 1000 (ttP.BL 1000 (l.take k))), us (17 :: List.range' 1000 (ttP.NL (l.take k)))⟩) (fun k : Nat => k ≤ l.length) (fun k : Nat => l.length - k) (0) ?_ ?_ (fun k hI => ?_))
 ·simp
 ·exact Can.weak (Weak.lit (by simp only [go_sem, seval, av_, ttP.OR_len, bf_, a7_, a3_, ae_, ad_, aj_, ac_, ay_, leV, aw_, ax_, V.inn, us, T9_, Ta_] <;> (simp)) (by simp only [go_sem, seval, av_, ttP.OR_len, bf_, a7_, a3_, ae_, ad_, aj_, ac_, ay_, leV, aw_, ax_, V.inn, us, T9_, Ta_]) (by simp only [go_sem, seval, av_, ttP.OR_len, bf_, a7_, a3_, ae_, ad_, aj_, ac_, ay_, leV, aw_, ax_, V.inn, us, T9_, Ta_] <;> (exact ttP.wk0 rfl hz4)))
 refine .seq (.seq (.rgn [] (by simp only [go_sem, seval, av_, ttP.OR_len, bf_, a7_, a3_, ae_, ad_, aj_, ac_]; rfl) ?_ ?_))
 ·first | trivial | simp
 refine .condB (by simp only [go_sem, seval, av_, ttP.OR_len, bf_, a7_, a3_, ae_, ad_, aj_, ac_]; rfl) (by simp only [go_sem, seval, av_, ttP.OR_len, bf_, a7_, a3_, ae_, ad_, aj_, ac_]) (fun h11 => ?_) (fun h11 => ?_)
 ·refine .skip (.seq (.block (.rgn [bf_ [] (1000 + ttP.NL (l.take k)) (ab5_ (l.getD k Pg0) (hs _ (b3_ (show k < l.length by simpa using h11)))) (ttP.seg (1000 + ttP.NL (l.take k)) (l.getD k Pg0))] (by simp only [go_sem, seval, av_, ttP.OR_len, bf_, a7_, a3_, ae_, ad_, aj_, ac_, eg_ (show k < l.length by simpa using h11), ahz_ (show 1000 + ttP.NL (l.take k) = 1000 + (ttP.BL 1000 (l.take k)).length by rw [ttP.BL_len]), ← ttP.BL_take (d := Pg0) (show k < l.length by simpa using h11)]; rfl) ?_ ?_)))
  ·simp only [T3_] at h11; have hk' : k < l.length := (by omega); have q := hN (k + 1); rw [ttP.NL_take (d := Pg0) hk'] at q; exact ⟨⟨⟨⟨by omega, by omega⟩, ⟨ap_ _ _, rfl, (ttP.own _ _).2⟩, by rw [ttP.len]; exact alu_ (by decide) (by decide) (by omega)⟩, by omega, by omega⟩, hk', hO _ _, rfl⟩
  refine .rgn [] (by simp only [go_sem, seval, av_, ttP.OR_len, bf_, a7_, a3_, ae_, ad_, aj_, ac_]; rfl) ?_ ?_
  ·first | trivial | simp
  refine Exists.intro (k + 1) ⟨?_, ?_, ?_⟩
  ·simp at h11; omega
  ·simp at h11; omega
  exact Can.weak (Weak.lit (by simp only [go_sem, seval, av_, ttP.OR_len, bf_, a7_, a3_, ae_, ad_, aj_, ac_, ay_, leV, aw_, ax_, V.inn, us, T9_, Ta_] <;> (rw [bx_ (by simp at h11; omega) (by simp at h11; omega)]; simp)) (by simp only [go_sem, seval, av_, ttP.OR_len, bf_, a7_, a3_, ae_, ad_, aj_, ac_, ay_, leV, aw_, ax_, V.inn, us, T9_, Ta_]) (by simp only [go_sem, seval, av_, ttP.OR_len, bf_, a7_, a3_, ae_, ad_, aj_, ac_, ay_, leV, aw_, ax_, V.inn, us, T9_, Ta_] <;> (exact ttP.wkS (by simpa using h11) (by decide) hO hz4 rfl)))
 ·refine .exit (.seq (.rgn [] (by simp only [go_sem, seval, av_, ttP.OR_len, bf_, a7_, a3_, ae_, ad_, aj_, ac_]; rfl) ?_ ?_))
  ·first | trivial | simp
  refine .ret ⟨.inr rfl, ?_⟩
  exact ttP.out_lst (by simp only [Tryz.results31]; rfl) (by simp only [bd_, bo_, go_sem, seval, av_, ttP.OR_len, bf_, a7_, a3_, ae_, ad_, aj_, ac_]) (by simp only [bn_, go_sem, seval, av_, ttP.OR_len, bf_, a7_, a3_, ae_, ad_, aj_, ac_] <;> rfl) (by decide) (by simp at h11; show bk_ _ = bk_ _; rw [g7_ (by rw [ttP.OR_len]; exact h11), T1_ h11])
end
section
open Go.RowKit
set_option maxRecDepth 100000
set_option maxHeartbeats 8000000
/-! ### markBareS -/
end
section
open Go.RowKit
set_option maxRecDepth 100000
set_option maxHeartbeats 8000000
/-! ### markStmtS -/
end
section
open Go.RowKit
set_option maxRecDepth 100000
theorem row0 {c n : Nat} {X : List Blk} {R : List (Nat × Blk)} {i : Nat} {x : Blk} (hn : n = X.length) (h : X[i]? = some x) : ky_ (List.range' c n) (bk_ (bu_ c X ++ R)) (c + i) = some x := by
 subst hn; exact xc_ h
theorem an6_ {c n : Nat} {X : List Blk} {i : Nat} {x : Blk} (hn : n = X.length) (h : X[i]? = some x) : ky_ (List.range' c n) (bk_ (bu_ c X)) (c + i) = some x := by
 subst hn; exact aco_ h
end
end Go.Proofs.YtefmbmafdgedmaaGreatDoor
