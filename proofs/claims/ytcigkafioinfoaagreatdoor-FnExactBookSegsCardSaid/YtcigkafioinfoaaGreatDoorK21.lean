/- Pages as trees of places of one's own. Conditions: none. -/
import Derived.Test.YtcigkafioinfoaaGreatDoorK18
import Derived.Test.YtcigkafioinfoaaGreatDoorK17
set_option linter.unusedVariables false
set_option linter.unusedSimpArgs false
namespace Go.Proofs.YtcigkafioinfoaaGreatDoor
section
open Go.RowKit
set_option maxRecDepth 100000
set_option maxHeartbeats 4000000
def ttP : TT Pg where
 N := fun _ => 1
 O := fun b p => [.s p.line, .b p.good, .s p.text, .ow b 1 0 p.frm.length]
 B := fun _ p => [⟨3, 1, inR p.frm⟩]
 C := pgC
 len := fun _ _ => rfl
 map := fun p η b c h => by
  have h1 : η.getD b 0 = c := by simpa using h 0 (by omega)
  exact ⟨by simp only [rns, rn, h1], by simp only [List.map_cons, List.map_nil, rnB, ck_ η _ (aa_ _)]⟩
 cl := fun p b n h => ⟨by simp only [cls, V.cl, Bool.and_true, Bool.true_and, T3_]; omega, fun x hx => by
  simp only [List.mem_singleton] at hx; subst hx; exact h4_ n _ (aa_ _)⟩
 inn := fun p b u h => ⟨by simp only [aq_, V.inn, Bool.and_true, Bool.true_and]; simpa using h 0 (by omega), fun x hx => by
  simp only [List.mem_singleton] at hx; subst hx; exact in_ u _ (aa_ _)⟩
 own := fun p b => ⟨rfl, fun x hx => by
  simp only [List.mem_singleton] at hx; subst hx
  exact List.all_eq_true.2 fun r hr => by obtain ⟨t, _, rfl⟩ := List.mem_map.1 hr; rfl⟩
 ld := fun p b m h => by
  have h0 := h 0 _ rfl
  refine .cons (by simp only [LD, leV]) (.cons (by simp only [LD, leV]) (.cons (by simp only [LD, leV]) (.cons ?_ .nil)))
  refine LD.ow (by simpa using h0) rfl (by rw [ad_]) ?_
  have : ∀ l : List Int, LDr m (inR l) (inR l) := fun l => by
   induction l with
   | nil => exact .nil
   | cons n l ih => exact .cons (.cons (by simp only [LD, leV, and_self]) .nil) ih
  exact this _
theorem tl_ : ∀ l : List Pg, ttP.NL l = l.length
 | [] => rfl
 | p :: l => by simp only [TT.NL, T7_, tl_ l]; show 1 + _ = _; omega
theorem aav_ (l : List Int) (hl : l.length ≤ 1048576) : ACall En 163 [.sl false (inR l)] [] [.ow 0 1 0 l.length] [⟨3, 1, inR l⟩] := by
 have hp : ∀ k, cj_ (c3_ (inR l) [.i .i64 0] k) = true := fun k => ga_ (aa_ _) rfl
 have h1 : ∀ k j, ((c3_ (inR l) [.i .i64 0] k).getD j []).drop 1 = [] := fun k j => lj_ _ _ (fun r hr => n3_ hr) rfl k j
 refine al_ (fn := Tryz.f163) [17] Tryz.func163 rfl rfl (by simp) fun C => ?_
 rw [ay_]
 simp only [Tryz.ntmps163, T7_, List.length_nil, Nat.reduceAdd, Nat.reduceSub, List.replicate_succ, List.replicate_zero, List.cons_append, List.nil_append, bs_]
 refine .seq (.rgn [] (by simp only [go_sem, seval, hp, h1, au_, ad_, aa_]; rfl) ?_ ?_)
 ·first | trivial | simp
 refine .seq (.rgn [] (by simp only [go_sem, seval, hp, h1, au_, ad_, aa_]; rfl) ?_ ?_)
 ·simp; omega
 refine .seq (.seq (.rgn [] (by simp only [go_sem, seval, hp, h1, au_, ad_, aa_]; rfl) ?_ ?_))
 ·first | trivial | simp
 refine .block (.loopK (fun k : Nat => ⟨[.sl false (inR l), .no, .no, .ow 17 1 0 l.length, .i .i64 k, .no, .no, .no, .no, .no, .no, .no, .no, .no, .no, .no, .no, .no, .no, .no, .no, .no], a7_ [(17, ⟨3, 1, c3_ (inR l) [.i .i64 0] k⟩)], us [17]⟩) (fun k : Nat => k ≤ l.length) (fun k : Nat => l.length - k) (0) ?_ ?_ (fun k hI => ?_))
 ·simp
 ·exact Can.weak (Weak.lit (by simp only [go_sem, seval, hp, h1, au_, ad_, aa_, at_, leV, aq_, ar_, V.inn, us, T9_, Ta_] <;> (simp)) (by simp only [go_sem, seval, hp, h1, au_, ad_, aa_, at_, leV, aq_, ar_, V.inn, us, T9_, Ta_]) (by simp only [go_sem, seval, hp, h1, au_, ad_, aa_, at_, leV, aq_, ar_, V.inn, us, T9_, Ta_] <;> (simp [fp_, ad_])))
 refine .seq (.seq (.rgn [] (by simp only [go_sem, seval, hp, h1, au_, ad_, aa_]; rfl) ?_ ?_))
 ·first | trivial | simp
 refine .condB (by simp only [go_sem, seval, hp, h1, au_, ad_, aa_]; rfl) (by simp only [go_sem, seval, hp, h1, au_, ad_, aa_]) (fun h11 => ?_) (fun h11 => ?_)
 ·refine .skip (.seq (.block (.rgn [] (by simp only [go_sem, seval, hp, h1, au_, ad_, aa_, dj_ (show k < l.length by simpa using h11)]; rfl) ?_ ?_)))
  ·simp only [T3_] at h11; simp; omega
  refine .rgn [] (by simp only [go_sem, seval, hp, h1, au_, ad_, aa_]; rfl) ?_ ?_
  ·first | trivial | simp
  refine Exists.intro (k + 1) ⟨?_, ?_, ?_⟩
  ·simp at h11; omega
  ·simp at h11; omega
  exact Can.weak (Weak.lit (by simp only [go_sem, seval, hp, h1, au_, ad_, aa_, at_, leV, aq_, ar_, V.inn, us, T9_, Ta_] <;> (rw [bp_ (by simp at h11; omega) (by simp at h11; omega)]; simp)) (by simp only [go_sem, seval, hp, h1, au_, ad_, aa_, at_, leV, aq_, ar_, V.inn, us, T9_, Ta_]) (by simp only [go_sem, seval, hp, h1, au_, ad_, aa_, at_, leV, aq_, ar_, V.inn, us, T9_, Ta_] <;> (rw [← fx_ (by rw [ad_]; simpa using h11), dj_ (by simpa using h11)])))
 ·refine .exit (.seq (.rgn [] (by simp only [go_sem, seval, hp, h1, au_, ad_, aa_]; rfl) ?_ ?_))
  ·first | trivial | simp
  refine .ret ⟨.inr rfl, ?_⟩
  exact Out.mem' (by simp only [Tryz.results163]; rfl) (by simp only [az_, bj_, go_sem, seval, hp, h1, au_, ad_, aa_]) (by simp only [bg_, rns, rn, go_sem, seval, hp, h1, au_, ad_, aa_] <;> (simp)) (by simp) rfl (by decide) (by simp only [go_sem, seval, hp, h1, au_, ad_, aa_]) (by simp only [av_, go_sem, seval, hp, h1, au_, ad_, aa_]) (by simp only [ao_, go_sem, seval, hp, h1, au_, ad_, aa_] <;> (simp at h11; rw [gk_ (by simpa [ad_] using h11)]))
theorem abf_ (p : Pg) (hs : p.frm.length ≤ 1048576) : ACall En 105 [.ag (pgC p)] [] [.ag (ttP.O 0 p)] (ttP.B 0 p) := by
 refine al_ (fn := Tryz.f105) (List.range' 1000 (ttP.N p)) Tryz.func105 rfl rfl (by simp) fun C => ?_
 rw [ay_]
 simp only [Tryz.ntmps105, T7_, List.length_nil, Nat.reduceAdd, Nat.reduceSub, List.replicate_succ, List.replicate_zero, List.cons_append, List.nil_append, bs_]
 refine .seq (.rgn [] (by simp only [go_sem, seval, ai_, aa_]; rfl) ?_ ?_)
 ·first | trivial | simp
 refine .seq (.rgn [] (by simp only [go_sem, seval, ai_, aa_]; rfl) ?_ ?_)
 ·first | trivial | simp
 refine .seq (.rgn [] (by simp only [go_sem, seval, ai_, aa_]; rfl) ?_ ?_)
 ·first | trivial | simp
 refine .seq (.rgn [] (by simp only [go_sem, seval, ai_, aa_]; rfl) ?_ ?_)
 ·first | trivial | simp
 refine .seq (.rgn [] (by simp only [go_sem, seval, ai_, aa_]; rfl) ?_ ?_)
 ·first | trivial | simp
 refine .seq (.rgn [cv_ [] [1000] (aav_ p.frm hs)] (by simp only [go_sem, seval, ai_, aa_]; rfl) ?_ ?_)
 ·first | trivial | simp
 refine .seq (.rgn [] (by simp only [go_sem, seval, ai_, aa_]; rfl) ?_ ?_)
 ·first | trivial | simp
 refine .ret ⟨.inr rfl, ?_⟩
 exact ttP.out_one (by simp only [Tryz.results105]; rfl) (by simp only [az_, bj_, go_sem, seval, ai_, aa_]) (by simp only [bg_, go_sem, seval, ai_, aa_] <;> rfl) (by intro i b hb; simp only [ttP, List.getElem?_cons] at hb; split at hb <;> simp_all [a7_])
theorem pb_ (l : List Pg) (hs : ∀ p ∈ l, p.frm.length ≤ 1048576) (hk : l.length ≤ 1048576) : ACall En 44 [.sl false (pgR l)] [] [.ow 0 4 0 l.length] (ttP.lst 39 4 0 l) := by
 have hN := fun k => ttP.NL_le l k
 have hO : ∀ b a, (ttP.O b a).length = 4 := fun _ _ => rfl
 have hz4 : ∀ u, aq_ u zPg = true := fun u => rfl
 have hB : ttP.NL l ≤ 1048576 := by rw [tl_]; exact hk
 refine al_ (fn := Tryz.f44) (17 :: List.range' 1000 (ttP.NL l)) Tryz.func44 rfl rfl (by simp) fun C => ?_
 rw [ay_]
 simp only [Tryz.ntmps44, T7_, List.length_nil, Nat.reduceAdd, Nat.reduceSub, List.replicate_succ, List.replicate_zero, List.cons_append, List.nil_append, bs_]
 refine .seq (.rgn [] (by simp only [go_sem, seval, au_, ttP.OR_len, bz_, bq_, ch_, ag_, ae_, ai_, aa_]; rfl) ?_ ?_)
 ·first | trivial | simp
 refine .seq (.rgn [] (by simp only [go_sem, seval, au_, ttP.OR_len, bz_, bq_, ch_, ag_, ae_, ai_, aa_]; rfl) ?_ ?_)
 ·simp; omega
 refine .seq (.seq (.rgn [] (by simp only [go_sem, seval, au_, ttP.OR_len, bz_, bq_, ch_, ag_, ae_, ai_, aa_]; rfl) ?_ ?_))
 ·first | trivial | simp
 refine .block (.loopK (fun k : Nat => ⟨[.sl false (pgR l), .no, .no, .ow 17 4 0 l.length, .i .i64 k, .no, .no, .no, .no, .no, .no, .no, .no, .no, .no, .no, .no, .no, .no, .no, .no, .no, .no], a7_ ((17, ⟨39, 4, c3_ (ttP.OR 1000 l) zPg k⟩) :: bs_ 1000 (ttP.BL 1000 (l.take k))), us (17 :: List.range' 1000 (ttP.NL (l.take k)))⟩) (fun k : Nat => k ≤ l.length) (fun k : Nat => l.length - k) (0) ?_ ?_ (fun k hI => ?_))
 ·simp
 ·exact Can.weak (Weak.lit (by simp only [go_sem, seval, au_, ttP.OR_len, bz_, bq_, ch_, ag_, ae_, ai_, aa_, at_, leV, aq_, ar_, V.inn, us, T9_, Ta_] <;> (simp)) (by simp only [go_sem, seval, au_, ttP.OR_len, bz_, bq_, ch_, ag_, ae_, ai_, aa_, at_, leV, aq_, ar_, V.inn, us, T9_, Ta_]) (by simp only [go_sem, seval, au_, ttP.OR_len, bz_, bq_, ch_, ag_, ae_, ai_, aa_, at_, leV, aq_, ar_, V.inn, us, T9_, Ta_] <;> (exact ttP.wk0 rfl hz4)))
 refine .seq (.seq (.rgn [] (by simp only [go_sem, seval, au_, ttP.OR_len, bz_, bq_, ch_, ag_, ae_, ai_, aa_]; rfl) ?_ ?_))
 ·first | trivial | simp
 refine .condB (by simp only [go_sem, seval, au_, ttP.OR_len, bz_, bq_, ch_, ag_, ae_, ai_, aa_]; rfl) (by simp only [go_sem, seval, au_, ttP.OR_len, bz_, bq_, ch_, ag_, ae_, ai_, aa_]) (fun h11 => ?_) (fun h11 => ?_)
 ·refine .skip (.seq (.block (.rgn [bz_ [] (1000 + ttP.NL (l.take k)) (abf_ (l.getD k Pg0) (hs _ (bt_ (show k < l.length by simpa using h11)))) (ttP.seg (1000 + ttP.NL (l.take k)) (l.getD k Pg0))] (by simp only [go_sem, seval, au_, ttP.OR_len, bz_, bq_, ch_, ag_, ae_, ai_, aa_, d0_ (show k < l.length by simpa using h11), ahs_ (show 1000 + ttP.NL (l.take k) = 1000 + (ttP.BL 1000 (l.take k)).length by rw [ttP.BL_len]), ← ttP.BL_take (d := Pg0) (show k < l.length by simpa using h11)]; rfl) ?_ ?_)))
  ·simp only [T3_] at h11; have hk' : k < l.length := (by omega); have q := hN (k + 1); rw [ttP.NL_take (d := Pg0) hk'] at q; exact ⟨⟨⟨⟨by omega, by omega⟩, ⟨a6_ _ _, rfl, (ttP.own _ _).2⟩, by rw [ttP.len]; exact ajw_ (by decide) (by decide) (by omega)⟩, by omega, by omega⟩, hk', hO _ _, rfl⟩
  refine .rgn [] (by simp only [go_sem, seval, au_, ttP.OR_len, bz_, bq_, ch_, ag_, ae_, ai_, aa_]; rfl) ?_ ?_
  ·first | trivial | simp
  refine Exists.intro (k + 1) ⟨?_, ?_, ?_⟩
  ·simp at h11; omega
  ·simp at h11; omega
  exact Can.weak (Weak.lit (by simp only [go_sem, seval, au_, ttP.OR_len, bz_, bq_, ch_, ag_, ae_, ai_, aa_, at_, leV, aq_, ar_, V.inn, us, T9_, Ta_] <;> (rw [bp_ (by simp at h11; omega) (by simp at h11; omega)]; simp)) (by simp only [go_sem, seval, au_, ttP.OR_len, bz_, bq_, ch_, ag_, ae_, ai_, aa_, at_, leV, aq_, ar_, V.inn, us, T9_, Ta_]) (by simp only [go_sem, seval, au_, ttP.OR_len, bz_, bq_, ch_, ag_, ae_, ai_, aa_, at_, leV, aq_, ar_, V.inn, us, T9_, Ta_] <;> (exact ttP.wkS (by simpa using h11) (by decide) hO hz4 rfl)))
 ·refine .exit (.seq (.rgn [] (by simp only [go_sem, seval, au_, ttP.OR_len, bz_, bq_, ch_, ag_, ae_, ai_, aa_]; rfl) ?_ ?_))
  ·first | trivial | simp
  refine .ret ⟨.inr rfl, ?_⟩
  exact ttP.out_lst (by simp only [Tryz.results44]; rfl) (by simp only [az_, bj_, go_sem, seval, au_, ttP.OR_len, bz_, bq_, ch_, ag_, ae_, ai_, aa_]) (by simp only [bg_, go_sem, seval, au_, ttP.OR_len, bz_, bq_, ch_, ag_, ae_, ai_, aa_] <;> rfl) (by decide) (by simp at h11; show a7_ _ = a7_ _; rw [gk_ (by rw [ttP.OR_len]; exact h11), T1_ h11])
end
end Go.Proofs.YtcigkafioinfoaaGreatDoor
