/- What the program tells of a program's words, as a place of its own. Conditions: none. -/
import Derived.Test.YtcigkafioinfoaaGreatDoorK1
set_option linter.unusedVariables false
set_option linter.unusedSimpArgs false
namespace Go.Proofs.YtcigkafioinfoaaGreatDoor
section
set_option maxRecDepth 100000
set_option maxHeartbeats 4000000
theorem uv_ (l : List Sg) (hl : l.length < 1099511627776) : ACall En 102 [.ow 0 4 0 l.length] [⟨98, 4, sgR l⟩] [.ow 0 4 0 l.length] [⟨98, 4, sgR l⟩] := by
 refine an_ (fn := Tryz.f102) [0] Tryz.func102 rfl rfl (by simp) fun C => ?_
 rw [bb_]
 simp only [Tryz.ntmps102, T7_, List.length_nil, Nat.reduceAdd, Nat.reduceSub, List.replicate_succ, List.replicate_zero, List.cons_append, List.nil_append, bu_]
 refine .seq (.rgn [] (by simp only [go_sem, seval, af_, ai_]; rfl) ?_ ?_)
 ·first | trivial | simp
 refine .seq (.rgn [] (by simp only [go_sem, seval, af_, ai_]; rfl) ?_ ?_)
 ·first | trivial | simp
 refine .ret ⟨.inr rfl, ?_⟩
 exact Out.mem' (by simp only [Tryz.results102]; rfl) (by simp only [ba_, bs_, go_sem, seval, af_, ai_]) (by simp only [bq_, rns, rn, go_sem, seval, af_, ai_] <;> (simp)) (by simp) rfl (by decide) (by simp only [go_sem, seval, af_, ai_]) (by simp only [bt_, go_sem, seval, af_, ai_]) (by simp only [bn_, go_sem, seval, af_, ai_] <;> (simp [dy_, af_]))
theorem te_ (l : List Sl) (hs : jo_ l = true) (hl : l.length < 4611686018427387904) : ACall En 36 [.sl false (sR l)] [] [.ow 0 4 0 (sgP l).length] [⟨98, 4, sgR (sgP l)⟩] := by
 have hE : ∀ k, pok l = true ∧ k < l.length → ACall En 101 [.i .i64 k, .s (emT (l.getD k S0)), .sl false (inR (emF (l.getD k S0)))] [] [.sl false (sgR (sgS k (l.getD k S0)))] [] := fun k h =>
  have hk := (co_ h.1).2.2 k h.2
  sz_ k _ _ (by have := ut_ hk; omega) (by rw [or_ hk]; exact Nat.le_refl _) (by have := ry_ hk; omega)
 refine an_ (fn := Tryz.f36) [20] Tryz.func36 rfl rfl (by simp) fun C => ?_
 rw [bb_]
 simp only [Tryz.ntmps36, T7_, List.length_nil, Nat.reduceAdd, Nat.reduceSub, List.replicate_succ, List.replicate_zero, List.cons_append, List.nil_append, bu_]
 refine .seq (.rgn [] (by simp only [go_sem, seval, bn_, bt_, aq_, am_, aa_, ah_, af_, ai_]; rfl) ?_ ?_)
 ·(first | trivial | (simp; done) | (simp only [T3_] at h14; have hk : k < l.length := (by omega); have h2 := (co_ hI.2).2.2 k hk; have q1 := c5_ hI.2 (k := k) (by omega); have q2 := cy_ (i := k) h2; first | exact ⟨hk, h2⟩ | omega | exact ⟨⟨hI.2, hk⟩, fun r hr => (by rw [cc_] at *; exact trivial), by simp, by omega⟩ | (refine ⟨⟨hI.2, hk⟩, of_eq_true (cc_ _), by simp, by omega⟩)))
 refine .seq (.seq (.rgn [br_ (pr_ l hs hl)] (by simp only [go_sem, seval, bn_, bt_, aq_, am_, aa_, ah_, af_, ai_]; rfl) ?_ ?_))
 ·(first | trivial | (simp; done) | (simp only [T3_] at h14; have hk : k < l.length := (by omega); have h2 := (co_ hI.2).2.2 k hk; have q1 := c5_ hI.2 (k := k) (by omega); have q2 := cy_ (i := k) h2; first | exact ⟨hk, h2⟩ | omega | exact ⟨⟨hI.2, hk⟩, fun r hr => (by rw [cc_] at *; exact trivial), by simp, by omega⟩ | (refine ⟨⟨hI.2, hk⟩, of_eq_true (cc_ _), by simp, by omega⟩)))
 refine .condB (by simp only [go_sem, seval, bn_, bt_, aq_, am_, aa_, ah_, af_, ai_]; rfl) (by simp only [go_sem, seval, bn_, bt_, aq_, am_, aa_, ah_, af_, ai_]) (fun h10 => ?_) (fun h10 => ?_)
 ·refine .seq (.rgn [] (by simp only [go_sem, seval, bn_, bt_, aq_, am_, aa_, ah_, af_, ai_]; rfl) ?_ ?_)
  ·(first | trivial | (simp; done) | (simp only [T3_] at h14; have hk : k < l.length := (by omega); have h2 := (co_ hI.2).2.2 k hk; have q1 := c5_ hI.2 (k := k) (by omega); have q2 := cy_ (i := k) h2; first | exact ⟨hk, h2⟩ | omega | exact ⟨⟨hI.2, hk⟩, fun r hr => (by rw [cc_] at *; exact trivial), by simp, by omega⟩ | (refine ⟨⟨hI.2, hk⟩, of_eq_true (cc_ _), by simp, by omega⟩)))
  refine .can (Can.ownSlot 2 20 98 4 (by simp only [go_sem, seval, bn_, bt_, aq_, am_, aa_, ah_, af_, ai_] <;> rfl) (by simp only [go_sem, seval, bn_, bt_, aq_, am_, aa_, ah_, af_, ai_]) (by simp only [go_sem, seval, bn_, bt_, aq_, am_, aa_, ah_, af_, ai_] <;> rfl)) ?_
  refine .ret ⟨.inr rfl, ?_⟩
  exact Out.mem' (by simp only [Tryz.results36]; rfl) (by simp only [ba_, bs_, go_sem, seval, bn_, bt_, aq_, am_, aa_, ah_, af_, ai_]) (by simp only [bq_, rns, rn, go_sem, seval, bn_, bt_, aq_, am_, aa_, ah_, af_, ai_] <;> (simp at h10; simp [sgP, h10])) (by simp) rfl (by decide) (by simp only [go_sem, seval, bn_, bt_, aq_, am_, aa_, ah_, af_, ai_]) (by simp only [bt_, go_sem, seval, bn_, bt_, aq_, am_, aa_, ah_, af_, ai_]) (by simp only [bn_, go_sem, seval, bn_, bt_, aq_, am_, aa_, ah_, af_, ai_] <;> (simp at h10; simp [sgP, h10, sgR]))
 ·refine .skip (.seq (.rgn [] (by simp only [go_sem, seval, bn_, bt_, aq_, am_, aa_, ah_, af_, ai_]; rfl) ?_ ?_))
  ·(first | trivial | (simp; done) | (simp only [T3_] at h14; have hk : k < l.length := (by omega); have h2 := (co_ hI.2).2.2 k hk; have q1 := c5_ hI.2 (k := k) (by omega); have q2 := cy_ (i := k) h2; first | exact ⟨hk, h2⟩ | omega | exact ⟨⟨hI.2, hk⟩, fun r hr => (by rw [cc_] at *; exact trivial), by simp, by omega⟩ | (refine ⟨⟨hI.2, hk⟩, of_eq_true (cc_ _), by simp, by omega⟩)))
  refine .seq (.seq (.rgn [] (by simp only [go_sem, seval, bn_, bt_, aq_, am_, aa_, ah_, af_, ai_]; rfl) ?_ ?_))
  ·(first | trivial | (simp; done) | (simp only [T3_] at h14; have hk : k < l.length := (by omega); have h2 := (co_ hI.2).2.2 k hk; have q1 := c5_ hI.2 (k := k) (by omega); have q2 := cy_ (i := k) h2; first | exact ⟨hk, h2⟩ | omega | exact ⟨⟨hI.2, hk⟩, fun r hr => (by rw [cc_] at *; exact trivial), by simp, by omega⟩ | (refine ⟨⟨hI.2, hk⟩, of_eq_true (cc_ _), by simp, by omega⟩)))
  refine .block (.loopK (fun k : Nat => ⟨[.no, .no, .no, .ow 20 4 0 (sgN l k).length, .no, .no, .no, .no, .no, .no, .no, .sl false (sR l), .i .i64 l.length, .i .i64 k, .no, .no, .no, .no, .no, .no, .no, .no, .no, .no, .no, .no, .no, .no, .no, .no, .no, .no], bf_ [(20, ⟨98, 4, sgR (sgN l k)⟩)], us [20]⟩) (fun k : Nat => k ≤ l.length ∧ pok l = true) (fun k : Nat => l.length - k) (0) ?_ ?_ (fun k hI => ?_))
  ·exact ⟨by simp, by simpa using h10⟩
  ·refine Can.trans (Can.ownSlot 3 20 98 4 (by simp only [go_sem, seval, bn_, bt_, aq_, am_, aa_, ah_, af_, ai_] <;> rfl) (by simp only [go_sem, seval, bn_, bt_, aq_, am_, aa_, ah_, af_, ai_]) (by simp only [go_sem, seval, bn_, bt_, aq_, am_, aa_, ah_, af_, ai_] <;> rfl)) ?_
   exact Can.weak (Weak.lit (by simp only [go_sem, seval, bn_, bt_, aq_, am_, aa_, ah_, af_, ai_, a2_, leV, az_, ay_, V.inn, us, T9_, Ta_] <;> (simp [sgN])) (by simp only [go_sem, seval, bn_, bt_, aq_, am_, aa_, ah_, af_, ai_, a2_, leV, az_, ay_, V.inn, us, T9_, Ta_]) (by simp only [go_sem, seval, bn_, bt_, aq_, am_, aa_, ah_, af_, ai_, a2_, leV, az_, ay_, V.inn, us, T9_, Ta_] <;> (simp [sgN, sgR])))
  refine .seq (.rgn [] (by simp only [go_sem, seval, bn_, bt_, aq_, am_, aa_, ah_, af_, ai_]; rfl) ?_ ?_)
  ·(first | trivial | (simp; done) | (simp only [T3_] at h14; have hk : k < l.length := (by omega); have h2 := (co_ hI.2).2.2 k hk; have q1 := c5_ hI.2 (k := k) (by omega); have q2 := cy_ (i := k) h2; first | exact ⟨hk, h2⟩ | omega | exact ⟨⟨hI.2, hk⟩, fun r hr => (by rw [cc_] at *; exact trivial), by simp, by omega⟩ | (refine ⟨⟨hI.2, hk⟩, of_eq_true (cc_ _), by simp, by omega⟩)))
  refine .seq (.condB (by simp only [go_sem, seval, bn_, bt_, aq_, am_, aa_, ah_, af_, ai_]; rfl) (by simp only [go_sem, seval, bn_, bt_, aq_, am_, aa_, ah_, af_, ai_]) (fun h14 => ?_) (fun h14 => ?_))
  ·refine .skip (.seq (.block (.seq (.rgn [] (by simp only [go_sem, seval, bn_, bt_, aq_, am_, aa_, ah_, af_, ai_, g9_ (show k < l.length by simpa using h14), aa_]; rfl) ?_ ?_))))
   ·(first | trivial | (simp; done) | (simp only [T3_] at h14; have hk : k < l.length := (by omega); have h2 := (co_ hI.2).2.2 k hk; have q1 := c5_ hI.2 (k := k) (by omega); have q2 := cy_ (i := k) h2; first | exact ⟨hk, h2⟩ | omega | exact ⟨⟨hI.2, hk⟩, fun r hr => (by rw [cc_] at *; exact trivial), by simp, by omega⟩ | (refine ⟨⟨hI.2, hk⟩, of_eq_true (cc_ _), by simp, by omega⟩)))
   refine .seq (.rgn [dw_ (k < l.length ∧ sok (l.getD k S0) = true) (fun h => za_ (l.getD k S0) h.2 (gp_ hs h.1))] (by simp only [go_sem, seval, bn_, bt_, aq_, am_, aa_, ah_, af_, ai_]; rfl) ?_ ?_)
   ·(first | trivial | (simp; done) | (simp only [T3_] at h14; have hk : k < l.length := (by omega); have h2 := (co_ hI.2).2.2 k hk; have q1 := c5_ hI.2 (k := k) (by omega); have q2 := cy_ (i := k) h2; first | exact ⟨hk, h2⟩ | omega | exact ⟨⟨hI.2, hk⟩, fun r hr => (by rw [cc_] at *; exact trivial), by simp, by omega⟩ | (refine ⟨⟨hI.2, hk⟩, of_eq_true (cc_ _), by simp, by omega⟩)))
   refine .rgn [dw_ (pok l = true ∧ k < l.length) (hE k)] (by simp only [go_sem, seval, bn_, bt_, aq_, am_, aa_, ah_, af_, ai_]; rfl) ?_ ?_
   ·(first | trivial | (simp; done) | (simp only [T3_] at h14; have hk : k < l.length := (by omega); have h2 := (co_ hI.2).2.2 k hk; have q1 := c5_ hI.2 (k := k) (by omega); have q2 := cy_ (i := k) h2; first | exact ⟨hk, h2⟩ | omega | exact ⟨⟨hI.2, hk⟩, fun r hr => (by rw [cc_] at *; exact trivial), by simp, by omega⟩ | (refine ⟨⟨hI.2, hk⟩, of_eq_true (cc_ _), by simp, by omega⟩)))
   refine .rgn [] (by simp only [go_sem, seval, bn_, bt_, aq_, am_, aa_, ah_, af_, ai_]; rfl) ?_ ?_
   ·(first | trivial | (simp; done) | (simp only [T3_] at h14; have hk : k < l.length := (by omega); have h2 := (co_ hI.2).2.2 k hk; have q1 := c5_ hI.2 (k := k) (by omega); have q2 := cy_ (i := k) h2; first | exact ⟨hk, h2⟩ | omega | exact ⟨⟨hI.2, hk⟩, fun r hr => (by rw [cc_] at *; exact trivial), by simp, by omega⟩ | (refine ⟨⟨hI.2, hk⟩, of_eq_true (cc_ _), by simp, by omega⟩)))
   refine Exists.intro (k + 1) ⟨?_, ?_, ?_⟩
   ·simp at h14; exact ⟨by omega, hI.2⟩
   ·simp at h14; omega
   refine Can.trans (Can.swap 38 20 (by decide) (by decide) (by decide) (by decide) (by simp only [go_sem, seval, bn_, bt_, aq_, am_, aa_, ah_, af_, ai_, V.cl]) (by simp only [go_sem, seval, bn_, bt_, aq_, am_, aa_, ah_, af_, ai_, V.cl]) (by simp only [go_sem, seval, bn_, bt_, aq_, am_, aa_, ah_, af_, ai_, b9_, sw, swM, rnB] <;> rfl) (by simp only [go_sem, seval, bn_, bt_, aq_, am_, aa_, ah_, af_, ai_, b9_, sw, swM, rnB] <;> rfl) (by simp only [go_sem, seval, bn_, bt_, aq_, am_, aa_, ah_, af_, ai_, b9_, sw, swM, rnB] <;> rfl)) ?_
   exact Can.weak (Weak.lit (by simp only [go_sem, seval, bn_, bt_, aq_, am_, aa_, ah_, af_, ai_, a2_, leV, az_, ay_, V.inn, us, T9_, Ta_] <;> (rw [bv_ (by simp at h14; omega) (by simp at h14; omega)]; simp [sgN])) (by simp only [go_sem, seval, bn_, bt_, aq_, am_, aa_, ah_, af_, ai_, a2_, leV, az_, ay_, V.inn, us, T9_, Ta_]) (by simp only [go_sem, seval, bn_, bt_, aq_, am_, aa_, ah_, af_, ai_, a2_, leV, az_, ay_, V.inn, us, T9_, Ta_] <;> (simp [sgN, ru_])))
  ·refine .exit (.seq (.rgn [aa4_ [20] [] (pok l = true) (fun h => uv_ (sgN l l.length) (by have := c5_ h (Nat.le_refl _); omega))] (by simp only [go_sem, seval, bn_, bt_, aq_, am_, aa_, ah_, af_, ai_]; rfl) ?_ ?_))
   ·simp only [T4_] at h14; (obtain rfl : k = l.length := (by omega)); simp [hI.2]
   refine .ret ⟨.inr rfl, ?_⟩
   exact Out.mem' (by simp only [Tryz.results36]; rfl) (by simp only [ba_, bs_, go_sem, seval, bn_, bt_, aq_, am_, aa_, ah_, af_, ai_]) (by simp only [bq_, rns, rn, go_sem, seval, bn_, bt_, aq_, am_, aa_, ah_, af_, ai_] <;> (simp [sgP, hI.2])) (by simp) rfl (by decide) (by simp only [go_sem, seval, bn_, bt_, aq_, am_, aa_, ah_, af_, ai_]) (by simp only [bt_, go_sem, seval, bn_, bt_, aq_, am_, aa_, ah_, af_, ai_]) (by simp only [bn_, go_sem, seval, bn_, bt_, aq_, am_, aa_, ah_, af_, ai_] <;> (simp [sgP, hI.2]))
end
end Go.Proofs.YtcigkafioinfoaaGreatDoor
