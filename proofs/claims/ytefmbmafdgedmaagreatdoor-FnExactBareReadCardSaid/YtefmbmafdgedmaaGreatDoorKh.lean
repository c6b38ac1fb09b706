/- Without types. Conditions: none. -/
import Derived.Test.YtefmbmafdgedmaaGreatDoorKe
import Derived.Test.YtefmbmafdgedmaaGreatDoorKc
import Derived.Test.YtefmbmafdgedmaaGreatDoorKg
import Derived.Test.YtefmbmafdgedmaaGreatDoorKf
set_option linter.unusedVariables false
set_option linter.unusedSimpArgs false
namespace Go.Proofs.YtefmbmafdgedmaaGreatDoor
section
set_option maxRecDepth 100000
set_option maxHeartbeats 4000000
theorem tq_ (a b : List E) : eR (a ++ b) = eR a ++ eR b := by simp [lg_]
end
section
set_option maxRecDepth 100000
set_option maxHeartbeats 4000000
theorem kc_ (e : E) (hs : sm e = true) : ACall En 99 [.ag (eC e)] [] [.b (m8_ e)] [] := by
 refine aq_ (fn := Tryz.f99) [] Tryz.func99 rfl rfl (by simp) fun C => ?_
 rw [bb_]
 simp only [Tryz.ntmps99, T7_, List.length_nil, Nat.reduceAdd, Nat.reduceSub, List.replicate_succ, List.replicate_zero, List.cons_append, List.nil_append, bl_]
 refine .seq (.rgn [] (by simp only [go_sem, seval]; rfl) ?_ ?_)
 ·first | trivial | simp
 refine .seq (.rgn [bj_ (rb_ e E0 hs rfl)] (by simp only [go_sem, seval, E0, E.kind, E.n, E.s, E.kids, eR]; rfl) ?_ ?_)
 ·first | trivial | simp
 refine .ret ⟨.inr rfl, ?_⟩
 exact Out.plain (by simp only [Tryz.results99]; rfl) (by simp only [a4_, bh_, go_sem, seval] <;> (split <;> rfl)) (by simp only [bg_, go_sem, seval] <;> (rfl)) (by simp only [go_sem, seval])
theorem iv_ (e : E) (hs : sm e = true) : ACall En 115 [.ag (eC e)] [] [.b (m8_ e)] [] := by
 refine aq_ (fn := Tryz.f115) [] Tryz.func115 rfl rfl (by simp) fun C => ?_
 rw [bb_]
 simp only [Tryz.ntmps115, T7_, List.length_nil, Nat.reduceAdd, Nat.reduceSub, List.replicate_succ, List.replicate_zero, List.cons_append, List.nil_append, bl_]
 refine .seq (.rgn [] (by simp only [go_sem, seval]; rfl) ?_ ?_)
 ·first | trivial | simp
 refine .seq (.rgn [bj_ (ly_ e E0 hs rfl)] (by simp only [go_sem, seval, E0, E.kind, E.n, E.s, E.kids, eR]; rfl) ?_ ?_)
 ·first | trivial | simp
 refine .ret ⟨.inr rfl, ?_⟩
 exact Out.plain (by simp only [Tryz.results115]; rfl) (by simp only [a4_, bh_, go_sem, seval] <;> (split <;> rfl)) (by simp only [bg_, go_sem, seval] <;> (rfl)) (by simp only [go_sem, seval])
theorem o4_ {l : List E} {k : Nat} (h : k < l.length) : jq_ (l.drop k) = (pla (l.getD k E0) && jq_ (l.drop (k + 1))) := by
 rw [List.drop_eq_getElem_cons h, gm_ h]; simp only [jq_]
theorem aa9_ {l : List E} {k : Nat} (h : l.length ≤ k) : jq_ (l.drop k) = true := by
 rw [List.drop_of_length_le h]; simp only [jq_]
theorem xc_ (e : E) : sm e = true → ACall En 168 [.ag (eC e)] [] [.b (pla e)] [] := by
 induction e using E.ind' with
 | h e ih =>
 intro hs
 obtain ⟨a1, a2, a3⟩ := ey_ hs
 refine aq_ (fn := Tryz.f168) [] Tryz.func168 rfl rfl (by simp) fun C => ?_
 rw [bb_]
 simp only [Tryz.ntmps168, T7_, List.length_nil, Nat.reduceAdd, Nat.reduceSub, List.replicate_succ, List.replicate_zero, List.cons_append, List.nil_append, bl_]
 refine .seq (.rgn [] (by simp only [go_sem, seval]; rfl) ?_ ?_)
 ·first | trivial | simp
 refine .seq (.seq (.rgn [] (by simp only [go_sem, seval]; rfl) ?_ ?_))
 ·first | trivial | simp
 refine .condB (by simp only [go_sem, seval]; rfl) (by simp only [go_sem, seval]) (fun h6 => ?_) (fun h6 => ?_)
 ·refine .seq (.rgn [] (by simp only [go_sem, seval]; rfl) ?_ ?_)
  ·first | trivial | simp
  refine .ret ⟨.inr rfl, ?_⟩
  exact Out.plain (by simp only [Tryz.results168]; rfl) (by simp only [a4_, bh_, go_sem, seval] <;> (split <;> rfl)) (by simp only [bg_, go_sem, seval] <;> (rw [ui_]; simp_all)) (by simp only [go_sem, seval])
 ·refine .skip (.seq (.seq (.rgn [] (by simp only [go_sem, seval]; rfl) ?_ ?_)))
  ·first | trivial | simp
  refine .block (.loopK (fun k : Nat => ⟨[.no, .pt 11 4 0 0, .b false, .i .i64 k, .no, .no, .no, .no, .no, .no, .no, .no, .no, .no, .no, .no, .no, .no, .no, .no, .no], be_ [(11, ⟨48, 4, [eC e]⟩)], us [11]⟩) (fun k : Nat => k ≤ e.kids.length ∧ jq_ e.kids = jq_ (e.kids.drop k)) (fun k : Nat => e.kids.length - k) (0) ?_ ?_ (fun k hI => ?_))
  ·simp
  ·exact Can.weak (Weak.lit (by simp only [go_sem, seval, a2_, leV, az_, a0_, V.inn, us, T9_, Ta_] <;> (simp)) (by simp only [go_sem, seval, a2_, leV, az_, a0_, V.inn, us, T9_, Ta_]) (by simp only [go_sem, seval, a2_, leV, az_, a0_, V.inn, us, T9_, Ta_]))
  refine .seq (.seq (.rgn [] (by simp only [go_sem, seval]; rfl) ?_ ?_))
  ·first | trivial | simp
  refine .condB (by simp only [go_sem, seval]; rfl) (by simp only [go_sem, seval]) (fun h11 => ?_) (fun h11 => ?_)
  ·refine .skip (.seq (.block (.seq (.rgn [bj_ (ih (e.kids.getD k E0) (b5_ (by simpa using h11)) (de_ a3 _ (b5_ (by simpa using h11))))] (by simp only [go_sem, seval, ee_ (show k < e.kids.length by simpa using h11)]; rfl) ?_ ?_))))
   ·simp at h11; simp; omega
   refine .condB (by simp only [go_sem, seval]; rfl) (by simp only [go_sem, seval]) (fun h20 => ?_) (fun h20 => ?_)
   ·refine .seq (.rgn [] (by simp only [go_sem, seval]; rfl) ?_ ?_)
    ·first | trivial | simp
    refine .ret ⟨.inr rfl, ?_⟩
    exact Out.plain (by simp only [Tryz.results168]; rfl) (by simp only [a4_, bh_, go_sem, seval] <;> (split <;> rfl)) (by simp only [bg_, go_sem, seval] <;> (simp at h11; rw [ui_, hI.2, o4_ h11]; simp_all)) (by simp only [go_sem, seval])
   ·refine .skip (.rgn [] (by simp only [go_sem, seval]; rfl) ?_ ?_)
    ·first | trivial | simp
    refine Exists.intro (k + 1) ⟨?_, ?_, ?_⟩
    ·simp at h11; refine ⟨by omega, ?_⟩; rw [hI.2, o4_ h11]; simp_all
    ·simp at h11; omega
    exact Can.weak (Weak.lit (by simp only [go_sem, seval, a2_, leV, az_, a0_, V.inn, us, T9_, Ta_] <;> (rw [bt_ (by simp at h11; omega) (by simp at h11; omega)]; simp)) (by simp only [go_sem, seval, a2_, leV, az_, a0_, V.inn, us, T9_, Ta_]) (by simp only [go_sem, seval, a2_, leV, az_, a0_, V.inn, us, T9_, Ta_]))
  ·refine .exit (.seq (.rgn [] (by simp only [go_sem, seval]; rfl) ?_ ?_))
   ·first | trivial | simp
   refine .ret ⟨.inr rfl, ?_⟩
   exact Out.plain (by simp only [Tryz.results168]; rfl) (by simp only [a4_, bh_, go_sem, seval] <;> (split <;> rfl)) (by simp only [bg_, go_sem, seval] <;> (simp at h11; rw [ui_, hI.2, aa9_ h11]; simp_all)) (by simp only [go_sem, seval])
end
section
set_option maxRecDepth 100000
set_option maxHeartbeats 4000000
abbrev wr (n : Int) : Int := IntKind.i64.wrap n
def mixI (b : Str) (k : Int) : Int := wr (wr (wr (wr ((b.getD (k.tmod b.length).toNat 0).toNat * 131) + wr ((b.getD ((k * 7 + 3).tmod b.length).toNat 0).toNat * 1117)) + wr (k * 29)) + wr (wr (k.tdiv b.length) * 53))
def mixX (b : Str) (k : Int) : Int := IntKind.i64.wrap (BitVec.ofInt IntKind.i64.bits (mixI b k) ^^^ BitVec.ofInt IntKind.i64.bits (IntKind.i64.wrap ((mixI b k).tdiv 64))).toNat
def j3_ (b : Str) (p n : Int) : Int :=
 if n < 1 ∨ b.length = 0 then 0 else if p < b.length then ((b.getD p.toNat 0).toNat : Int).tmod n else (mixX b p).tmod n
end
section
set_option maxRecDepth 100000
set_option maxHeartbeats 4000000
theorem b4_ : by_ [] = [] := rfl
theorem bx_ (s : Str) (l : List Str) : by_ (s :: l) = [.s s] :: by_ l := rfl
def numI (b : Str) (p : Int) (l : List Int) : Int := l.getD (j3_ b p l.length).toNat 0
def ofI (b : Str) (p : Int) (l : List Str) : Str := l.getD (j3_ b p l.length).toNat []
end
section
set_option maxRecDepth 100000
set_option maxHeartbeats 4000000
theorem abe_ : ACall En 218 [.sl false []] [] [.ow 0 4 0 0] [⟨48, 4, []⟩] := by
 refine aq_ (fn := Tryz.f218) [17] Tryz.func218 rfl rfl (by simp) fun C => ?_
 rw [bb_]
 simp only [Tryz.ntmps218, T7_, List.length_nil, Nat.reduceAdd, Nat.reduceSub, List.replicate_succ, List.replicate_zero, List.cons_append, List.nil_append, bl_]
 refine .seq (.rgn [] (by simp only [go_sem, seval]; rfl) ?_ ?_)
 ·first | trivial | simp
 refine .seq (.seq (.rgnS [4] [nilO En] (by simp only [go_sem, seval]; rfl) ?_ ?_))
 ·first | trivial | simp
 refine .condQ (by simp only [go_sem, seval] <;> rfl) (by simp only [go_sem, seval]) ?_ ?_
 ·refine .seq (.rgn [] (by simp only [go_sem, seval]; rfl) ?_ ?_)
  ·first | trivial | simp
  refine .can (Can.ownSlot 2 17 48 4 (by simp only [go_sem, seval] <;> rfl) (by simp only [go_sem, seval]) (by simp only [go_sem, seval] <;> rfl)) ?_
  refine .ret ⟨.inr rfl, ?_⟩
  exact Out.mem' (by simp only [Tryz.results218]; rfl) (by simp only [a4_, bh_, go_sem, seval]) (by simp only [bg_, rns, rn, go_sem, seval] <;> (simp)) (by simp) rfl (by decide) (by simp only [go_sem, seval]) (by simp only [ax_, go_sem, seval]) (by simp only [ao_, go_sem, seval] <;> (simp))
 ·refine .skip (.seq (.rgn [] (by simp only [go_sem, seval]; rfl) ?_ ?_))
  ·first | trivial | simp
  refine .ret ⟨.inr rfl, ?_⟩
  exact Out.mem' (by simp only [Tryz.results218]; rfl) (by simp only [a4_, bh_, go_sem, seval]) (by simp only [bg_, rns, rn, go_sem, seval] <;> (simp)) (by simp) rfl (by decide) (by simp only [go_sem, seval]) (by simp only [ax_, go_sem, seval]) (by simp only [ao_, go_sem, seval] <;> (simp))
theorem z0_ (e : E) (r : List E) (hl : r.length < 1099511627776) : ACall En 218 [.sl false (eR (e :: r))] [] [.ow 0 4 0 (r.length + 1)] [⟨48, 4, eR (e :: r)⟩] := by
 refine aq_ (fn := Tryz.f218) [17] Tryz.func218 rfl rfl (by simp) fun C => ?_
 rw [bb_]
 simp only [Tryz.ntmps218, T7_, List.length_nil, Nat.reduceAdd, Nat.reduceSub, List.replicate_succ, List.replicate_zero, List.cons_append, List.nil_append, bl_]
 refine .seq (.rgn [] (by simp only [go_sem, seval, eR]; rfl) ?_ ?_)
 ·first | trivial | simp
 refine .seq (.seq (.rgnS [4] [nilO En] (by simp only [go_sem, seval, eR]; rfl) ?_ ?_))
 ·first | trivial | simp
 refine .condB (by simp only [go_sem, seval]; rfl) (by simp only [go_sem, seval]) (fun h4 => ?_) (fun h4 => ?_)
 ·exact absurd h4 (by simp)
 ·refine .skip (.seq (.rgn [] (by simp only [go_sem, seval, eR]; rfl) ?_ ?_))
  ·have := lv_ r; simp [lg_, a6_]; omega
  refine .ret ⟨.inr rfl, ?_⟩
  exact Out.mem' (by simp only [Tryz.results218]; rfl) (by simp only [a4_, bh_, go_sem, seval]) (by simp only [bg_, rns, rn, go_sem, seval] <;> (simp)) (by simp) rfl (by decide) (by simp only [go_sem, seval]) (by simp only [ax_, go_sem, seval]) (by simp only [ao_, go_sem, seval] <;> (simp [eR, c8_, h5_, a6_]))
theorem abt_ (l : List E) (hl : l.length < 1099511627776) : ACall En 218 [.sl false (eR l)] [] [.ow 0 4 0 l.length] [⟨48, 4, eR l⟩] := by
 cases l with
 | nil => simp only [eR]; exact abe_
 | cons e r => exact z0_ e r (by simp at hl; omega)
theorem aef_ (l : List E) (hl : l.length < 1099511627776) : ACall En 217 [.ow 0 4 0 l.length] [⟨48, 4, eR l⟩] [.ow 0 4 0 l.length] [⟨48, 4, eR l⟩] := by
 refine aq_ (fn := Tryz.f217) [0] Tryz.func217 rfl rfl (by simp) fun C => ?_
 rw [bb_]
 simp only [Tryz.ntmps217, T7_, List.length_nil, Nat.reduceAdd, Nat.reduceSub, List.replicate_succ, List.replicate_zero, List.cons_append, List.nil_append, bl_]
 refine .seq (.rgn [] (by simp only [go_sem, seval]; rfl) ?_ ?_)
 ·first | trivial | simp
 refine .seq (.rgn [] (by simp only [go_sem, seval]; rfl) ?_ ?_)
 ·first | trivial | simp
 refine .ret ⟨.inr rfl, ?_⟩
 exact Out.mem' (by simp only [Tryz.results217]; rfl) (by simp only [a4_, bh_, go_sem, seval]) (by simp only [bg_, rns, rn, go_sem, seval] <;> (simp)) (by simp) rfl (by decide) (by simp only [go_sem, seval]) (by simp only [ax_, go_sem, seval]) (by simp only [ao_, go_sem, seval] <;> (simp))
theorem abl_ (l : List E) (hl : l.length < 1099511627776) : ACall En 192 [.sl false (eR l)] [] [.ow 0 4 0 l.length] [⟨48, 4, eR l⟩] := by
 refine aq_ (fn := Tryz.f192) [14] Tryz.func192 rfl rfl (by simp) fun C => ?_
 rw [bb_]
 simp only [Tryz.ntmps192, T7_, List.length_nil, Nat.reduceAdd, Nat.reduceSub, List.replicate_succ, List.replicate_zero, List.cons_append, List.nil_append, bl_]
 refine .seq (.rgn [] (by simp only [go_sem, seval]; rfl) ?_ ?_)
 ·first | trivial | simp
 refine .seq (.rgn [cu_ [] [14] (abt_ l hl), cu_ [14] [] (aef_ l hl)] (by simp only [go_sem, seval]; rfl) ?_ ?_)
 ·first | trivial | simp
 refine .ret ⟨.inr rfl, ?_⟩
 exact Out.mem' (by simp only [Tryz.results192]; rfl) (by simp only [a4_, bh_, go_sem, seval]) (by simp only [bg_, rns, rn, go_sem, seval] <;> (simp)) (by simp) rfl (by decide) (by simp only [go_sem, seval]) (by simp only [ax_, go_sem, seval]) (by simp only [ao_, go_sem, seval] <;> (simp))
end
section
set_option maxRecDepth 100000
set_option maxHeartbeats 4000000
def lm_ (l : List E) (k : Nat) : List (List V) := eR (eu_ (l.take k) ++ l.drop k)
theorem sa_ (l : List E) (k : Nat) (h : k ≤ l.length) : (lm_ l k).length = l.length := by simp [lm_, lv_, gs_]; omega
theorem b7_ (l : List E) (k : Nat) : cr_ (lm_ l k) = true := h5_ _
theorem xp_ (l : List E) : lm_ l 0 = eR l := by simp [lm_, eu_]
theorem zi_ (l : List E) (k : Nat) (h : l.length ≤ k) : lm_ l k = eR (eu_ l) := by simp [lm_, T1_ h, List.drop_of_length_le h]
theorem yg_ {l : List E} {k : Nat} (h : k < l.length) {r : List V} (hr : r = eC (bare (l.getD k E0))) : (lm_ l k).set k r = lm_ l (k + 1) := by
 subst hr
 unfold lm_
 rw [t6_ h, tq_, tq_, tq_, List.set_append_right _ _ (by rw [lv_, gs_, List.length_take]; omega), lv_, gs_, List.length_take, Nat.min_eq_left (Nat.le_of_lt h), Nat.sub_self, List.drop_eq_getElem_cons h]
 simp only [eR, List.set_cons_zero, List.append_assoc, List.cons_append, List.nil_append]
theorem abu_ : ∀ {l : List E} (r : List V), r ∈ eR l → r.length = 4 := fun {l} r hr => by
 rw [lg_] at hr; obtain ⟨e, _, rfl⟩ := List.mem_map.1 hr; rw [a6_]; rfl
theorem ca_ (l : List E) (k j : Nat) : ((lm_ l k).getD j []).drop 4 = [] := by
 rw [T8_]
 cases h : (lm_ l k)[j]? with
 | none => rfl
 | some r => have := abu_ r (List.mem_of_getElem? h); simp only [Option.getD_some]; exact List.drop_of_length_le (by omega)
mutual
theorem ql_ : ∀ e : E, sm e = true → sm (bare e) = true
 | .mk k n s kids, h => by
  simp only [sm, T5_] at h
  simp only [bare]
  by_cases hk : k = 4
  ·rw [if_pos hk]
   cases kids with
   | nil => simp only [rf_, sm, T5_]; exact ⟨⟨h.1.1, by simp⟩, rfl⟩
   | cons a r => simp only [rf_]; simp only [sms, T5_] at h; exact ql_ a h.2.1
  ·rw [if_neg hk]
   simp only [sm, T5_]
   exact ⟨⟨h.1.1, by rw [gs_]; exact h.1.2⟩, pg_ kids h.2⟩
theorem pg_ : ∀ l : List E, sms l = true → sms (eu_ l) = true
 | [], _ => by simp only [eu_, sms]
 | e :: r, h => by
  simp only [sms, T5_] at h
  simp only [eu_, sms, ql_ e h.1, pg_ r h.2, Bool.and_self]
end
theorem ac9_ (e : E) : wf e = true → sm e = true → ACall En 145 [.ag (eC e)] [] [.ag (eC (bare e))] [] := by
 induction e using E.ind' with
 | h e ih =>
 intro hw hs
 obtain ⟨a1, a2, a3⟩ := ey_ hs
 obtain ⟨w1, w2⟩ := abv_ hw
 have a4 := acv_ hs
 refine aq_ (fn := Tryz.f145) [] Tryz.func145 rfl rfl (by simp) fun C => ?_
 rw [bb_]
 simp only [Tryz.ntmps145, T7_, List.length_nil, Nat.reduceAdd, Nat.reduceSub, List.replicate_succ, List.replicate_zero, List.cons_append, List.nil_append, bl_]
 refine .seq (.rgn [] (by simp only [go_sem, seval, b7_, ca_]; rfl) ?_ ?_)
 ·first | trivial | simp
 refine .seq (.seq (.rgn [] (by simp only [go_sem, seval, b7_, ca_]; rfl) ?_ ?_))
 ·first | trivial | simp
 refine .condB (by simp only [go_sem, seval, b7_, ca_]; rfl) (by simp only [go_sem, seval, b7_, ca_]) (fun h8 => ?_) (fun h8 => ?_)
 ·refine .seq (.rgn [bj_ (ih (e.kids.getD 0 E0) (b5_ (w1 (by simpa using h8))) (qc_ w2 _ (b5_ (w1 (by simpa using h8)))) (de_ a3 _ (b5_ (w1 (by simpa using h8)))))] (by simp only [go_sem, seval, b7_, ca_, ee_ (w1 (by simpa using h8))]; rfl) ?_ ?_)
  ·have := w1 (by simpa using h8); simp; omega
  refine .ret ⟨.inr rfl, ?_⟩
  exact Out.plain (by simp only [Tryz.results145]; rfl) (by simp only [a4_, bh_, go_sem, seval, b7_, ca_] <;> (split <;> rfl)) (by simp only [bg_, go_sem, seval, b7_, ca_] <;> (rw [wg_ (e := e) (by simpa using h8) (w1 (by simpa using h8))])) (by simp only [go_sem, seval, b7_, ca_])
 ·refine .skip (.seq (.rgnD [cu_ [] [32] (abl_ e.kids a4)] enM (by simp only [go_sem, seval, b7_, ca_]; rfl) (by rfl) ?_ ?_))
  ·first | trivial | simp
  refine .seq (.seq (.rgn [] (by simp only [go_sem, seval, b7_, ca_]; rfl) ?_ ?_))
  ·first | trivial | simp
  refine .block (.loopK (fun k : Nat => ⟨[.no, .pt 11 4 0 0, .pt 12 4 0 0, .pt 13 4 0 0, .no, .no, .no, .no, .no, .no, .no, .no, .no, .no, .no, .no, .no, .no, .no, .no, .no, .no, .no, .no, .no, .sl false (eR e.kids), .i .i64 e.kids.length, .i .i64 k, .no, .no, .no, .no, .no, .no, .no, .no, .no, .no, .no, .no], be_ [(11, ⟨48, 4, [eC e]⟩), (12, ⟨48, 4, [[.i .i64 0, .i .i64 0, .s [], .sl true []]]⟩), (13, ⟨48, 4, [[.i .i64 e.kind, .i .i64 e.n, .s e.s, .ow 32 4 0 e.kids.length]]⟩), (32, ⟨48, 4, lm_ e.kids k⟩)], us [11, 12, 13, 32]⟩) (fun k : Nat => k ≤ e.kids.length) (fun k : Nat => e.kids.length - k) (0) ?_ ?_ (fun k hI => ?_))
  ·simp
  ·exact Can.weak (Weak.lit (by simp only [go_sem, seval, b7_, ca_, a2_, leV, az_, a0_, V.inn, us, T9_, Ta_] <;> (simp)) (by simp only [go_sem, seval, b7_, ca_, a2_, leV, az_, a0_, V.inn, us, T9_, Ta_]) (by simp only [go_sem, seval, b7_, ca_, a2_, leV, az_, a0_, V.inn, us, T9_, Ta_] <;> (simp [xp_, ja_, h5_])))
  refine .seq (.rgn [] (by simp only [go_sem, seval, b7_, ca_]; rfl) ?_ ?_)
  ·first | trivial | simp
  refine .seq (.condB (by simp only [go_sem, seval, b7_, ca_]; rfl) (by simp only [go_sem, seval, b7_, ca_]) (fun h28 => ?_) (fun h28 => ?_))
  ·refine .skip (.seq (.block (.seq (.rgn [] (by simp only [go_sem, seval, b7_, ca_, ee_ (show k < e.kids.length by simpa using h28)]; rfl) ?_ ?_))))
   ·simp at h28; simp; omega
   refine .rgnD [bj_ (ih (e.kids.getD k E0) (b5_ (by simpa using h28)) (qc_ w2 _ (b5_ (by simpa using h28))) (de_ a3 _ (b5_ (by simpa using h28))))] enM (by simp only [go_sem, seval, b7_, ca_, yg_ (show k < e.kids.length by simpa using h28) (a6_ _).symm, sa_ e.kids k hI, b7_]; rfl) (by rfl) ?_ ?_
   ·simp at h28; simp [sa_ e.kids k hI]; omega
   refine .rgn [] (by simp only [go_sem, seval, b7_, ca_]; rfl) ?_ ?_
   ·first | trivial | simp
   refine Exists.intro (k + 1) ⟨?_, ?_, ?_⟩
   ·simp at h28; omega
   ·simp at h28; omega
   exact Can.weak (Weak.lit (by simp only [go_sem, seval, b7_, ca_, a2_, leV, az_, a0_, V.inn, us, T9_, Ta_] <;> (rw [bt_ (by simp at h28; omega) (by simp at h28; omega)]; simp)) (by simp only [go_sem, seval, b7_, ca_, a2_, leV, az_, a0_, V.inn, us, T9_, Ta_]) (by simp only [go_sem, seval, b7_, ca_, a2_, leV, az_, a0_, V.inn, us, T9_, Ta_]))
  ·refine .exit (.seq (.rgn [] (by simp only [go_sem, seval, b7_, ca_]; rfl) ?_ ?_))
   ·first | trivial | simp
   refine .frz 32 (by simp only [go_sem, seval, b7_, ca_]; rfl) (by simp only [go_sem, seval, b7_, ca_]) (by simp only [go_sem, seval, b7_, ca_]; rfl) (by simp only [go_sem, seval, b7_, ca_]; rfl) ?_
   refine .ret ⟨.inr rfl, ?_⟩
   exact Out.plain (by simp only [Tryz.results145]; rfl) (by simp only [a4_, bh_, go_sem, seval, b7_, ca_] <;> (split <;> rfl)) (by simp only [bg_, go_sem, seval, b7_, ca_] <;> (simp at h28; rw [wi_ (e := e) (by simpa using h8), zi_ _ _ h28]; simp [a6_, gs_, lv_, E.kind, E.n, E.s, E.kids, T1_])) (by simp only [go_sem, seval, b7_, ca_])
theorem ml_ (e : E) (hs : sm e = true) : ACall En 117 [.ag (eC e)] [] [.b (pe e)] [] := by
 refine aq_ (fn := Tryz.f117) [] Tryz.func117 rfl rfl (by simp) fun C => ?_
 rw [bb_]
 simp only [Tryz.ntmps117, T7_, List.length_nil, Nat.reduceAdd, Nat.reduceSub, List.replicate_succ, List.replicate_zero, List.cons_append, List.nil_append, bl_]
 refine .seq (.rgn [] (by simp only [go_sem, seval]; rfl) ?_ ?_)
 ·first | trivial | simp
 refine .seq (.rgnD [bj_ (gr_ e hs), ef_ (eok e = true) (fun h => ac9_ e (aay_ h) hs), bj_ (ly_ (bare e) e (ql_ e hs) hs)] enM (by simp only [go_sem, seval]; rfl) (by rfl) ?_ ?_)
 ·simp
 refine .ret ⟨.inr rfl, ?_⟩
 exact Out.plain (by simp only [Tryz.results117]; rfl) (by simp only [a4_, bh_, go_sem, seval] <;> (split <;> rfl)) (by simp only [bg_, go_sem, seval] <;> (rw [← z8_])) (by simp only [go_sem, seval])
end
section
set_option maxRecDepth 100000
set_option maxHeartbeats 1000000
def wdR (l : Wd) : List (List V) := l.map fun p => [.s p.1, .i .i64 p.2]
theorem aw_ (l : Wd) : (wdR l).length = l.length := by simp [wdR]
theorem m4_ (a b : Wd) : wdR (a ++ b) = wdR a ++ wdR b := by simp [wdR]
theorem ap_ : ∀ l : Wd, cr_ (wdR l) = true
 | [] => rfl
 | p :: l => by simp only [wdR, List.map_cons, cr_, dp_, V.pure, Bool.true_and]; exact ap_ l
theorem ac6_ (l : Wd) : ∀ r ∈ wdR l, r.length = 2 := fun r hr => by
 obtain ⟨p, _, rfl⟩ := List.mem_map.1 hr; rfl
theorem vz_ {l : Wd} {k : Nat} (h : k < l.length) : (wdR l).getD k [] = [.s (l.getD k ([], 0)).1, .i .i64 (l.getD k ([], 0)).2] := by
 simp [wdR, T8_, T6_ h]
theorem ci_ (l : Wd) : (∀ r, r ∈ wdR l → r.length = 2) = True := eq_true (ac6_ l)
theorem uq_ {e : E} {d : Nat} (h : form e d = true) (hm : many e d ≤ 1000) (must nx : Int) : (src e must nx).length ≤ 3000 := by
 rw [← List.length_map (f := (·.1)), fg_]
 have := er_ d e must h; omega
theorem my_ (e : E) (must nx : Int) : (src e must nx).length = (wds e must).length := by
 rw [← fg_ e must nx, List.length_map]
theorem g3_ {n : Int} (h : 0 ≤ n) : Lib.itoa n = Lib.decDigits n.toNat := by unfold Lib.itoa; rw [if_neg (by omega)]
theorem ac5_ {e : E} {d : Int} (h : form e d = true) (must nx : Int) : src e must nx = brk (decide (e.kind = 3) && decide (br_ e.s < must)) (src e 0 nx) := by
 rcases (b1_ h).2 with ⟨k1, _⟩ | ⟨k1, _⟩ | ⟨k1, h1, h2, h3, h4, h5⟩ | ⟨k1, h1, h2, h3, h4⟩
 ·rw [show (decide (e.kind = 3)) = false by simp [k1]]; cases e; simp only [E.kind] at k1; subst k1; simp [src, brk]
 ·rw [show (decide (e.kind = 3)) = false by simp [k1]]; cases e; simp only [E.kind] at k1; subst k1; simp [src, brk]
 ·have := c1_ h2
  rw [mw_ k1 h3, mw_ k1 h3, show decide (br_ e.s < 0) = false by simp; omega]
  simp [k1, brk]
 ·rw [qa_ k1 h3, qa_ k1 h3]; simp [k1, brk]
def mx2 (t : Int) : Int := if t > 2 then t else 2
theorem ys_ (t : Int) : mx2 t = max 2 t := by unfold mx2; split <;> omega
theorem mn_ (d : Nat) : ∀ (e : E) (must nx : Int), form e d = true → sm e = true → many e d ≤ 1000 → 0 ≤ nx → nx + cnt e ≤ 1000000 → must ≤ 1000 → 
  ACall En 144 [.ag (eC e), .i .i64 must, .pt 0 1 0 0] [⟨3, 1, [[.i .i64 nx]]⟩] [.ow 1 2 0 (src e must nx).length] [⟨3, 1, [[.i .i64 (nx + cnt e)]]⟩, ⟨121, 2, wdR (src e must nx)⟩] := by
 induction d with
 | zero => intro e must nx h; have := (b1_ h).1; omega
 | succ d ih =>
 intro e must nx h hs hm hx hx2 hmu
 obtain ⟨a1, a2, a3⟩ := ey_ hs
 have e1 : ((d + 1 : Nat) : Int) - 1 = (d : Int) := by omega
 have hd1 : (1 : Int) ≤ ((d + 1 : Nat) : Int) := by omega
 have hc := (er_ (d + 1) e must h).2.2.2
 have g12 : (e.kind = 1 ∨ e.kind = 2) → cnt e = 1 ∧ src e must nx = [(if e.kind = 1 then Lib.decDigits e.n.toNat else e.s, nx)] ∧ (e.kind = 1 → 0 ≤ e.n ∧ e.n ≤ 1000000) := fun hk => by
  rcases (b1_ h).2 with ⟨k1, h1, h2, h3, h4⟩ | ⟨k1, h1, h2, h3⟩ | ⟨k1, _⟩ | ⟨k1, _⟩ <;> try omega
  ·cases e; simp only [E.kind, E.kids] at k1 h4; subst k1 h4; simp [cnt, qh_, src, E.n, E.kind] at *; omega
  ·cases e; simp only [E.kind, E.kids] at k1 h3; subst k1 h3; simp [cnt, qh_, src, E.s, E.kind]
 have g3 : e.kind = 3 → e.kids.length = 2 ∧ 1 ≤ br_ e.s ∧ br_ e.s ≤ 3 ∧ form (e.kids.getD 0 E0) d = true ∧ form (e.kids.getD 1 E0) d = true ∧ many (e.kids.getD 0 E0) d ≤ 1000 ∧ many (e.kids.getD 1 E0) d ≤ 1000 ∧ 0 ≤ cnt (e.kids.getD 0 E0) ∧ cnt (e.kids.getD 0 E0) ≤ 1000 ∧ nx + cnt e = nx + 1 + cnt (e.kids.getD 0 E0) + cnt (e.kids.getD 1 E0) ∧ 0 ≤ cnt (e.kids.getD 1 E0) := fun hk => by
  rcases (b1_ h).2 with ⟨k1, _⟩ | ⟨k1, _⟩ | ⟨k1, h1, h2, h3, h4, h5⟩ | ⟨k1, _⟩ <;> try omega
  rw [e1] at h4 h5
  have := c1_ h2
  have hm2 := n5_ hd1 h3
  rw [e1] at hm2
  have q1 := er_ d _ 0 h4
  have q2 := er_ d _ 0 h5
  exact ⟨h3, this.1, this.2, h4, h5, by omega, by omega, by omega, by omega, by rw [v8_ k1 h3]; omega, by omega⟩
 have g4 : e.kind = 4 → e.kids.length = 1 ∧ form (e.kids.getD 0 E0) d = true ∧ many (e.kids.getD 0 E0) d ≤ 1000 ∧ cnt e = cnt (e.kids.getD 0 E0) := fun hk => by
  rcases (b1_ h).2 with ⟨k1, _⟩ | ⟨k1, _⟩ | ⟨k1, _⟩ | ⟨k1, h1, h2, h3, h4⟩ <;> try omega
  rw [e1] at h4
  have hm2 := or_ hd1 h3
  rw [e1] at hm2
  have q1 := er_ d _ 0 h4
  exact ⟨h3, h4, by omega, aa1_ k1 h3⟩
 have g0 : e.kind = 1 ∨ e.kind = 2 ∨ e.kind = 3 ∨ e.kind = 4 := by
  rcases (b1_ h).2 with ⟨k1, _⟩ | ⟨k1, _⟩ | ⟨k1, _⟩ | ⟨k1, _⟩ <;> omega
 have hT : e.kind = 3 → src e must nx = brk (decide (br_ e.s < must)) (src (e.kids.getD 0 E0) (mx2 (br_ e.s)) (nx + 1) ++ (e.s, nx) :: src (e.kids.getD 1 E0) (br_ e.s + 1) (nx + 1 + cnt (e.kids.getD 0 E0))) ∧ nx + cnt e = nx + 1 + cnt (e.kids.getD 0 E0) + cnt (e.kids.getD 1 E0) := fun hk => ⟨by rw [ys_]; exact mw_ hk (g3 hk).1 _ _, (g3 hk).2.2.2.2.2.2.2.2.2.1⟩
 have hA : e.kind = 4 → src e must nx = src (e.kids.getD 0 E0) 4 nx ++ [([97, 115], -1), (e.s, -1)] ∧ cnt e = cnt (e.kids.getD 0 E0) := fun hk => ⟨qa_ hk (g4 hk).1 _ _, (g4 hk).2.2.2⟩
 have hL : ∀ k, k < e.kids.length → ∀ m n, (src (e.kids.getD k E0) m n).length ≤ 3000 := fun k hk m n => by
  rcases g0 with hk4 | hk4 | hk4 | hk4
  ·rcases (b1_ h).2 with ⟨k1, h1, h2, h3, h4⟩ | ⟨k1, _⟩ | ⟨k1, _⟩ | ⟨k1, _⟩ <;> try omega
   rw [h4] at hk; simp at hk
  ·rcases (b1_ h).2 with ⟨k1, _⟩ | ⟨k1, h1, h2, h3⟩ | ⟨k1, _⟩ | ⟨k1, _⟩ <;> try omega
   rw [h3] at hk; simp at hk
  ·have := g3 hk4
   have hk2 : k = 0 ∨ k = 1 := by omega
   rcases hk2 with rfl | rfl
   ·exact uq_ this.2.2.2.1 this.2.2.2.2.2.1 _ _
   ·exact uq_ this.2.2.2.2.1 this.2.2.2.2.2.2.1 _ _
  ·have := g4 hk4
   have hk2 : k = 0 := by omega
   subst hk2
   exact uq_ this.2.1 this.2.2.1 _ _
 refine aq_ (fn := Tryz.f144) [0, 150] Tryz.func144 rfl rfl (by simp) fun C => ?_
 rw [bb_]
 simp only [Tryz.ntmps144, T7_, List.length_nil, Nat.reduceAdd, Nat.reduceSub, List.replicate_succ, List.replicate_zero, List.cons_append, List.nil_append, bl_]
 refine .seq (.rgn [] (by simp only [go_sem, seval, aw_, ap_, T2_, T1_]; rfl) ?_ ?_)
 ·(first | trivial | (simp; done) | (simp [dh_, List.forall_mem_append, ci_]; done))
 refine .seq (.rgn [] (by simp only [go_sem, seval, aw_, ap_, T2_, T1_]; rfl) ?_ ?_)
 ·(first | trivial | (simp; done) | (simp [dh_, List.forall_mem_append, ci_]; done))
 refine .seqJ (fun u : Unit => ⟨[.no, .no, .no, .no, .no, .no, .no, .ow 150 2 0 (src e must nx).length, .no, .no, .no, .no, .no, .no, .no, .no, .no, .no, .no, .no, .no, .no, .no, .no, .no, .no, .no, .no, .no, .no, .no, .no, .no, .no, .no, .no, .no, .no, .no, .no, .no, .no, .no, .no, .no, .no, .no, .no, .no, .no, .no, .no, .no, .no, .no, .no, .no, .no, .no, .no, .no, .no, .no, .no, .no, .no, .no, .no, .no, .no, .no, .no, .no, .no, .no, .no, .no, .no, .no, .no, .no, .no, .no, .no, .no, .no, .no, .no, .no, .no, .no, .no, .no, .no, .no, .no, .no], be_ [(0, ⟨3, 1, [[.i .i64 (nx + cnt e)]]⟩), (150, ⟨121, 2, wdR (src e must nx)⟩)], us [150]⟩) (fun u : Unit => True) ?_ (fun u hJ => ?_)
 ·refine .seq (.rgn [] (by simp only [go_sem, seval, aw_, ap_, T2_, T1_]; rfl) ?_ ?_)
  ·(first | trivial | (simp; done) | (simp [dh_, List.forall_mem_append, ci_]; done))
  refine .block (.seqJ (fun q : Bool => ⟨[.no, .i .i64 must, .pt 0 1 0 0, .pt 13 4 0 0, .no, .no, .no, .no, .no, .no, .no, .no, .i .i64 e.kind, .b q, .no, .no, .no, .no, .no, .no, .no, .no, .no, .no, .no, .no, .no, .no, .no, .no, .no, .no, .no, .no, .no, .no, .no, .no, .no, .no, .no, .no, .no, .no, .no, .no, .no, .no, .no, .no, .no, .no, .no, .no, .no, .no, .no, .no, .no, .no, .no, .no, .no, .no, .no, .no, .no, .no, .no, .no, .no, .no, .no, .no, .no, .no, .no, .no, .no, .no, .no, .no, .no, .no, .no, .no, .no, .no, .no, .no, .no, .no, .no, .no, .no, .no, .no], be_ [(0, ⟨3, 1, [[.i .i64 nx]]⟩), (13, ⟨48, 4, [eC e]⟩)], us [13]⟩) (fun q : Bool => q = (e.kind == 1 || e.kind == 2)) ?_ (fun q hJ => ?_))
  ·refine .seq (.rgn [] (by simp only [go_sem, seval, aw_, ap_, T2_, T1_]; rfl) ?_ ?_)
   ·(first | trivial | (simp; done) | (simp [dh_, List.forall_mem_append, ci_]; done))
   refine .condB (by simp only [go_sem, seval, aw_, ap_, T2_, T1_]; rfl) (by simp only [go_sem, seval, aw_, ap_, T2_, T1_]) (fun h13 => ?_) (fun h13 => ?_)
   ·refine .skip ?_
    refine Exists.intro ((e.kind == 1 || e.kind == 2)) ⟨?_, ?_⟩
    ·rfl
    exact Can.weak (Weak.lit (by simp only [go_sem, seval, aw_, ap_, T2_, T1_, a2_, leV, az_, a0_, V.inn, us, T9_, Ta_] <;> (simp_all)) (by simp only [go_sem, seval, aw_, ap_, T2_, T1_, a2_, leV, az_, a0_, V.inn, us, T9_, Ta_]) (by simp only [go_sem, seval, aw_, ap_, T2_, T1_, a2_, leV, az_, a0_, V.inn, us, T9_, Ta_]))
   ·refine .rgn [] (by simp only [go_sem, seval, aw_, ap_, T2_, T1_]; rfl) ?_ ?_
    ·(first | trivial | (simp; done) | (simp [dh_, List.forall_mem_append, ci_]; done))
    refine Exists.intro ((e.kind == 1 || e.kind == 2)) ⟨?_, ?_⟩
    ·rfl
    exact Can.weak (Weak.lit (by simp only [go_sem, seval, aw_, ap_, T2_, T1_, a2_, leV, az_, a0_, V.inn, us, T9_, Ta_] <;> (simp_all)) (by simp only [go_sem, seval, aw_, ap_, T2_, T1_, a2_, leV, az_, a0_, V.inn, us, T9_, Ta_]) (by simp only [go_sem, seval, aw_, ap_, T2_, T1_, a2_, leV, az_, a0_, V.inn, us, T9_, Ta_]))
  refine .condB (by simp only [go_sem, seval, aw_, ap_, T2_, T1_]; rfl) (by simp only [go_sem, seval, aw_, ap_, T2_, T1_]) (fun h13 => ?_) (fun h13 => ?_)
  ·refine .seq (.rgn [] (by simp only [go_sem, seval, aw_, ap_, T2_, T1_]; rfl) ?_ ?_)
   ·(first | trivial | (simp; done) | (simp [dh_, List.forall_mem_append, ci_]; done))
   refine .seqJ (fun s : Str => ⟨[.no, .no, .pt 0 1 0 0, .pt 13 4 0 0, .no, .no, .no, .no, .s s, .no, .no, .no, .no, .no, .no, .no, .no, .no, .no, .no, .no, .no, .no, .no, .no, .no, .no, .no, .no, .no, .no, .no, .no, .no, .no, .no, .no, .no, .no, .no, .no, .no, .no, .no, .no, .no, .no, .no, .no, .no, .no, .no, .no, .no, .no, .no, .no, .no, .no, .no, .no, .no, .no, .no, .no, .no, .no, .no, .no, .no, .no, .no, .no, .no, .no, .no, .no, .no, .no, .no, .no, .no, .no, .no, .no, .no, .no, .no, .no, .no, .no, .no, .no, .no, .no, .no, .no], be_ [(0, ⟨3, 1, [[.i .i64 nx]]⟩), (13, ⟨48, 4, [eC e]⟩)], us [13]⟩) (fun s : Str => s = if e.kind = 1 then Lib.decDigits e.n.toNat else e.s) ?_ (fun s hJ => ?_)
   ·refine .seq (.rgn [] (by simp only [go_sem, seval, aw_, ap_, T2_, T1_]; rfl) ?_ ?_)
    ·(first | trivial | (simp; done) | (simp [dh_, List.forall_mem_append, ci_]; done))
    refine .condB (by simp only [go_sem, seval, aw_, ap_, T2_, T1_]; rfl) (by simp only [go_sem, seval, aw_, ap_, T2_, T1_]) (fun h20 => ?_) (fun h20 => ?_)
    ·refine .rgn [bj_ (t3_ e.n (by have := (g12 (.inl (by simpa using h20))).2.2 (by simpa using h20); omega) (by have := (g12 (.inl (by simpa using h20))).2.2 (by simpa using h20); omega))] (by simp only [go_sem, seval, aw_, ap_, T2_, T1_]; rfl) ?_ ?_
     ·(first | trivial | (simp; done) | (simp [dh_, List.forall_mem_append, ci_]; done))
     refine Exists.intro (Lib.itoa e.n) ⟨?_, ?_⟩
     ·simp_all [g3_]
     exact Can.weak (Weak.lit (by simp only [go_sem, seval, aw_, ap_, T2_, T1_, a2_, leV, az_, a0_, V.inn, us, T9_, Ta_] <;> (simp_all)) (by simp only [go_sem, seval, aw_, ap_, T2_, T1_, a2_, leV, az_, a0_, V.inn, us, T9_, Ta_]) (by simp only [go_sem, seval, aw_, ap_, T2_, T1_, a2_, leV, az_, a0_, V.inn, us, T9_, Ta_]))
    ·refine .skip ?_
     refine Exists.intro (e.s) ⟨?_, ?_⟩
     ·simp_all [g3_]
     exact Can.weak (Weak.lit (by simp only [go_sem, seval, aw_, ap_, T2_, T1_, a2_, leV, az_, a0_, V.inn, us, T9_, Ta_] <;> (simp_all)) (by simp only [go_sem, seval, aw_, ap_, T2_, T1_, a2_, leV, az_, a0_, V.inn, us, T9_, Ta_]) (by simp only [go_sem, seval, aw_, ap_, T2_, T1_, a2_, leV, az_, a0_, V.inn, us, T9_, Ta_]))
   refine .seq (.rgnS [29] [bsO En] (by simp only [go_sem, seval, aw_, ap_, T2_, T1_]; rfl) ?_ ?_)
   ·(first | trivial | (simp; done) | (simp [dh_, List.forall_mem_append, ci_]; done))
   refine .rgn [] (by simp only [go_sem, seval, aw_, ap_, T2_, T1_, bt_ (show -9223372036854775808 ≤ nx + 1 by omega) (by omega)]; rfl) ?_ ?_
   ·(first | trivial | (simp; done) | (simp [dh_, List.forall_mem_append, ci_]; done))
   refine Exists.intro (()) ⟨?_, ?_⟩
   ·trivial
   refine Can.trans (Can.swap 39 150 (by decide) (by decide) (by decide) (by decide) (by simp only [go_sem, seval, aw_, ap_, T2_, T1_, V.cl]) (by simp only [go_sem, seval, aw_, ap_, T2_, T1_, V.cl]) (by simp only [go_sem, seval, aw_, ap_, T2_, T1_, ck_, sw, swM, rnB] <;> rfl) (by simp only [go_sem, seval, aw_, ap_, T2_, T1_, ck_, sw, swM, rnB] <;> rfl) (by simp only [go_sem, seval, aw_, ap_, T2_, T1_, ck_, sw, swM, rnB] <;> rfl)) ?_
   exact Can.weak (Weak.lit (by simp only [go_sem, seval, aw_, ap_, T2_, T1_, a2_, leV, az_, a0_, V.inn, us, T9_, Ta_] <;> (first | (rw [(hT (by simpa using h35)).1, h74]; simp [brk]; (first | done | omega)) | (rw [(hA (by simpa using h82)).1]; simp) | (rw [(g12 (by simp_all)).2.1]; rfl))) (by simp only [go_sem, seval, aw_, ap_, T2_, T1_, a2_, leV, az_, a0_, V.inn, us, T9_, Ta_]) (by simp only [go_sem, seval, aw_, ap_, T2_, T1_, a2_, leV, az_, a0_, V.inn, us, T9_, Ta_] <;> (first | (rw [(hT (by simpa using h35)).1, (hT (by simpa using h35)).2, h74]; simp [brk, wdR, c8_, m4_]) | (rw [(hA (by simpa using h82)).1, (hA (by simpa using h82)).2]; simp [wdR]) | (rw [(g12 (by simp_all)).2.1, (g12 (by simp_all)).1, hJ]; simp [wdR]))))
  ·refine .seq (.rgn [] (by simp only [go_sem, seval, aw_, ap_, T2_, T1_]; rfl) ?_ ?_)
   ·(first | trivial | (simp; done) | (simp [dh_, List.forall_mem_append, ci_]; done))
   refine .condB (by simp only [go_sem, seval, aw_, ap_, T2_, T1_]; rfl) (by simp only [go_sem, seval, aw_, ap_, T2_, T1_]) (fun h35 => ?_) (fun h35 => ?_)
   ·refine .seq (.rgnD [bj_ (g8_ e.s)] enM (by simp only [go_sem, seval, aw_, ap_, T2_, T1_]; rfl) (by rfl) ?_ ?_)
    ·(first | trivial | (simp; done) | (simp [dh_, List.forall_mem_append, ci_]; done))
    refine .seq (.rgn [] (by simp only [go_sem, seval, aw_, ap_, T2_, T1_, bt_ (show -9223372036854775808 ≤ nx + 1 by omega) (by omega)]; rfl) ?_ ?_)
    ·(first | trivial | (simp; done) | (simp [dh_, List.forall_mem_append, ci_]; done))
    refine .seq (.rgnD [cu_ [0] [65] (ih (e.kids.getD 0 E0) (mx2 (br_ e.s)) (nx + 1) (g3 (by simpa using h35)).2.2.2.1 (de_ a3 _ (b5_ (by have := g3 (by simpa using h35); omega))) (g3 (by simpa using h35)).2.2.2.2.2.1 (by omega) (by have := g3 (by simpa using h35); omega) (by have := g3 (by simpa using h35); rw [ys_]; omega))] enM (by simp only [go_sem, seval, aw_, ap_, T2_, T1_, ee_ (show 0 < e.kids.length by have := g3 (by simpa using h35); omega), ao_, ax_]; rfl) (by rfl) ?_ ?_)
    ·have q := g3 (by simpa using h35); have q1 := hL 0 (by omega) (mx2 (br_ e.s)) (nx + 1); have q2 : 0 < e.kids.length := (by omega); simp only [mx2, gt_iff_lt] at q1 ⊢; simp [-List.getD_eq_getElem?_getD, dh_, q2]; omega
    refine .seq (.rgn [cu_ [0] [80] (ih (e.kids.getD 1 E0) (br_ e.s + 1) (nx + 1 + cnt (e.kids.getD 0 E0)) (g3 (by simpa using h35)).2.2.2.2.1 (de_ a3 _ (b5_ (by have := g3 (by simpa using h35); omega))) (g3 (by simpa using h35)).2.2.2.2.2.2.1 (by have := g3 (by simpa using h35); omega) (by have := g3 (by simpa using h35); omega) (by have := g3 (by simpa using h35); omega))] (by simp only [go_sem, seval, aw_, ap_, T2_, T1_, ee_ (show 1 < e.kids.length by have := g3 (by simpa using h35); omega), ao_, ax_, bt_ (show -9223372036854775808 ≤ br_ e.s + 1 by have := g3 (by simpa using h35); omega) (by have := g3 (by simpa using h35); omega)]; rfl) ?_ ?_)
    ·have q := g3 (by simpa using h35); have q1 := hL 0 (by omega) (mx2 (br_ e.s)) (nx + 1); have q2 : 1 < e.kids.length := (by omega); have q3 := hL 1 (by omega) (br_ e.s + 1) (nx + 1 + cnt (e.kids.getD 0 E0)); simp [-List.getD_eq_getElem?_getD, dh_, q2, ci_]; omega
    refine .seq (.rgn [] (by simp only [go_sem, seval, aw_, ap_, T2_, T1_]; rfl) ?_ ?_)
    ·(first | trivial | (simp; done) | (simp [dh_, List.forall_mem_append, ci_]; done))
    refine .condB (by simp only [go_sem, seval, aw_, ap_, T2_, T1_]; rfl) (by simp only [go_sem, seval, aw_, ap_, T2_, T1_]) (fun h74 => ?_) (fun h74 => ?_)
    ·refine .rgn [] (by simp only [go_sem, seval, aw_, ap_, T2_, T1_]; rfl) ?_ ?_
     ·have q := g3 (by simpa using h35); have q1 := hL 0 (by omega) (mx2 (br_ e.s)) (nx + 1); have q3 := hL 1 (by omega) (br_ e.s + 1) (nx + 1 + cnt (e.kids.getD 0 E0)); simp [-List.getD_eq_getElem?_getD, dh_, ci_, or_imp, forall_and]; (first | omega)
     refine Exists.intro (()) ⟨?_, ?_⟩
     ·trivial
     refine Can.trans (Can.swap 91 150 (by decide) (by decide) (by decide) (by decide) (by simp only [go_sem, seval, aw_, ap_, T2_, T1_, V.cl]) (by simp only [go_sem, seval, aw_, ap_, T2_, T1_, V.cl]) (by simp only [go_sem, seval, aw_, ap_, T2_, T1_, ck_, sw, swM, rnB] <;> rfl) (by simp only [go_sem, seval, aw_, ap_, T2_, T1_, ck_, sw, swM, rnB] <;> rfl) (by simp only [go_sem, seval, aw_, ap_, T2_, T1_, ck_, sw, swM, rnB] <;> rfl)) ?_
     exact Can.weak (Weak.lit (by simp only [go_sem, seval, aw_, ap_, T2_, T1_, a2_, leV, az_, a0_, V.inn, us, T9_, Ta_] <;> (first | (rw [(hT (by simpa using h35)).1, h74]; simp [brk]; (first | done | omega)) | (rw [(hA (by simpa using h82)).1]; simp) | (rw [(g12 (by simp_all)).2.1]; rfl))) (by simp only [go_sem, seval, aw_, ap_, T2_, T1_, a2_, leV, az_, a0_, V.inn, us, T9_, Ta_]) (by simp only [go_sem, seval, aw_, ap_, T2_, T1_, a2_, leV, az_, a0_, V.inn, us, T9_, Ta_] <;> (first | (rw [(hT (by simpa using h35)).1, (hT (by simpa using h35)).2, h74]; simp [brk, wdR, c8_, m4_]) | (rw [(hA (by simpa using h82)).1, (hA (by simpa using h82)).2]; simp [wdR]) | (rw [(g12 (by simp_all)).2.1, (g12 (by simp_all)).1, hJ]; simp [wdR]))))
    ·refine .skip ?_
     refine Exists.intro (()) ⟨?_, ?_⟩
     ·trivial
     refine Can.trans (Can.swap 81 150 (by decide) (by decide) (by decide) (by decide) (by simp only [go_sem, seval, aw_, ap_, T2_, T1_, V.cl]) (by simp only [go_sem, seval, aw_, ap_, T2_, T1_, V.cl]) (by simp only [go_sem, seval, aw_, ap_, T2_, T1_, ck_, sw, swM, rnB] <;> rfl) (by simp only [go_sem, seval, aw_, ap_, T2_, T1_, ck_, sw, swM, rnB] <;> rfl) (by simp only [go_sem, seval, aw_, ap_, T2_, T1_, ck_, sw, swM, rnB] <;> rfl)) ?_
     exact Can.weak (Weak.lit (by simp only [go_sem, seval, aw_, ap_, T2_, T1_, a2_, leV, az_, a0_, V.inn, us, T9_, Ta_] <;> (first | (rw [(hT (by simpa using h35)).1, h74]; simp [brk]; (first | done | omega)) | (rw [(hA (by simpa using h82)).1]; simp) | (rw [(g12 (by simp_all)).2.1]; rfl))) (by simp only [go_sem, seval, aw_, ap_, T2_, T1_, a2_, leV, az_, a0_, V.inn, us, T9_, Ta_]) (by simp only [go_sem, seval, aw_, ap_, T2_, T1_, a2_, leV, az_, a0_, V.inn, us, T9_, Ta_] <;> (first | (rw [(hT (by simpa using h35)).1, (hT (by simpa using h35)).2, h74]; simp [brk, wdR, c8_, m4_]) | (rw [(hA (by simpa using h82)).1, (hA (by simpa using h82)).2]; simp [wdR]) | (rw [(g12 (by simp_all)).2.1, (g12 (by simp_all)).1, hJ]; simp [wdR]))))
   ·refine .seq (.rgn [] (by simp only [go_sem, seval, aw_, ap_, T2_, T1_]; rfl) ?_ ?_)
    ·(first | trivial | (simp; done) | (simp [dh_, List.forall_mem_append, ci_]; done))
    refine .condB (by simp only [go_sem, seval, aw_, ap_, T2_, T1_]; rfl) (by simp only [go_sem, seval, aw_, ap_, T2_, T1_]) (fun h82 => ?_) (fun h82 => ?_)
    ·refine .rgnD [cu_ [0] [99] (ih (e.kids.getD 0 E0) 4 nx (g4 (by simpa using h82)).2.1 (de_ a3 _ (b5_ (by have := g4 (by simpa using h82); omega))) (g4 (by simpa using h82)).2.2.1 hx (by have := g4 (by simpa using h82); omega) (by decide))] enM (by simp only [go_sem, seval, aw_, ap_, T2_, T1_, ee_ (show 0 < e.kids.length by have := g4 (by simpa using h82); omega), ao_, ax_]; rfl) (by rfl) ?_ ?_
     ·have q := g4 (by simpa using h82); have q1 := hL 0 (by omega) 4 nx; have q2 : 0 < e.kids.length := (by omega); simp [-List.getD_eq_getElem?_getD, dh_, q2]; omega
     refine Exists.intro (()) ⟨?_, ?_⟩
     ·trivial
     refine Can.trans (Can.swap 105 150 (by decide) (by decide) (by decide) (by decide) (by simp only [go_sem, seval, aw_, ap_, T2_, T1_, V.cl]) (by simp only [go_sem, seval, aw_, ap_, T2_, T1_, V.cl]) (by simp only [go_sem, seval, aw_, ap_, T2_, T1_, ck_, sw, swM, rnB] <;> rfl) (by simp only [go_sem, seval, aw_, ap_, T2_, T1_, ck_, sw, swM, rnB] <;> rfl) (by simp only [go_sem, seval, aw_, ap_, T2_, T1_, ck_, sw, swM, rnB] <;> rfl)) ?_
     exact Can.weak (Weak.lit (by simp only [go_sem, seval, aw_, ap_, T2_, T1_, a2_, leV, az_, a0_, V.inn, us, T9_, Ta_] <;> (first | (rw [(hT (by simpa using h35)).1, h74]; simp [brk]; (first | done | omega)) | (rw [(hA (by simpa using h82)).1]; simp) | (rw [(g12 (by simp_all)).2.1]; rfl))) (by simp only [go_sem, seval, aw_, ap_, T2_, T1_, a2_, leV, az_, a0_, V.inn, us, T9_, Ta_]) (by simp only [go_sem, seval, aw_, ap_, T2_, T1_, a2_, leV, az_, a0_, V.inn, us, T9_, Ta_] <;> (first | (rw [(hT (by simpa using h35)).1, (hT (by simpa using h35)).2, h74]; simp [brk, wdR, c8_, m4_]) | (rw [(hA (by simpa using h82)).1, (hA (by simpa using h82)).2]; simp [wdR]) | (rw [(g12 (by simp_all)).2.1, (g12 (by simp_all)).1, hJ]; simp [wdR]))))
    ·simp_all
 refine .seq (.rgn [] (by simp only [go_sem, seval, aw_, ap_, T2_, T1_]; rfl) ?_ ?_)
 ·(first | trivial | (simp; done) | (simp [dh_, List.forall_mem_append, ci_]; done))
 refine .ret ⟨.inr rfl, ?_⟩
 exact Out.mem' (by simp only [Tryz.results144]; rfl) (by simp only [a4_, bh_, go_sem, seval, aw_, ap_, T2_, T1_]) (by simp only [bg_, rns, rn, go_sem, seval, aw_, ap_, T2_, T1_] <;> (simp_all)) (by simp) rfl (by decide) (by simp only [go_sem, seval, aw_, ap_, T2_, T1_]) (by simp only [ax_, go_sem, seval, aw_, ap_, T2_, T1_]) (by simp only [ao_, go_sem, seval, aw_, ap_, T2_, T1_] <;> (simp))
end
end Go.Proofs.YtefmbmafdgedmaaGreatDoor
