/- Without types. Conditions: none. -/
import Derived.Test.YtcigkafioinfoaaGreatDoorKe
import Derived.Test.YtcigkafioinfoaaGreatDoorKc
import Derived.Test.YtcigkafioinfoaaGreatDoorKg
import Derived.Test.YtcigkafioinfoaaGreatDoorKf
set_option linter.unusedVariables false
set_option linter.unusedSimpArgs false
namespace Go.Proofs.YtcigkafioinfoaaGreatDoor
section
set_option maxRecDepth 100000
set_option maxHeartbeats 4000000
theorem r2_ (a b : List E) : eR (a ++ b) = eR a ++ eR b := by simp [j3_]
theorem adq_ {l : List E} {k : Nat} (h : k < l.length) : eR (cr_ (l.take k)) ++ [[.i .i64 (bare (l.getD k E0)).kind, .i .i64 (bare (l.getD k E0)).n, .s (bare (l.getD k E0)).s, .sl false (eR (bare (l.getD k E0)).kids)]] = eR (cr_ (l.take (k + 1))) := by
 rw [n3_ h, r2_, ← bm_]; simp only [eR]
theorem op_ (e : E) : wf e = true → sm e = true → ACall En 171 [.ag (eC e)] [] [.ag (eC (bare e))] [] := by
 induction e using E.ind' with
 | h e ih =>
 intro hw hs
 obtain ⟨a1, a2, a3⟩ := d2_ hs
 obtain ⟨w1, w2⟩ := r3_ hw
 refine an_ (fn := Tryz.f171) [] Tryz.func171 rfl rfl (by simp) fun C => ?_
 rw [bb_]
 simp only [Tryz.ntmps171, T7_, List.length_nil, Nat.reduceAdd, Nat.reduceSub, List.replicate_succ, List.replicate_zero, List.cons_append, List.nil_append, bu_]
 refine .seq (.rgn [] (by simp only [go_sem, seval]; rfl) ?_ ?_)
 ·first | trivial | simp
 refine .seq (.seq (.rgn [] (by simp only [go_sem, seval]; rfl) ?_ ?_))
 ·first | trivial | simp
 refine .condB (by simp only [go_sem, seval]; rfl) (by simp only [go_sem, seval]) (fun h7 => ?_) (fun h7 => ?_)
 ·refine .seq (.rgn [br_ (ih (e.kids.getD 0 E0) (b2_ (w1 (by simpa using h7))) (jj_ w2 _ (b2_ (w1 (by simpa using h7)))) (c0_ a3 _ (b2_ (w1 (by simpa using h7)))))] (by simp only [go_sem, seval, c7_ (w1 (by simpa using h7))]; rfl) ?_ ?_)
  ·have := w1 (by simpa using h7); simp; omega
  refine .ret ⟨.inr rfl, ?_⟩
  exact Out.plain (by simp only [Tryz.results171]; rfl) (by simp only [ba_, bs_, go_sem, seval] <;> (split <;> rfl)) (by simp only [bq_, go_sem, seval] <;> (rw [fv_ (e := e) (by simpa using h7) (w1 (by simpa using h7))])) (by simp only [go_sem, seval])
 ·refine .skip (.seq (.rgn [] (by simp only [go_sem, seval]; rfl) ?_ ?_))
  ·first | trivial | simp
  refine .seq (.seq (.rgn [] (by simp only [go_sem, seval]; rfl) ?_ ?_))
  ·first | trivial | simp
  refine .block (.loopK (fun k : Nat => ⟨[.no, .pt 11 4 0 0, .pt 12 4 0 0, .pt 13 4 0 0, .i .i64 k, .no, .no, .no, .no, .no, .no, .no, .no, .no, .no, .no, .no, .no, .no, .no, .no, .no, .no, .no, .no, .no, .no, .no, .no, .no, .no, .no, .no, .no, .no, .no, .no, .no, .no], bf_ [(11, ⟨33, 4, [eC e]⟩), (12, ⟨33, 4, [[.i .i64 0, .i .i64 0, .s [], .sl true []]]⟩), (13, ⟨33, 4, [[.i .i64 e.kind, .i .i64 e.n, .s e.s, .ow 60 4 0 k]]⟩), (60, ⟨33, 4, eR (cr_ (e.kids.take k))⟩)], us [11, 12, 13, 60]⟩) (fun k : Nat => k ≤ e.kids.length) (fun k : Nat => e.kids.length - k) (0) ?_ ?_ (fun k hI => ?_))
  ·simp
  ·refine Can.trans (Can.ownCell 13 3 60 33 4 (by simp only [go_sem, seval] <;> rfl) (by simp only [go_sem, seval] <;> rfl) (by simp only [go_sem, seval] <;> rfl) (by simp only [go_sem, seval] <;> rfl) (by simp only [go_sem, seval] <;> rfl)) ?_
   exact Can.weak (Weak.lit (by simp only [go_sem, seval, a2_, leV, az_, ay_, V.inn, us, T9_, Ta_] <;> (simp)) (by simp only [go_sem, seval, a2_, leV, az_, ay_, V.inn, us, T9_, Ta_]) (by simp only [go_sem, seval, a2_, leV, az_, ay_, V.inn, us, T9_, Ta_] <;> (simp [cr_, eR])))
  refine .seq (.seq (.rgn [] (by simp only [go_sem, seval]; rfl) ?_ ?_))
  ·first | trivial | simp
  refine .condB (by simp only [go_sem, seval]; rfl) (by simp only [go_sem, seval]) (fun h24 => ?_) (fun h24 => ?_)
  ·refine .skip (.seq (.block (.rgnD [br_ (ih (e.kids.getD k E0) (b2_ (by simpa using h24)) (jj_ w2 _ (b2_ (by simpa using h24))) (c0_ a3 _ (b2_ (by simpa using h24))))] enM (by simp only [go_sem, seval, adq_ (show k < e.kids.length by simpa using h24), c7_ (show k < e.kids.length by simpa using h24)]; rfl) (by rfl) ?_ ?_)))
   ·simp at h24; have a4 := nb_ hs; simp [c6_]; omega
   refine .rgn [] (by simp only [go_sem, seval]; rfl) ?_ ?_
   ·first | trivial | simp
   refine Exists.intro (k + 1) ⟨?_, ?_, ?_⟩
   ·simp at h24; omega
   ·simp at h24; omega
   refine Can.trans (Can.swap 46 60 (by decide) (by decide) (by decide) (by decide) (by simp only [go_sem, seval, V.cl]) (by simp only [go_sem, seval, V.cl]) (by simp only [go_sem, seval, b9_, sw, swM, rnB] <;> rfl) (by simp only [go_sem, seval, b9_, sw, swM, rnB] <;> rfl) (by simp only [go_sem, seval, b9_, sw, swM, rnB] <;> rfl)) ?_
   exact Can.weak (Weak.lit (by simp only [go_sem, seval, a2_, leV, az_, ay_, V.inn, us, T9_, Ta_] <;> (rw [bv_ (by simp at h24; omega) (by simp at h24; omega)]; simp)) (by simp only [go_sem, seval, a2_, leV, az_, ay_, V.inn, us, T9_, Ta_]) (by simp only [go_sem, seval, a2_, leV, az_, ay_, V.inn, us, T9_, Ta_]))
  ·refine .exit (.seq (.rgn [] (by simp only [go_sem, seval]; rfl) ?_ ?_))
   ·first | trivial | simp
   refine .frz 60 (by simp only [go_sem, seval]; rfl) (by simp only [go_sem, seval]) (by simp only [go_sem, seval]; rfl) (by simp only [go_sem, seval]; rfl) ?_
   refine .ret ⟨.inr rfl, ?_⟩
   exact Out.plain (by simp only [Tryz.results171]; rfl) (by simp only [ba_, bs_, go_sem, seval] <;> (split <;> rfl)) (by simp only [bq_, go_sem, seval] <;> (simp at h24; have hk : k = e.kids.length := (by omega); subst hk; rw [fy_ (e := e) (by simpa using h7)]; simp [c6_, fl_, E.kind, E.n, E.s, E.kids, T1_])) (by simp only [go_sem, seval])
end
section
set_option maxRecDepth 100000
set_option maxHeartbeats 4000000
theorem lc_ (e : E) (hs : sm e = true) : ACall En 144 [.ag (eC e)] [] [.b (ii_ e)] [] := by
 refine an_ (fn := Tryz.f144) [] Tryz.func144 rfl rfl (by simp) fun C => ?_
 rw [bb_]
 simp only [Tryz.ntmps144, T7_, List.length_nil, Nat.reduceAdd, Nat.reduceSub, List.replicate_succ, List.replicate_zero, List.cons_append, List.nil_append, bu_]
 refine .seq (.rgn [] (by simp only [go_sem, seval]; rfl) ?_ ?_)
 ·first | trivial | simp
 refine .seq (.rgn [br_ (r8_ e E0 hs rfl)] (by simp only [go_sem, seval, E0, E.kind, E.n, E.s, E.kids, eR]; rfl) ?_ ?_)
 ·first | trivial | simp
 refine .ret ⟨.inr rfl, ?_⟩
 exact Out.plain (by simp only [Tryz.results144]; rfl) (by simp only [ba_, bs_, go_sem, seval] <;> (split <;> rfl)) (by simp only [bq_, go_sem, seval] <;> (rfl)) (by simp only [go_sem, seval])
theorem i9_ (e : E) (hs : sm e = true) : ACall En 134 [.ag (eC e)] [] [.b (ii_ e)] [] := by
 refine an_ (fn := Tryz.f134) [] Tryz.func134 rfl rfl (by simp) fun C => ?_
 rw [bb_]
 simp only [Tryz.ntmps134, T7_, List.length_nil, Nat.reduceAdd, Nat.reduceSub, List.replicate_succ, List.replicate_zero, List.cons_append, List.nil_append, bu_]
 refine .seq (.rgn [] (by simp only [go_sem, seval]; rfl) ?_ ?_)
 ·first | trivial | simp
 refine .seq (.rgn [br_ (sa_ e E0 hs rfl)] (by simp only [go_sem, seval, E0, E.kind, E.n, E.s, E.kids, eR]; rfl) ?_ ?_)
 ·first | trivial | simp
 refine .ret ⟨.inr rfl, ?_⟩
 exact Out.plain (by simp only [Tryz.results134]; rfl) (by simp only [ba_, bs_, go_sem, seval] <;> (split <;> rfl)) (by simp only [bq_, go_sem, seval] <;> (rfl)) (by simp only [go_sem, seval])
end
section
set_option maxRecDepth 100000
set_option maxHeartbeats 4000000
abbrev wr (n : Int) : Int := IntKind.i64.wrap n
end
section
set_option maxRecDepth 100000
set_option maxHeartbeats 4000000
def inR (l : List Int) : List (List V) := l.map fun n => [.i .i64 n]
theorem a0_ (l : List Int) : (inR l).length = l.length := by simp [inR]
theorem hj_ {l : List Int} {k : Nat} (h : k < l.length) : (inR l).getD k [] = [.i .i64 (l.getD k 0)] := by
 simp [inR, T8_, T6_ h]
theorem ah_ : ∀ l : List Int, cz_ (inR l) = true
 | [] => rfl
 | n :: l => by simp only [inR, List.map_cons, cz_, dp_, V.pure, Bool.true_and]; exact ah_ l
end
section
set_option maxRecDepth 100000
set_option maxHeartbeats 4000000
theorem zv_ : ACall En 249 [.sl false []] [] [.ow 0 4 0 0] [⟨33, 4, []⟩] := by
 refine an_ (fn := Tryz.f249) [17] Tryz.func249 rfl rfl (by simp) fun C => ?_
 rw [bb_]
 simp only [Tryz.ntmps249, T7_, List.length_nil, Nat.reduceAdd, Nat.reduceSub, List.replicate_succ, List.replicate_zero, List.cons_append, List.nil_append, bu_]
 refine .seq (.rgn [] (by simp only [go_sem, seval]; rfl) ?_ ?_)
 ·first | trivial | simp
 refine .seq (.seq (.rgnS [4] [nilO En] (by simp only [go_sem, seval]; rfl) ?_ ?_))
 ·first | trivial | simp
 refine .condQ (by simp only [go_sem, seval] <;> rfl) (by simp only [go_sem, seval]) ?_ ?_
 ·refine .seq (.rgn [] (by simp only [go_sem, seval]; rfl) ?_ ?_)
  ·first | trivial | simp
  refine .can (Can.ownSlot 2 17 33 4 (by simp only [go_sem, seval] <;> rfl) (by simp only [go_sem, seval]) (by simp only [go_sem, seval] <;> rfl)) ?_
  refine .ret ⟨.inr rfl, ?_⟩
  exact Out.mem' (by simp only [Tryz.results249]; rfl) (by simp only [ba_, bs_, go_sem, seval]) (by simp only [bq_, rns, rn, go_sem, seval] <;> (simp)) (by simp) rfl (by decide) (by simp only [go_sem, seval]) (by simp only [bt_, go_sem, seval]) (by simp only [bn_, go_sem, seval] <;> (simp))
 ·refine .skip (.seq (.rgn [] (by simp only [go_sem, seval]; rfl) ?_ ?_))
  ·first | trivial | simp
  refine .ret ⟨.inr rfl, ?_⟩
  exact Out.mem' (by simp only [Tryz.results249]; rfl) (by simp only [ba_, bs_, go_sem, seval]) (by simp only [bq_, rns, rn, go_sem, seval] <;> (simp)) (by simp) rfl (by decide) (by simp only [go_sem, seval]) (by simp only [bt_, go_sem, seval]) (by simp only [bn_, go_sem, seval] <;> (simp))
theorem zk_ (e : E) (r : List E) (hl : r.length < 1099511627776) : ACall En 249 [.sl false (eR (e :: r))] [] [.ow 0 4 0 (r.length + 1)] [⟨33, 4, eR (e :: r)⟩] := by
 refine an_ (fn := Tryz.f249) [17] Tryz.func249 rfl rfl (by simp) fun C => ?_
 rw [bb_]
 simp only [Tryz.ntmps249, T7_, List.length_nil, Nat.reduceAdd, Nat.reduceSub, List.replicate_succ, List.replicate_zero, List.cons_append, List.nil_append, bu_]
 refine .seq (.rgn [] (by simp only [go_sem, seval, eR]; rfl) ?_ ?_)
 ·first | trivial | simp
 refine .seq (.seq (.rgnS [4] [nilO En] (by simp only [go_sem, seval, eR]; rfl) ?_ ?_))
 ·first | trivial | simp
 refine .condB (by simp only [go_sem, seval]; rfl) (by simp only [go_sem, seval]) (fun h4 => ?_) (fun h4 => ?_)
 ·exact absurd h4 (by simp)
 ·refine .skip (.seq (.rgn [] (by simp only [go_sem, seval, eR]; rfl) ?_ ?_))
  ·have := fl_ r; simp [j3_, bm_]; omega
  refine .ret ⟨.inr rfl, ?_⟩
  exact Out.mem' (by simp only [Tryz.results249]; rfl) (by simp only [ba_, bs_, go_sem, seval]) (by simp only [bq_, rns, rn, go_sem, seval] <;> (simp)) (by simp) rfl (by decide) (by simp only [go_sem, seval]) (by simp only [bt_, go_sem, seval]) (by simp only [bn_, go_sem, seval] <;> (simp [eR, dy_, f5_, bm_]))
theorem ad4_ (l : List E) (hl : l.length < 1099511627776) : ACall En 249 [.sl false (eR l)] [] [.ow 0 4 0 l.length] [⟨33, 4, eR l⟩] := by
 cases l with
 | nil => simp only [eR]; exact zv_
 | cons e r => exact zk_ e r (by simp at hl; omega)
theorem ag2_ (l : List E) (hl : l.length < 1099511627776) : ACall En 248 [.ow 0 4 0 l.length] [⟨33, 4, eR l⟩] [.ow 0 4 0 l.length] [⟨33, 4, eR l⟩] := by
 refine an_ (fn := Tryz.f248) [0] Tryz.func248 rfl rfl (by simp) fun C => ?_
 rw [bb_]
 simp only [Tryz.ntmps248, T7_, List.length_nil, Nat.reduceAdd, Nat.reduceSub, List.replicate_succ, List.replicate_zero, List.cons_append, List.nil_append, bu_]
 refine .seq (.rgn [] (by simp only [go_sem, seval]; rfl) ?_ ?_)
 ·first | trivial | simp
 refine .seq (.rgn [] (by simp only [go_sem, seval]; rfl) ?_ ?_)
 ·first | trivial | simp
 refine .ret ⟨.inr rfl, ?_⟩
 exact Out.mem' (by simp only [Tryz.results248]; rfl) (by simp only [ba_, bs_, go_sem, seval]) (by simp only [bq_, rns, rn, go_sem, seval] <;> (simp)) (by simp) rfl (by decide) (by simp only [go_sem, seval]) (by simp only [bt_, go_sem, seval]) (by simp only [bn_, go_sem, seval] <;> (simp))
theorem xb_ (l : List E) (hl : l.length < 1099511627776) : ACall En 214 [.sl false (eR l)] [] [.ow 0 4 0 l.length] [⟨33, 4, eR l⟩] := by
 refine an_ (fn := Tryz.f214) [14] Tryz.func214 rfl rfl (by simp) fun C => ?_
 rw [bb_]
 simp only [Tryz.ntmps214, T7_, List.length_nil, Nat.reduceAdd, Nat.reduceSub, List.replicate_succ, List.replicate_zero, List.cons_append, List.nil_append, bu_]
 refine .seq (.rgn [] (by simp only [go_sem, seval]; rfl) ?_ ?_)
 ·first | trivial | simp
 refine .seq (.rgn [eg_ [] [14] (ad4_ l hl), eg_ [14] [] (ag2_ l hl)] (by simp only [go_sem, seval]; rfl) ?_ ?_)
 ·first | trivial | simp
 refine .ret ⟨.inr rfl, ?_⟩
 exact Out.mem' (by simp only [Tryz.results214]; rfl) (by simp only [ba_, bs_, go_sem, seval]) (by simp only [bq_, rns, rn, go_sem, seval] <;> (simp)) (by simp) rfl (by decide) (by simp only [go_sem, seval]) (by simp only [bt_, go_sem, seval]) (by simp only [bn_, go_sem, seval] <;> (simp))
end
section
set_option maxRecDepth 100000
set_option maxHeartbeats 4000000
def lk_ (l : List E) (k : Nat) : List (List V) := eR (cr_ (l.take k) ++ l.drop k)
theorem s0_ (l : List E) (k : Nat) (h : k ≤ l.length) : (lk_ l k).length = l.length := by simp [lk_, fl_, c6_]; omega
theorem ck_ (l : List E) (k : Nat) : cz_ (lk_ l k) = true := f5_ _
theorem x7_ (l : List E) : lk_ l 0 = eR l := by simp [lk_, cr_]
theorem acj_ (l : List E) (k : Nat) (h : l.length ≤ k) : lk_ l k = eR (cr_ l) := by simp [lk_, T1_ h, List.drop_of_length_le h]
theorem acz_ {l : List E} {k : Nat} (h : k < l.length) {r : List V} (hr : r = eC (bare (l.getD k E0))) : (lk_ l k).set k r = lk_ l (k + 1) := by
 subst hr
 unfold lk_
 rw [n3_ h, r2_, r2_, r2_, List.set_append_right _ _ (by rw [fl_, c6_, List.length_take]; omega), fl_, c6_, List.length_take, Nat.min_eq_left (Nat.le_of_lt h), Nat.sub_self, List.drop_eq_getElem_cons h]
 simp only [eR, List.set_cons_zero, List.append_assoc, List.cons_append, List.nil_append]
theorem rc_ : ∀ {l : List E} (r : List V), r ∈ eR l → r.length = 4 := fun {l} r hr => by
 rw [j3_] at hr; obtain ⟨e, _, rfl⟩ := List.mem_map.1 hr; rw [bm_]; rfl
theorem cl_ (l : List E) (k j : Nat) : ((lk_ l k).getD j []).drop 4 = [] := by
 rw [T8_]
 cases h : (lk_ l k)[j]? with
 | none => rfl
 | some r => have := rc_ r (List.mem_of_getElem? h); simp only [Option.getD_some]; exact List.drop_of_length_le (by omega)
mutual
theorem q8_ : ∀ e : E, sm e = true → sm (bare e) = true
 | .mk k n s kids, h => by
  simp only [sm, T5_] at h
  simp only [bare]
  by_cases hk : k = 4
  ·rw [if_pos hk]
   cases kids with
   | nil => simp only [nz_, sm, T5_]; exact ⟨⟨h.1.1, by simp⟩, rfl⟩
   | cons a r => simp only [nz_]; simp only [sms, T5_] at h; exact q8_ a h.2.1
  ·rw [if_neg hk]
   simp only [sm, T5_]
   exact ⟨⟨h.1.1, by rw [c6_]; exact h.1.2⟩, qc_ kids h.2⟩
theorem qc_ : ∀ l : List E, sms l = true → sms (cr_ l) = true
 | [], _ => by simp only [cr_, sms]
 | e :: r, h => by
  simp only [sms, T5_] at h
  simp only [cr_, sms, q8_ e h.1, qc_ r h.2, Bool.and_self]
end
theorem rn_ (e : E) : wf e = true → sm e = true → ACall En 172 [.ag (eC e)] [] [.ag (eC (bare e))] [] := by
 induction e using E.ind' with
 | h e ih =>
 intro hw hs
 obtain ⟨a1, a2, a3⟩ := d2_ hs
 obtain ⟨w1, w2⟩ := r3_ hw
 have a4 := nb_ hs
 refine an_ (fn := Tryz.f172) [] Tryz.func172 rfl rfl (by simp) fun C => ?_
 rw [bb_]
 simp only [Tryz.ntmps172, T7_, List.length_nil, Nat.reduceAdd, Nat.reduceSub, List.replicate_succ, List.replicate_zero, List.cons_append, List.nil_append, bu_]
 refine .seq (.rgn [] (by simp only [go_sem, seval, ck_, cl_]; rfl) ?_ ?_)
 ·first | trivial | simp
 refine .seq (.seq (.rgn [] (by simp only [go_sem, seval, ck_, cl_]; rfl) ?_ ?_))
 ·first | trivial | simp
 refine .condB (by simp only [go_sem, seval, ck_, cl_]; rfl) (by simp only [go_sem, seval, ck_, cl_]) (fun h8 => ?_) (fun h8 => ?_)
 ·refine .seq (.rgn [br_ (ih (e.kids.getD 0 E0) (b2_ (w1 (by simpa using h8))) (jj_ w2 _ (b2_ (w1 (by simpa using h8)))) (c0_ a3 _ (b2_ (w1 (by simpa using h8)))))] (by simp only [go_sem, seval, ck_, cl_, c7_ (w1 (by simpa using h8))]; rfl) ?_ ?_)
  ·have := w1 (by simpa using h8); simp; omega
  refine .ret ⟨.inr rfl, ?_⟩
  exact Out.plain (by simp only [Tryz.results172]; rfl) (by simp only [ba_, bs_, go_sem, seval, ck_, cl_] <;> (split <;> rfl)) (by simp only [bq_, go_sem, seval, ck_, cl_] <;> (rw [fv_ (e := e) (by simpa using h8) (w1 (by simpa using h8))])) (by simp only [go_sem, seval, ck_, cl_])
 ·refine .skip (.seq (.rgnD [eg_ [] [32] (xb_ e.kids a4)] enM (by simp only [go_sem, seval, ck_, cl_]; rfl) (by rfl) ?_ ?_))
  ·first | trivial | simp
  refine .seq (.seq (.rgn [] (by simp only [go_sem, seval, ck_, cl_]; rfl) ?_ ?_))
  ·first | trivial | simp
  refine .block (.loopK (fun k : Nat => ⟨[.no, .pt 11 4 0 0, .pt 12 4 0 0, .pt 13 4 0 0, .no, .no, .no, .no, .no, .no, .no, .no, .no, .no, .no, .no, .no, .no, .no, .no, .no, .no, .no, .no, .no, .sl false (eR e.kids), .i .i64 e.kids.length, .i .i64 k, .no, .no, .no, .no, .no, .no, .no, .no, .no, .no, .no, .no], bf_ [(11, ⟨33, 4, [eC e]⟩), (12, ⟨33, 4, [[.i .i64 0, .i .i64 0, .s [], .sl true []]]⟩), (13, ⟨33, 4, [[.i .i64 e.kind, .i .i64 e.n, .s e.s, .ow 32 4 0 e.kids.length]]⟩), (32, ⟨33, 4, lk_ e.kids k⟩)], us [11, 12, 13, 32]⟩) (fun k : Nat => k ≤ e.kids.length) (fun k : Nat => e.kids.length - k) (0) ?_ ?_ (fun k hI => ?_))
  ·simp
  ·exact Can.weak (Weak.lit (by simp only [go_sem, seval, ck_, cl_, a2_, leV, az_, ay_, V.inn, us, T9_, Ta_] <;> (simp)) (by simp only [go_sem, seval, ck_, cl_, a2_, leV, az_, ay_, V.inn, us, T9_, Ta_]) (by simp only [go_sem, seval, ck_, cl_, a2_, leV, az_, ay_, V.inn, us, T9_, Ta_] <;> (simp [x7_, gv_, f5_])))
  refine .seq (.rgn [] (by simp only [go_sem, seval, ck_, cl_]; rfl) ?_ ?_)
  ·first | trivial | simp
  refine .seq (.condB (by simp only [go_sem, seval, ck_, cl_]; rfl) (by simp only [go_sem, seval, ck_, cl_]) (fun h28 => ?_) (fun h28 => ?_))
  ·refine .skip (.seq (.block (.seq (.rgn [] (by simp only [go_sem, seval, ck_, cl_, c7_ (show k < e.kids.length by simpa using h28)]; rfl) ?_ ?_))))
   ·simp at h28; simp; omega
   refine .rgnD [br_ (ih (e.kids.getD k E0) (b2_ (by simpa using h28)) (jj_ w2 _ (b2_ (by simpa using h28))) (c0_ a3 _ (b2_ (by simpa using h28))))] enM (by simp only [go_sem, seval, ck_, cl_, acz_ (show k < e.kids.length by simpa using h28) (bm_ _).symm, s0_ e.kids k hI, ck_]; rfl) (by rfl) ?_ ?_
   ·simp at h28; simp [s0_ e.kids k hI]; omega
   refine .rgn [] (by simp only [go_sem, seval, ck_, cl_]; rfl) ?_ ?_
   ·first | trivial | simp
   refine Exists.intro (k + 1) ⟨?_, ?_, ?_⟩
   ·simp at h28; omega
   ·simp at h28; omega
   exact Can.weak (Weak.lit (by simp only [go_sem, seval, ck_, cl_, a2_, leV, az_, ay_, V.inn, us, T9_, Ta_] <;> (rw [bv_ (by simp at h28; omega) (by simp at h28; omega)]; simp)) (by simp only [go_sem, seval, ck_, cl_, a2_, leV, az_, ay_, V.inn, us, T9_, Ta_]) (by simp only [go_sem, seval, ck_, cl_, a2_, leV, az_, ay_, V.inn, us, T9_, Ta_]))
  ·refine .exit (.seq (.rgn [] (by simp only [go_sem, seval, ck_, cl_]; rfl) ?_ ?_))
   ·first | trivial | simp
   refine .frz 32 (by simp only [go_sem, seval, ck_, cl_]; rfl) (by simp only [go_sem, seval, ck_, cl_]) (by simp only [go_sem, seval, ck_, cl_]; rfl) (by simp only [go_sem, seval, ck_, cl_]; rfl) ?_
   refine .ret ⟨.inr rfl, ?_⟩
   exact Out.plain (by simp only [Tryz.results172]; rfl) (by simp only [ba_, bs_, go_sem, seval, ck_, cl_] <;> (split <;> rfl)) (by simp only [bq_, go_sem, seval, ck_, cl_] <;> (simp at h28; rw [fy_ (e := e) (by simpa using h8), acj_ _ _ h28]; simp [bm_, c6_, fl_, E.kind, E.n, E.s, E.kids, T1_])) (by simp only [go_sem, seval, ck_, cl_])
end
section
set_option maxRecDepth 100000
set_option maxHeartbeats 1000000
def wdR (l : Wd) : List (List V) := l.map fun p => [.s p.1, .i .i64 p.2]
theorem ad_ (l : Wd) : (wdR l).length = l.length := by simp [wdR]
theorem kj_ (a b : Wd) : wdR (a ++ b) = wdR a ++ wdR b := by simp [wdR]
theorem ab_ : ∀ l : Wd, cz_ (wdR l) = true
 | [] => rfl
 | p :: l => by simp only [wdR, List.map_cons, cz_, dp_, V.pure, Bool.true_and]; exact ab_ l
theorem aeq_ (l : Wd) : ∀ r ∈ wdR l, r.length = 2 := fun r hr => by
 obtain ⟨p, _, rfl⟩ := List.mem_map.1 hr; rfl
theorem hk_ {l : Wd} {k : Nat} (h : k < l.length) : (wdR l).getD k [] = [.s (l.getD k ([], 0)).1, .i .i64 (l.getD k ([], 0)).2] := by
 simp [wdR, T8_, T6_ h]
theorem bw_ (l : Wd) : (∀ r, r ∈ wdR l → r.length = 2) = True := eq_true (aeq_ l)
theorem uz_ {e : E} {d : Nat} (h : form e d = true) (hm : many e d ≤ 1000) (must nx : Int) : (src e must nx).length ≤ 3000 := by
 rw [← List.length_map (f := (·.1)), e5_]
 have := do_ d e must h; omega
theorem if_ (e : E) (must nx : Int) : (src e must nx).length = (wds e must).length := by
 rw [← e5_ e must nx, List.length_map]
theorem e0_ {n : Int} (h : 0 ≤ n) : Lib.itoa n = Lib.decDigits n.toNat := by unfold Lib.itoa; rw [if_neg (by omega)]
theorem xa_ {e : E} {d : Int} (h : form e d = true) (must nx : Int) : src e must nx = brk (decide (e.kind = 3) && decide (bx_ e.s < must)) (src e 0 nx) := by
 rcases (cd_ h).2 with ⟨k1, _⟩ | ⟨k1, _⟩ | ⟨k1, h1, h2, h3, h4, h5⟩ | ⟨k1, h1, h2, h3, h4⟩
 ·rw [show (decide (e.kind = 3)) = false by simp [k1]]; cases e; simp only [E.kind] at k1; subst k1; simp [src, brk]
 ·rw [show (decide (e.kind = 3)) = false by simp [k1]]; cases e; simp only [E.kind] at k1; subst k1; simp [src, brk]
 ·have := er_ h2
  rw [hl_ k1 h3, hl_ k1 h3, show decide (bx_ e.s < 0) = false by simp; omega]
  simp [k1, brk]
 ·rw [ly_ k1 h3, ly_ k1 h3]; simp [k1, brk]
def mx2 (t : Int) : Int := if t > 2 then t else 2
theorem abj_ (t : Int) : mx2 t = max 2 t := by unfold mx2; split <;> omega
theorem nf_ (d : Nat) : ∀ (e : E) (must nx : Int), form e d = true → sm e = true → many e d ≤ 1000 → 0 ≤ nx → nx + cnt e ≤ 1000000 → must ≤ 1000 → 
  ACall En 204 [.ag (eC e), .i .i64 must, .pt 0 1 0 0] [⟨3, 1, [[.i .i64 nx]]⟩] [.ow 1 2 0 (src e must nx).length] [⟨3, 1, [[.i .i64 (nx + cnt e)]]⟩, ⟨185, 2, wdR (src e must nx)⟩] := by
 induction d with
 | zero => intro e must nx h; have := (cd_ h).1; omega
 | succ d ih =>
 intro e must nx h hs hm hx hx2 hmu
 obtain ⟨a1, a2, a3⟩ := d2_ hs
 have e1 : ((d + 1 : Nat) : Int) - 1 = (d : Int) := by omega
 have hd1 : (1 : Int) ≤ ((d + 1 : Nat) : Int) := by omega
 have hc := (do_ (d + 1) e must h).2.2.2
 have g12 : (e.kind = 1 ∨ e.kind = 2) → cnt e = 1 ∧ src e must nx = [(if e.kind = 1 then Lib.decDigits e.n.toNat else e.s, nx)] ∧ (e.kind = 1 → 0 ≤ e.n ∧ e.n ≤ 1000000) := fun hk => by
  rcases (cd_ h).2 with ⟨k1, h1, h2, h3, h4⟩ | ⟨k1, h1, h2, h3⟩ | ⟨k1, _⟩ | ⟨k1, _⟩ <;> try omega
  ·cases e; simp only [E.kind, E.kids] at k1 h4; subst k1 h4; simp [cnt, pg_, src, E.n, E.kind] at *; omega
  ·cases e; simp only [E.kind, E.kids] at k1 h3; subst k1 h3; simp [cnt, pg_, src, E.s, E.kind]
 have g3 : e.kind = 3 → e.kids.length = 2 ∧ 1 ≤ bx_ e.s ∧ bx_ e.s ≤ 3 ∧ form (e.kids.getD 0 E0) d = true ∧ form (e.kids.getD 1 E0) d = true ∧ many (e.kids.getD 0 E0) d ≤ 1000 ∧ many (e.kids.getD 1 E0) d ≤ 1000 ∧ 0 ≤ cnt (e.kids.getD 0 E0) ∧ cnt (e.kids.getD 0 E0) ≤ 1000 ∧ nx + cnt e = nx + 1 + cnt (e.kids.getD 0 E0) + cnt (e.kids.getD 1 E0) ∧ 0 ≤ cnt (e.kids.getD 1 E0) := fun hk => by
  rcases (cd_ h).2 with ⟨k1, _⟩ | ⟨k1, _⟩ | ⟨k1, h1, h2, h3, h4, h5⟩ | ⟨k1, _⟩ <;> try omega
  rw [e1] at h4 h5
  have := er_ h2
  have hm2 := hq_ hd1 h3
  rw [e1] at hm2
  have q1 := do_ d _ 0 h4
  have q2 := do_ d _ 0 h5
  exact ⟨h3, this.1, this.2, h4, h5, by omega, by omega, by omega, by omega, by rw [k6_ k1 h3]; omega, by omega⟩
 have g4 : e.kind = 4 → e.kids.length = 1 ∧ form (e.kids.getD 0 E0) d = true ∧ many (e.kids.getD 0 E0) d ≤ 1000 ∧ cnt e = cnt (e.kids.getD 0 E0) := fun hk => by
  rcases (cd_ h).2 with ⟨k1, _⟩ | ⟨k1, _⟩ | ⟨k1, _⟩ | ⟨k1, h1, h2, h3, h4⟩ <;> try omega
  rw [e1] at h4
  have hm2 := iu_ hd1 h3
  rw [e1] at hm2
  have q1 := do_ d _ 0 h4
  exact ⟨h3, h4, by omega, q9_ k1 h3⟩
 have g0 : e.kind = 1 ∨ e.kind = 2 ∨ e.kind = 3 ∨ e.kind = 4 := by
  rcases (cd_ h).2 with ⟨k1, _⟩ | ⟨k1, _⟩ | ⟨k1, _⟩ | ⟨k1, _⟩ <;> omega
 have hT : e.kind = 3 → src e must nx = brk (decide (bx_ e.s < must)) (src (e.kids.getD 0 E0) (mx2 (bx_ e.s)) (nx + 1) ++ (e.s, nx) :: src (e.kids.getD 1 E0) (bx_ e.s + 1) (nx + 1 + cnt (e.kids.getD 0 E0))) ∧ nx + cnt e = nx + 1 + cnt (e.kids.getD 0 E0) + cnt (e.kids.getD 1 E0) := fun hk => ⟨by rw [abj_]; exact hl_ hk (g3 hk).1 _ _, (g3 hk).2.2.2.2.2.2.2.2.2.1⟩
 have hA : e.kind = 4 → src e must nx = src (e.kids.getD 0 E0) 4 nx ++ [([97, 115], -1), (e.s, -1)] ∧ cnt e = cnt (e.kids.getD 0 E0) := fun hk => ⟨ly_ hk (g4 hk).1 _ _, (g4 hk).2.2.2⟩
 have hL : ∀ k, k < e.kids.length → ∀ m n, (src (e.kids.getD k E0) m n).length ≤ 3000 := fun k hk m n => by
  rcases g0 with hk4 | hk4 | hk4 | hk4
  ·rcases (cd_ h).2 with ⟨k1, h1, h2, h3, h4⟩ | ⟨k1, _⟩ | ⟨k1, _⟩ | ⟨k1, _⟩ <;> try omega
   rw [h4] at hk; simp at hk
  ·rcases (cd_ h).2 with ⟨k1, _⟩ | ⟨k1, h1, h2, h3⟩ | ⟨k1, _⟩ | ⟨k1, _⟩ <;> try omega
   rw [h3] at hk; simp at hk
  ·have := g3 hk4
   have hk2 : k = 0 ∨ k = 1 := by omega
   rcases hk2 with rfl | rfl
   ·exact uz_ this.2.2.2.1 this.2.2.2.2.2.1 _ _
   ·exact uz_ this.2.2.2.2.1 this.2.2.2.2.2.2.1 _ _
  ·have := g4 hk4
   have hk2 : k = 0 := by omega
   subst hk2
   exact uz_ this.2.1 this.2.2.1 _ _
 refine an_ (fn := Tryz.f204) [0, 150] Tryz.func204 rfl rfl (by simp) fun C => ?_
 rw [bb_]
 simp only [Tryz.ntmps204, T7_, List.length_nil, Nat.reduceAdd, Nat.reduceSub, List.replicate_succ, List.replicate_zero, List.cons_append, List.nil_append, bu_]
 refine .seq (.rgn [] (by simp only [go_sem, seval, ad_, ab_, T2_, T1_]; rfl) ?_ ?_)
 ·(first | trivial | (simp; done) | (simp [cm_, List.forall_mem_append, bw_]; done))
 refine .seq (.rgn [] (by simp only [go_sem, seval, ad_, ab_, T2_, T1_]; rfl) ?_ ?_)
 ·(first | trivial | (simp; done) | (simp [cm_, List.forall_mem_append, bw_]; done))
 refine .seqJ (fun u : Unit => ⟨[.no, .no, .no, .no, .no, .no, .no, .ow 150 2 0 (src e must nx).length, .no, .no, .no, .no, .no, .no, .no, .no, .no, .no, .no, .no, .no, .no, .no, .no, .no, .no, .no, .no, .no, .no, .no, .no, .no, .no, .no, .no, .no, .no, .no, .no, .no, .no, .no, .no, .no, .no, .no, .no, .no, .no, .no, .no, .no, .no, .no, .no, .no, .no, .no, .no, .no, .no, .no, .no, .no, .no, .no, .no, .no, .no, .no, .no, .no, .no, .no, .no, .no, .no, .no, .no, .no, .no, .no, .no, .no, .no, .no, .no, .no, .no, .no, .no, .no, .no, .no, .no, .no], bf_ [(0, ⟨3, 1, [[.i .i64 (nx + cnt e)]]⟩), (150, ⟨185, 2, wdR (src e must nx)⟩)], us [150]⟩) (fun u : Unit => True) ?_ (fun u hJ => ?_)
 ·refine .seq (.rgn [] (by simp only [go_sem, seval, ad_, ab_, T2_, T1_]; rfl) ?_ ?_)
  ·(first | trivial | (simp; done) | (simp [cm_, List.forall_mem_append, bw_]; done))
  refine .block (.seqJ (fun q : Bool => ⟨[.no, .i .i64 must, .pt 0 1 0 0, .pt 13 4 0 0, .no, .no, .no, .no, .no, .no, .no, .no, .i .i64 e.kind, .b q, .no, .no, .no, .no, .no, .no, .no, .no, .no, .no, .no, .no, .no, .no, .no, .no, .no, .no, .no, .no, .no, .no, .no, .no, .no, .no, .no, .no, .no, .no, .no, .no, .no, .no, .no, .no, .no, .no, .no, .no, .no, .no, .no, .no, .no, .no, .no, .no, .no, .no, .no, .no, .no, .no, .no, .no, .no, .no, .no, .no, .no, .no, .no, .no, .no, .no, .no, .no, .no, .no, .no, .no, .no, .no, .no, .no, .no, .no, .no, .no, .no, .no, .no], bf_ [(0, ⟨3, 1, [[.i .i64 nx]]⟩), (13, ⟨33, 4, [eC e]⟩)], us [13]⟩) (fun q : Bool => q = (e.kind == 1 || e.kind == 2)) ?_ (fun q hJ => ?_))
  ·refine .seq (.rgn [] (by simp only [go_sem, seval, ad_, ab_, T2_, T1_]; rfl) ?_ ?_)
   ·(first | trivial | (simp; done) | (simp [cm_, List.forall_mem_append, bw_]; done))
   refine .condB (by simp only [go_sem, seval, ad_, ab_, T2_, T1_]; rfl) (by simp only [go_sem, seval, ad_, ab_, T2_, T1_]) (fun h13 => ?_) (fun h13 => ?_)
   ·refine .skip ?_
    refine Exists.intro ((e.kind == 1 || e.kind == 2)) ⟨?_, ?_⟩
    ·rfl
    exact Can.weak (Weak.lit (by simp only [go_sem, seval, ad_, ab_, T2_, T1_, a2_, leV, az_, ay_, V.inn, us, T9_, Ta_] <;> (simp_all)) (by simp only [go_sem, seval, ad_, ab_, T2_, T1_, a2_, leV, az_, ay_, V.inn, us, T9_, Ta_]) (by simp only [go_sem, seval, ad_, ab_, T2_, T1_, a2_, leV, az_, ay_, V.inn, us, T9_, Ta_]))
   ·refine .rgn [] (by simp only [go_sem, seval, ad_, ab_, T2_, T1_]; rfl) ?_ ?_
    ·(first | trivial | (simp; done) | (simp [cm_, List.forall_mem_append, bw_]; done))
    refine Exists.intro ((e.kind == 1 || e.kind == 2)) ⟨?_, ?_⟩
    ·rfl
    exact Can.weak (Weak.lit (by simp only [go_sem, seval, ad_, ab_, T2_, T1_, a2_, leV, az_, ay_, V.inn, us, T9_, Ta_] <;> (simp_all)) (by simp only [go_sem, seval, ad_, ab_, T2_, T1_, a2_, leV, az_, ay_, V.inn, us, T9_, Ta_]) (by simp only [go_sem, seval, ad_, ab_, T2_, T1_, a2_, leV, az_, ay_, V.inn, us, T9_, Ta_]))
  refine .condB (by simp only [go_sem, seval, ad_, ab_, T2_, T1_]; rfl) (by simp only [go_sem, seval, ad_, ab_, T2_, T1_]) (fun h13 => ?_) (fun h13 => ?_)
  ·refine .seq (.rgn [] (by simp only [go_sem, seval, ad_, ab_, T2_, T1_]; rfl) ?_ ?_)
   ·(first | trivial | (simp; done) | (simp [cm_, List.forall_mem_append, bw_]; done))
   refine .seqJ (fun s : Str => ⟨[.no, .no, .pt 0 1 0 0, .pt 13 4 0 0, .no, .no, .no, .no, .s s, .no, .no, .no, .no, .no, .no, .no, .no, .no, .no, .no, .no, .no, .no, .no, .no, .no, .no, .no, .no, .no, .no, .no, .no, .no, .no, .no, .no, .no, .no, .no, .no, .no, .no, .no, .no, .no, .no, .no, .no, .no, .no, .no, .no, .no, .no, .no, .no, .no, .no, .no, .no, .no, .no, .no, .no, .no, .no, .no, .no, .no, .no, .no, .no, .no, .no, .no, .no, .no, .no, .no, .no, .no, .no, .no, .no, .no, .no, .no, .no, .no, .no, .no, .no, .no, .no, .no, .no], bf_ [(0, ⟨3, 1, [[.i .i64 nx]]⟩), (13, ⟨33, 4, [eC e]⟩)], us [13]⟩) (fun s : Str => s = if e.kind = 1 then Lib.decDigits e.n.toNat else e.s) ?_ (fun s hJ => ?_)
   ·refine .seq (.rgn [] (by simp only [go_sem, seval, ad_, ab_, T2_, T1_]; rfl) ?_ ?_)
    ·(first | trivial | (simp; done) | (simp [cm_, List.forall_mem_append, bw_]; done))
    refine .condB (by simp only [go_sem, seval, ad_, ab_, T2_, T1_]; rfl) (by simp only [go_sem, seval, ad_, ab_, T2_, T1_]) (fun h20 => ?_) (fun h20 => ?_)
    ·refine .rgn [br_ (u0_ e.n (by have := (g12 (.inl (by simpa using h20))).2.2 (by simpa using h20); omega) (by have := (g12 (.inl (by simpa using h20))).2.2 (by simpa using h20); omega))] (by simp only [go_sem, seval, ad_, ab_, T2_, T1_]; rfl) ?_ ?_
     ·(first | trivial | (simp; done) | (simp [cm_, List.forall_mem_append, bw_]; done))
     refine Exists.intro (Lib.itoa e.n) ⟨?_, ?_⟩
     ·simp_all [e0_]
     exact Can.weak (Weak.lit (by simp only [go_sem, seval, ad_, ab_, T2_, T1_, a2_, leV, az_, ay_, V.inn, us, T9_, Ta_] <;> (simp_all)) (by simp only [go_sem, seval, ad_, ab_, T2_, T1_, a2_, leV, az_, ay_, V.inn, us, T9_, Ta_]) (by simp only [go_sem, seval, ad_, ab_, T2_, T1_, a2_, leV, az_, ay_, V.inn, us, T9_, Ta_]))
    ·refine .skip ?_
     refine Exists.intro (e.s) ⟨?_, ?_⟩
     ·simp_all [e0_]
     exact Can.weak (Weak.lit (by simp only [go_sem, seval, ad_, ab_, T2_, T1_, a2_, leV, az_, ay_, V.inn, us, T9_, Ta_] <;> (simp_all)) (by simp only [go_sem, seval, ad_, ab_, T2_, T1_, a2_, leV, az_, ay_, V.inn, us, T9_, Ta_]) (by simp only [go_sem, seval, ad_, ab_, T2_, T1_, a2_, leV, az_, ay_, V.inn, us, T9_, Ta_]))
   refine .seq (.rgnS [29] [bsO En] (by simp only [go_sem, seval, ad_, ab_, T2_, T1_]; rfl) ?_ ?_)
   ·(first | trivial | (simp; done) | (simp [cm_, List.forall_mem_append, bw_]; done))
   refine .rgn [] (by simp only [go_sem, seval, ad_, ab_, T2_, T1_, bv_ (show -9223372036854775808 ≤ nx + 1 by omega) (by omega)]; rfl) ?_ ?_
   ·(first | trivial | (simp; done) | (simp [cm_, List.forall_mem_append, bw_]; done))
   refine Exists.intro (()) ⟨?_, ?_⟩
   ·trivial
   refine Can.trans (Can.swap 39 150 (by decide) (by decide) (by decide) (by decide) (by simp only [go_sem, seval, ad_, ab_, T2_, T1_, V.cl]) (by simp only [go_sem, seval, ad_, ab_, T2_, T1_, V.cl]) (by simp only [go_sem, seval, ad_, ab_, T2_, T1_, b9_, sw, swM, rnB] <;> rfl) (by simp only [go_sem, seval, ad_, ab_, T2_, T1_, b9_, sw, swM, rnB] <;> rfl) (by simp only [go_sem, seval, ad_, ab_, T2_, T1_, b9_, sw, swM, rnB] <;> rfl)) ?_
   exact Can.weak (Weak.lit (by simp only [go_sem, seval, ad_, ab_, T2_, T1_, a2_, leV, az_, ay_, V.inn, us, T9_, Ta_] <;> (first | (rw [(hT (by simpa using h35)).1, h74]; simp [brk]; (first | done | omega)) | (rw [(hA (by simpa using h82)).1]; simp) | (rw [(g12 (by simp_all)).2.1]; rfl))) (by simp only [go_sem, seval, ad_, ab_, T2_, T1_, a2_, leV, az_, ay_, V.inn, us, T9_, Ta_]) (by simp only [go_sem, seval, ad_, ab_, T2_, T1_, a2_, leV, az_, ay_, V.inn, us, T9_, Ta_] <;> (first | (rw [(hT (by simpa using h35)).1, (hT (by simpa using h35)).2, h74]; simp [brk, wdR, dy_, kj_]) | (rw [(hA (by simpa using h82)).1, (hA (by simpa using h82)).2]; simp [wdR]) | (rw [(g12 (by simp_all)).2.1, (g12 (by simp_all)).1, hJ]; simp [wdR]))))
  ·refine .seq (.rgn [] (by simp only [go_sem, seval, ad_, ab_, T2_, T1_]; rfl) ?_ ?_)
   ·(first | trivial | (simp; done) | (simp [cm_, List.forall_mem_append, bw_]; done))
   refine .condB (by simp only [go_sem, seval, ad_, ab_, T2_, T1_]; rfl) (by simp only [go_sem, seval, ad_, ab_, T2_, T1_]) (fun h35 => ?_) (fun h35 => ?_)
   ·refine .seq (.rgnD [br_ (mk_ e.s)] enM (by simp only [go_sem, seval, ad_, ab_, T2_, T1_]; rfl) (by rfl) ?_ ?_)
    ·(first | trivial | (simp; done) | (simp [cm_, List.forall_mem_append, bw_]; done))
    refine .seq (.rgn [] (by simp only [go_sem, seval, ad_, ab_, T2_, T1_, bv_ (show -9223372036854775808 ≤ nx + 1 by omega) (by omega)]; rfl) ?_ ?_)
    ·(first | trivial | (simp; done) | (simp [cm_, List.forall_mem_append, bw_]; done))
    refine .seq (.rgnD [eg_ [0] [65] (ih (e.kids.getD 0 E0) (mx2 (bx_ e.s)) (nx + 1) (g3 (by simpa using h35)).2.2.2.1 (c0_ a3 _ (b2_ (by have := g3 (by simpa using h35); omega))) (g3 (by simpa using h35)).2.2.2.2.2.1 (by omega) (by have := g3 (by simpa using h35); omega) (by have := g3 (by simpa using h35); rw [abj_]; omega))] enM (by simp only [go_sem, seval, ad_, ab_, T2_, T1_, c7_ (show 0 < e.kids.length by have := g3 (by simpa using h35); omega), bn_, bt_]; rfl) (by rfl) ?_ ?_)
    ·have q := g3 (by simpa using h35); have q1 := hL 0 (by omega) (mx2 (bx_ e.s)) (nx + 1); have q2 : 0 < e.kids.length := (by omega); simp only [mx2, gt_iff_lt] at q1 ⊢; simp [-List.getD_eq_getElem?_getD, cm_, q2]; omega
    refine .seq (.rgn [eg_ [0] [80] (ih (e.kids.getD 1 E0) (bx_ e.s + 1) (nx + 1 + cnt (e.kids.getD 0 E0)) (g3 (by simpa using h35)).2.2.2.2.1 (c0_ a3 _ (b2_ (by have := g3 (by simpa using h35); omega))) (g3 (by simpa using h35)).2.2.2.2.2.2.1 (by have := g3 (by simpa using h35); omega) (by have := g3 (by simpa using h35); omega) (by have := g3 (by simpa using h35); omega))] (by simp only [go_sem, seval, ad_, ab_, T2_, T1_, c7_ (show 1 < e.kids.length by have := g3 (by simpa using h35); omega), bn_, bt_, bv_ (show -9223372036854775808 ≤ bx_ e.s + 1 by have := g3 (by simpa using h35); omega) (by have := g3 (by simpa using h35); omega)]; rfl) ?_ ?_)
    ·have q := g3 (by simpa using h35); have q1 := hL 0 (by omega) (mx2 (bx_ e.s)) (nx + 1); have q2 : 1 < e.kids.length := (by omega); have q3 := hL 1 (by omega) (bx_ e.s + 1) (nx + 1 + cnt (e.kids.getD 0 E0)); simp [-List.getD_eq_getElem?_getD, cm_, q2, bw_]; omega
    refine .seq (.rgn [] (by simp only [go_sem, seval, ad_, ab_, T2_, T1_]; rfl) ?_ ?_)
    ·(first | trivial | (simp; done) | (simp [cm_, List.forall_mem_append, bw_]; done))
    refine .condB (by simp only [go_sem, seval, ad_, ab_, T2_, T1_]; rfl) (by simp only [go_sem, seval, ad_, ab_, T2_, T1_]) (fun h74 => ?_) (fun h74 => ?_)
    ·refine .rgn [] (by simp only [go_sem, seval, ad_, ab_, T2_, T1_]; rfl) ?_ ?_
     ·have q := g3 (by simpa using h35); have q1 := hL 0 (by omega) (mx2 (bx_ e.s)) (nx + 1); have q3 := hL 1 (by omega) (bx_ e.s + 1) (nx + 1 + cnt (e.kids.getD 0 E0)); simp [-List.getD_eq_getElem?_getD, cm_, bw_, or_imp, forall_and]; (first | omega)
     refine Exists.intro (()) ⟨?_, ?_⟩
     ·trivial
     refine Can.trans (Can.swap 91 150 (by decide) (by decide) (by decide) (by decide) (by simp only [go_sem, seval, ad_, ab_, T2_, T1_, V.cl]) (by simp only [go_sem, seval, ad_, ab_, T2_, T1_, V.cl]) (by simp only [go_sem, seval, ad_, ab_, T2_, T1_, b9_, sw, swM, rnB] <;> rfl) (by simp only [go_sem, seval, ad_, ab_, T2_, T1_, b9_, sw, swM, rnB] <;> rfl) (by simp only [go_sem, seval, ad_, ab_, T2_, T1_, b9_, sw, swM, rnB] <;> rfl)) ?_
     exact Can.weak (Weak.lit (by simp only [go_sem, seval, ad_, ab_, T2_, T1_, a2_, leV, az_, ay_, V.inn, us, T9_, Ta_] <;> (first | (rw [(hT (by simpa using h35)).1, h74]; simp [brk]; (first | done | omega)) | (rw [(hA (by simpa using h82)).1]; simp) | (rw [(g12 (by simp_all)).2.1]; rfl))) (by simp only [go_sem, seval, ad_, ab_, T2_, T1_, a2_, leV, az_, ay_, V.inn, us, T9_, Ta_]) (by simp only [go_sem, seval, ad_, ab_, T2_, T1_, a2_, leV, az_, ay_, V.inn, us, T9_, Ta_] <;> (first | (rw [(hT (by simpa using h35)).1, (hT (by simpa using h35)).2, h74]; simp [brk, wdR, dy_, kj_]) | (rw [(hA (by simpa using h82)).1, (hA (by simpa using h82)).2]; simp [wdR]) | (rw [(g12 (by simp_all)).2.1, (g12 (by simp_all)).1, hJ]; simp [wdR]))))
    ·refine .skip ?_
     refine Exists.intro (()) ⟨?_, ?_⟩
     ·trivial
     refine Can.trans (Can.swap 81 150 (by decide) (by decide) (by decide) (by decide) (by simp only [go_sem, seval, ad_, ab_, T2_, T1_, V.cl]) (by simp only [go_sem, seval, ad_, ab_, T2_, T1_, V.cl]) (by simp only [go_sem, seval, ad_, ab_, T2_, T1_, b9_, sw, swM, rnB] <;> rfl) (by simp only [go_sem, seval, ad_, ab_, T2_, T1_, b9_, sw, swM, rnB] <;> rfl) (by simp only [go_sem, seval, ad_, ab_, T2_, T1_, b9_, sw, swM, rnB] <;> rfl)) ?_
     exact Can.weak (Weak.lit (by simp only [go_sem, seval, ad_, ab_, T2_, T1_, a2_, leV, az_, ay_, V.inn, us, T9_, Ta_] <;> (first | (rw [(hT (by simpa using h35)).1, h74]; simp [brk]; (first | done | omega)) | (rw [(hA (by simpa using h82)).1]; simp) | (rw [(g12 (by simp_all)).2.1]; rfl))) (by simp only [go_sem, seval, ad_, ab_, T2_, T1_, a2_, leV, az_, ay_, V.inn, us, T9_, Ta_]) (by simp only [go_sem, seval, ad_, ab_, T2_, T1_, a2_, leV, az_, ay_, V.inn, us, T9_, Ta_] <;> (first | (rw [(hT (by simpa using h35)).1, (hT (by simpa using h35)).2, h74]; simp [brk, wdR, dy_, kj_]) | (rw [(hA (by simpa using h82)).1, (hA (by simpa using h82)).2]; simp [wdR]) | (rw [(g12 (by simp_all)).2.1, (g12 (by simp_all)).1, hJ]; simp [wdR]))))
   ·refine .seq (.rgn [] (by simp only [go_sem, seval, ad_, ab_, T2_, T1_]; rfl) ?_ ?_)
    ·(first | trivial | (simp; done) | (simp [cm_, List.forall_mem_append, bw_]; done))
    refine .condB (by simp only [go_sem, seval, ad_, ab_, T2_, T1_]; rfl) (by simp only [go_sem, seval, ad_, ab_, T2_, T1_]) (fun h82 => ?_) (fun h82 => ?_)
    ·refine .rgnD [eg_ [0] [99] (ih (e.kids.getD 0 E0) 4 nx (g4 (by simpa using h82)).2.1 (c0_ a3 _ (b2_ (by have := g4 (by simpa using h82); omega))) (g4 (by simpa using h82)).2.2.1 hx (by have := g4 (by simpa using h82); omega) (by decide))] enM (by simp only [go_sem, seval, ad_, ab_, T2_, T1_, c7_ (show 0 < e.kids.length by have := g4 (by simpa using h82); omega), bn_, bt_]; rfl) (by rfl) ?_ ?_
     ·have q := g4 (by simpa using h82); have q1 := hL 0 (by omega) 4 nx; have q2 : 0 < e.kids.length := (by omega); simp [-List.getD_eq_getElem?_getD, cm_, q2]; omega
     refine Exists.intro (()) ⟨?_, ?_⟩
     ·trivial
     refine Can.trans (Can.swap 105 150 (by decide) (by decide) (by decide) (by decide) (by simp only [go_sem, seval, ad_, ab_, T2_, T1_, V.cl]) (by simp only [go_sem, seval, ad_, ab_, T2_, T1_, V.cl]) (by simp only [go_sem, seval, ad_, ab_, T2_, T1_, b9_, sw, swM, rnB] <;> rfl) (by simp only [go_sem, seval, ad_, ab_, T2_, T1_, b9_, sw, swM, rnB] <;> rfl) (by simp only [go_sem, seval, ad_, ab_, T2_, T1_, b9_, sw, swM, rnB] <;> rfl)) ?_
     exact Can.weak (Weak.lit (by simp only [go_sem, seval, ad_, ab_, T2_, T1_, a2_, leV, az_, ay_, V.inn, us, T9_, Ta_] <;> (first | (rw [(hT (by simpa using h35)).1, h74]; simp [brk]; (first | done | omega)) | (rw [(hA (by simpa using h82)).1]; simp) | (rw [(g12 (by simp_all)).2.1]; rfl))) (by simp only [go_sem, seval, ad_, ab_, T2_, T1_, a2_, leV, az_, ay_, V.inn, us, T9_, Ta_]) (by simp only [go_sem, seval, ad_, ab_, T2_, T1_, a2_, leV, az_, ay_, V.inn, us, T9_, Ta_] <;> (first | (rw [(hT (by simpa using h35)).1, (hT (by simpa using h35)).2, h74]; simp [brk, wdR, dy_, kj_]) | (rw [(hA (by simpa using h82)).1, (hA (by simpa using h82)).2]; simp [wdR]) | (rw [(g12 (by simp_all)).2.1, (g12 (by simp_all)).1, hJ]; simp [wdR]))))
    ·simp_all
 refine .seq (.rgn [] (by simp only [go_sem, seval, ad_, ab_, T2_, T1_]; rfl) ?_ ?_)
 ·(first | trivial | (simp; done) | (simp [cm_, List.forall_mem_append, bw_]; done))
 refine .ret ⟨.inr rfl, ?_⟩
 exact Out.mem' (by simp only [Tryz.results204]; rfl) (by simp only [ba_, bs_, go_sem, seval, ad_, ab_, T2_, T1_]) (by simp only [bq_, rns, rn, go_sem, seval, ad_, ab_, T2_, T1_] <;> (simp_all)) (by simp) rfl (by decide) (by simp only [go_sem, seval, ad_, ab_, T2_, T1_]) (by simp only [bt_, go_sem, seval, ad_, ab_, T2_, T1_]) (by simp only [bn_, go_sem, seval, ad_, ab_, T2_, T1_] <;> (simp))
end
end Go.Proofs.YtcigkafioinfoaaGreatDoor
