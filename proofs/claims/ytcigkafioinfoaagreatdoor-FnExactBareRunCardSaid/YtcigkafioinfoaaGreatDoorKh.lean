/- Without types. Conditions: none. -/
import Derived.Test.YtcigkafioinfoaaGreatDoorKe
import Derived.Test.YtcigkafioinfoaaGreatDoorKc
import Derived.Test.YtcigkafioinfoaaGreatDoorKg
import Derived.Test.YtcigkafioinfoaaGreatDoorKf
set_option linter.unusedVariables false
set_option linter.unusedSimpArgs false
namespace Go.Proofs.YtcigkafioinfoaaGreatDoor
section
set_option maxRecDepth 100000
set_option maxHeartbeats 4000000
theorem sv_ (a b : List E) : eR (a ++ b) = eR a ++ eR b := by simp [id_]
end
section
set_option maxRecDepth 100000
set_option maxHeartbeats 4000000
theorem e0_ (e : E) (hs : sm e = true) : ACall En 144 [.ag (eC e)] [] [.b (g2_ e)] [] := by
 refine am_ (fn := Tryz.f144) [] Tryz.func144 rfl rfl (by simp) fun C => ?_
 rw [a2_]
 simp only [Tryz.ntmps144, T7_, List.length_nil, Nat.reduceAdd, Nat.reduceSub, List.replicate_succ, List.replicate_zero, List.cons_append, List.nil_append, bn_]
 refine .seq (.rgn [] (by simp only [go_sem, seval]; rfl) ?_ ?_)
 ·first | trivial | simp
 refine .seq (.rgn [ba_ (p6_ e E0 hs rfl)] (by simp only [go_sem, seval, E0, E.kind, E.n, E.s, E.kids, eR]; rfl) ?_ ?_)
 ·first | trivial | simp
 refine .ret ⟨.inr rfl, ?_⟩
 exact Out.plain (by simp only [Tryz.results144]; rfl) (by simp only [ax_, bj_, go_sem, seval] <;> (split <;> rfl)) (by simp only [bi_, go_sem, seval] <;> (rfl)) (by simp only [go_sem, seval])
theorem d3_ (e : E) (hs : sm e = true) : ACall En 134 [.ag (eC e)] [] [.b (g2_ e)] [] := by
 refine am_ (fn := Tryz.f134) [] Tryz.func134 rfl rfl (by simp) fun C => ?_
 rw [a2_]
 simp only [Tryz.ntmps134, T7_, List.length_nil, Nat.reduceAdd, Nat.reduceSub, List.replicate_succ, List.replicate_zero, List.cons_append, List.nil_append, bn_]
 refine .seq (.rgn [] (by simp only [go_sem, seval]; rfl) ?_ ?_)
 ·first | trivial | simp
 refine .seq (.rgn [ba_ (kv_ e E0 hs rfl)] (by simp only [go_sem, seval, E0, E.kind, E.n, E.s, E.kids, eR]; rfl) ?_ ?_)
 ·first | trivial | simp
 refine .ret ⟨.inr rfl, ?_⟩
 exact Out.plain (by simp only [Tryz.results134]; rfl) (by simp only [ax_, bj_, go_sem, seval] <;> (split <;> rfl)) (by simp only [bi_, go_sem, seval] <;> (rfl)) (by simp only [go_sem, seval])
theorem nq_ {l : List E} {k : Nat} (h : k < l.length) : ho_ (l.drop k) = (pla (l.getD k E0) && ho_ (l.drop (k + 1))) := by
 rw [List.drop_eq_getElem_cons h, ep_ h]; simp only [ho_]
theorem v0_ {l : List E} {k : Nat} (h : l.length ≤ k) : ho_ (l.drop k) = true := by
 rw [List.drop_of_length_le h]; simp only [ho_]
theorem uu_ (e : E) : sm e = true → ACall En 240 [.ag (eC e)] [] [.b (pla e)] [] := by
 induction e using E.ind' with
 | h e ih =>
 intro hs
 obtain ⟨a1, a2, a3⟩ := c6_ hs
 refine am_ (fn := Tryz.f240) [] Tryz.func240 rfl rfl (by simp) fun C => ?_
 rw [a2_]
 simp only [Tryz.ntmps240, T7_, List.length_nil, Nat.reduceAdd, Nat.reduceSub, List.replicate_succ, List.replicate_zero, List.cons_append, List.nil_append, bn_]
 refine .seq (.rgn [] (by simp only [go_sem, seval]; rfl) ?_ ?_)
 ·first | trivial | simp
 refine .seq (.seq (.rgn [] (by simp only [go_sem, seval]; rfl) ?_ ?_))
 ·first | trivial | simp
 refine .condB (by simp only [go_sem, seval]; rfl) (by simp only [go_sem, seval]) (fun h6 => ?_) (fun h6 => ?_)
 ·refine .seq (.rgn [] (by simp only [go_sem, seval]; rfl) ?_ ?_)
  ·first | trivial | simp
  refine .ret ⟨.inr rfl, ?_⟩
  exact Out.plain (by simp only [Tryz.results240]; rfl) (by simp only [ax_, bj_, go_sem, seval] <;> (split <;> rfl)) (by simp only [bi_, go_sem, seval] <;> (rw [mb_]; simp_all)) (by simp only [go_sem, seval])
 ·refine .skip (.seq (.seq (.rgn [] (by simp only [go_sem, seval]; rfl) ?_ ?_)))
  ·first | trivial | simp
  refine .block (.loopK (fun k : Nat => ⟨[.no, .pt 11 4 0 0, .b false, .i .i64 k, .no, .no, .no, .no, .no, .no, .no, .no, .no, .no, .no, .no, .no, .no, .no, .no, .no], be_ [(11, ⟨33, 4, [eC e]⟩)], us [11]⟩) (fun k : Nat => k ≤ e.kids.length ∧ ho_ e.kids = ho_ (e.kids.drop k)) (fun k : Nat => e.kids.length - k) (0) ?_ ?_ (fun k hI => ?_))
  ·simp
  ·exact Can.weak (Weak.lit (by simp only [go_sem, seval, at_, leV, as_, ar_, V.inn, us, T9_, Ta_] <;> (simp)) (by simp only [go_sem, seval, at_, leV, as_, ar_, V.inn, us, T9_, Ta_]) (by simp only [go_sem, seval, at_, leV, as_, ar_, V.inn, us, T9_, Ta_]))
  refine .seq (.seq (.rgn [] (by simp only [go_sem, seval]; rfl) ?_ ?_))
  ·first | trivial | simp
  refine .condB (by simp only [go_sem, seval]; rfl) (by simp only [go_sem, seval]) (fun h11 => ?_) (fun h11 => ?_)
  ·refine .skip (.seq (.block (.seq (.rgn [ba_ (ih (e.kids.getD k E0) (bw_ (by simpa using h11)) (cj_ a3 _ (bw_ (by simpa using h11))))] (by simp only [go_sem, seval, cl_ (show k < e.kids.length by simpa using h11)]; rfl) ?_ ?_))))
   ·simp at h11; simp; omega
   refine .condB (by simp only [go_sem, seval]; rfl) (by simp only [go_sem, seval]) (fun h20 => ?_) (fun h20 => ?_)
   ·refine .seq (.rgn [] (by simp only [go_sem, seval]; rfl) ?_ ?_)
    ·first | trivial | simp
    refine .ret ⟨.inr rfl, ?_⟩
    exact Out.plain (by simp only [Tryz.results240]; rfl) (by simp only [ax_, bj_, go_sem, seval] <;> (split <;> rfl)) (by simp only [bi_, go_sem, seval] <;> (simp at h11; rw [mb_, hI.2, nq_ h11]; simp_all)) (by simp only [go_sem, seval])
   ·refine .skip (.rgn [] (by simp only [go_sem, seval]; rfl) ?_ ?_)
    ·first | trivial | simp
    refine Exists.intro (k + 1) ⟨?_, ?_, ?_⟩
    ·simp at h11; refine ⟨by omega, ?_⟩; rw [hI.2, nq_ h11]; simp_all
    ·simp at h11; omega
    exact Can.weak (Weak.lit (by simp only [go_sem, seval, at_, leV, as_, ar_, V.inn, us, T9_, Ta_] <;> (rw [bm_ (by simp at h11; omega) (by simp at h11; omega)]; simp)) (by simp only [go_sem, seval, at_, leV, as_, ar_, V.inn, us, T9_, Ta_]) (by simp only [go_sem, seval, at_, leV, as_, ar_, V.inn, us, T9_, Ta_]))
  ·refine .exit (.seq (.rgn [] (by simp only [go_sem, seval]; rfl) ?_ ?_))
   ·first | trivial | simp
   refine .ret ⟨.inr rfl, ?_⟩
   exact Out.plain (by simp only [Tryz.results240]; rfl) (by simp only [ax_, bj_, go_sem, seval] <;> (split <;> rfl)) (by simp only [bi_, go_sem, seval] <;> (simp at h11; rw [mb_, hI.2, v0_ h11]; simp_all)) (by simp only [go_sem, seval])
end
section
set_option maxRecDepth 100000
set_option maxHeartbeats 4000000
abbrev wr (n : Int) : Int := IntKind.i64.wrap n
def mixI (b : Str) (k : Int) : Int := wr (wr (wr (wr ((b.getD (k.tmod b.length).toNat 0).toNat * 131) + wr ((b.getD ((k * 7 + 3).tmod b.length).toNat 0).toNat * 1117)) + wr (k * 29)) + wr (wr (k.tdiv b.length) * 53))
def mixX (b : Str) (k : Int) : Int := IntKind.i64.wrap (BitVec.ofInt IntKind.i64.bits (mixI b k) ^^^ BitVec.ofInt IntKind.i64.bits (IntKind.i64.wrap ((mixI b k).tdiv 64))).toNat
def tp_ (b : Str) (p n : Int) : Int :=
 if n < 1 ∨ b.length = 0 then 0 else if p < b.length then ((b.getD p.toNat 0).toNat : Int).tmod n else (mixX b p).tmod n
end
section
set_option maxRecDepth 100000
set_option maxHeartbeats 4000000
def inR (l : List Int) : List (List V) := l.map fun n => [.i .i64 n]
theorem ac_ (l : List Int) : (inR l).length = l.length := by simp [inR]
theorem er_ {l : List Int} {k : Nat} (h : k < l.length) : (inR l).getD k [] = [.i .i64 (l.getD k 0)] := by
 simp [inR, T8_, T6_ h]
theorem aa_ : ∀ l : List Int, cf_ (inR l) = true
 | [] => rfl
 | n :: l => by simp only [inR, List.map_cons, cf_, c0_, V.pure, Bool.true_and]; exact aa_ l
def ofI (b : Str) (p : Int) (l : List Str) : Str := l.getD (tp_ b p l.length).toNat []
end
section
set_option maxRecDepth 100000
set_option maxHeartbeats 4000000
theorem xo_ : ACall En 249 [.sl false []] [] [.ow 0 4 0 0] [⟨33, 4, []⟩] := by
 refine am_ (fn := Tryz.f249) [17] Tryz.func249 rfl rfl (by simp) fun C => ?_
 rw [a2_]
 simp only [Tryz.ntmps249, T7_, List.length_nil, Nat.reduceAdd, Nat.reduceSub, List.replicate_succ, List.replicate_zero, List.cons_append, List.nil_append, bn_]
 refine .seq (.rgn [] (by simp only [go_sem, seval]; rfl) ?_ ?_)
 ·first | trivial | simp
 refine .seq (.seq (.rgnS [4] [nilO En] (by simp only [go_sem, seval]; rfl) ?_ ?_))
 ·first | trivial | simp
 refine .condQ (by simp only [go_sem, seval] <;> rfl) (by simp only [go_sem, seval]) ?_ ?_
 ·refine .seq (.rgn [] (by simp only [go_sem, seval]; rfl) ?_ ?_)
  ·first | trivial | simp
  refine .can (Can.ownSlot 2 17 33 4 (by simp only [go_sem, seval] <;> rfl) (by simp only [go_sem, seval]) (by simp only [go_sem, seval] <;> rfl)) ?_
  refine .ret ⟨.inr rfl, ?_⟩
  exact Out.mem' (by simp only [Tryz.results249]; rfl) (by simp only [ax_, bj_, go_sem, seval]) (by simp only [bi_, rns, rn, go_sem, seval] <;> (simp)) (by simp) rfl (by decide) (by simp only [go_sem, seval]) (by simp only [bl_, go_sem, seval]) (by simp only [bh_, go_sem, seval] <;> (simp))
 ·refine .skip (.seq (.rgn [] (by simp only [go_sem, seval]; rfl) ?_ ?_))
  ·first | trivial | simp
  refine .ret ⟨.inr rfl, ?_⟩
  exact Out.mem' (by simp only [Tryz.results249]; rfl) (by simp only [ax_, bj_, go_sem, seval]) (by simp only [bi_, rns, rn, go_sem, seval] <;> (simp)) (by simp) rfl (by decide) (by simp only [go_sem, seval]) (by simp only [bl_, go_sem, seval]) (by simp only [bh_, go_sem, seval] <;> (simp))
theorem yv_ (e : E) (r : List E) (hl : r.length < 1099511627776) : ACall En 249 [.sl false (eR (e :: r))] [] [.ow 0 4 0 (r.length + 1)] [⟨33, 4, eR (e :: r)⟩] := by
 refine am_ (fn := Tryz.f249) [17] Tryz.func249 rfl rfl (by simp) fun C => ?_
 rw [a2_]
 simp only [Tryz.ntmps249, T7_, List.length_nil, Nat.reduceAdd, Nat.reduceSub, List.replicate_succ, List.replicate_zero, List.cons_append, List.nil_append, bn_]
 refine .seq (.rgn [] (by simp only [go_sem, seval, eR]; rfl) ?_ ?_)
 ·first | trivial | simp
 refine .seq (.seq (.rgnS [4] [nilO En] (by simp only [go_sem, seval, eR]; rfl) ?_ ?_))
 ·first | trivial | simp
 refine .condB (by simp only [go_sem, seval]; rfl) (by simp only [go_sem, seval]) (fun h4 => ?_) (fun h4 => ?_)
 ·exact absurd h4 (by simp)
 ·refine .skip (.seq (.rgn [] (by simp only [go_sem, seval, eR]; rfl) ?_ ?_))
  ·have := f9_ r; simp [id_, bq_]; omega
  refine .ret ⟨.inr rfl, ?_⟩
  exact Out.mem' (by simp only [Tryz.results249]; rfl) (by simp only [ax_, bj_, go_sem, seval]) (by simp only [bi_, rns, rn, go_sem, seval] <;> (simp)) (by simp) rfl (by decide) (by simp only [go_sem, seval]) (by simp only [bl_, go_sem, seval]) (by simp only [bh_, go_sem, seval] <;> (simp [eR, cn_, fd_, bq_]))
theorem aas_ (l : List E) (hl : l.length < 1099511627776) : ACall En 249 [.sl false (eR l)] [] [.ow 0 4 0 l.length] [⟨33, 4, eR l⟩] := by
 cases l with
 | nil => simp only [eR]; exact xo_
 | cons e r => exact yv_ e r (by simp at hl; omega)
theorem adf_ (l : List E) (hl : l.length < 1099511627776) : ACall En 248 [.ow 0 4 0 l.length] [⟨33, 4, eR l⟩] [.ow 0 4 0 l.length] [⟨33, 4, eR l⟩] := by
 refine am_ (fn := Tryz.f248) [0] Tryz.func248 rfl rfl (by simp) fun C => ?_
 rw [a2_]
 simp only [Tryz.ntmps248, T7_, List.length_nil, Nat.reduceAdd, Nat.reduceSub, List.replicate_succ, List.replicate_zero, List.cons_append, List.nil_append, bn_]
 refine .seq (.rgn [] (by simp only [go_sem, seval]; rfl) ?_ ?_)
 ·first | trivial | simp
 refine .seq (.rgn [] (by simp only [go_sem, seval]; rfl) ?_ ?_)
 ·first | trivial | simp
 refine .ret ⟨.inr rfl, ?_⟩
 exact Out.mem' (by simp only [Tryz.results248]; rfl) (by simp only [ax_, bj_, go_sem, seval]) (by simp only [bi_, rns, rn, go_sem, seval] <;> (simp)) (by simp) rfl (by decide) (by simp only [go_sem, seval]) (by simp only [bl_, go_sem, seval]) (by simp only [bh_, go_sem, seval] <;> (simp))
theorem abq_ (l : List E) (hl : l.length < 1099511627776) : ACall En 214 [.sl false (eR l)] [] [.ow 0 4 0 l.length] [⟨33, 4, eR l⟩] := by
 refine am_ (fn := Tryz.f214) [14] Tryz.func214 rfl rfl (by simp) fun C => ?_
 rw [a2_]
 simp only [Tryz.ntmps214, T7_, List.length_nil, Nat.reduceAdd, Nat.reduceSub, List.replicate_succ, List.replicate_zero, List.cons_append, List.nil_append, bn_]
 refine .seq (.rgn [] (by simp only [go_sem, seval]; rfl) ?_ ?_)
 ·first | trivial | simp
 refine .seq (.rgn [c7_ [] [14] (aas_ l hl), c7_ [14] [] (adf_ l hl)] (by simp only [go_sem, seval]; rfl) ?_ ?_)
 ·first | trivial | simp
 refine .ret ⟨.inr rfl, ?_⟩
 exact Out.mem' (by simp only [Tryz.results214]; rfl) (by simp only [ax_, bj_, go_sem, seval]) (by simp only [bi_, rns, rn, go_sem, seval] <;> (simp)) (by simp) rfl (by decide) (by simp only [go_sem, seval]) (by simp only [bl_, go_sem, seval]) (by simp only [bh_, go_sem, seval] <;> (simp))
end
section
set_option maxRecDepth 100000
set_option maxHeartbeats 4000000
def jr_ (l : List E) (k : Nat) : List (List V) := eR (de_ (l.take k) ++ l.drop k)
theorem qy_ (l : List E) (k : Nat) (h : k ≤ l.length) : (jr_ l k).length = l.length := by simp [jr_, f9_, fm_]; omega
theorem b2_ (l : List E) (k : Nat) : cf_ (jr_ l k) = true := fd_ _
theorem vl_ (l : List E) : jr_ l 0 = eR l := by simp [jr_, de_]
theorem xz_ (l : List E) (k : Nat) (h : l.length ≤ k) : jr_ l k = eR (de_ l) := by simp [jr_, T1_ h, List.drop_of_length_le h]
theorem zc_ {l : List E} {k : Nat} (h : k < l.length) {r : List V} (hr : r = eC (bare (l.getD k E0))) : (jr_ l k).set k r = jr_ l (k + 1) := by
 subst hr
 unfold jr_
 rw [ss_ h, sv_, sv_, sv_, List.set_append_right _ _ (by rw [f9_, fm_, List.length_take]; omega), f9_, fm_, List.length_take, Nat.min_eq_left (Nat.le_of_lt h), Nat.sub_self, List.drop_eq_getElem_cons h]
 simp only [eR, List.set_cons_zero, List.append_assoc, List.cons_append, List.nil_append]
theorem ui_ : ∀ {l : List E} (r : List V), r ∈ eR l → r.length = 4 := fun {l} r hr => by
 rw [id_] at hr; obtain ⟨e, _, rfl⟩ := List.mem_map.1 hr; rw [bq_]; rfl
theorem b3_ (l : List E) (k j : Nat) : ((jr_ l k).getD j []).drop 4 = [] := by
 rw [T8_]
 cases h : (jr_ l k)[j]? with
 | none => rfl
 | some r => have := ui_ r (List.mem_of_getElem? h); simp only [Option.getD_some]; exact List.drop_of_length_le (by omega)
mutual
theorem le_ : ∀ e : E, sm e = true → sm (bare e) = true
 | .mk k n s kids, h => by
  simp only [sm, T5_] at h
  simp only [bare]
  by_cases hk : k = 4
  ·rw [if_pos hk]
   cases kids with
   | nil => simp only [p2_, sm, T5_]; exact ⟨⟨h.1.1, by simp⟩, rfl⟩
   | cons a r => simp only [p2_]; simp only [sms, T5_] at h; exact le_ a h.2.1
  ·rw [if_neg hk]
   simp only [sm, T5_]
   exact ⟨⟨h.1.1, by rw [fm_]; exact h.1.2⟩, n3_ kids h.2⟩
theorem n3_ : ∀ l : List E, sms l = true → sms (de_ l) = true
 | [], _ => by simp only [de_, sms]
 | e :: r, h => by
  simp only [sms, T5_] at h
  simp only [de_, sms, le_ e h.1, n3_ r h.2, Bool.and_self]
end
theorem ld_ (e : E) : wf e = true → sm e = true → ACall En 172 [.ag (eC e)] [] [.ag (eC (bare e))] [] := by
 induction e using E.ind' with
 | h e ih =>
 intro hw hs
 obtain ⟨a1, a2, a3⟩ := c6_ hs
 obtain ⟨w1, w2⟩ := aao_ hw
 have a4 := t7_ hs
 refine am_ (fn := Tryz.f172) [] Tryz.func172 rfl rfl (by simp) fun C => ?_
 rw [a2_]
 simp only [Tryz.ntmps172, T7_, List.length_nil, Nat.reduceAdd, Nat.reduceSub, List.replicate_succ, List.replicate_zero, List.cons_append, List.nil_append, bn_]
 refine .seq (.rgn [] (by simp only [go_sem, seval, b2_, b3_]; rfl) ?_ ?_)
 ·first | trivial | simp
 refine .seq (.seq (.rgn [] (by simp only [go_sem, seval, b2_, b3_]; rfl) ?_ ?_))
 ·first | trivial | simp
 refine .condB (by simp only [go_sem, seval, b2_, b3_]; rfl) (by simp only [go_sem, seval, b2_, b3_]) (fun h8 => ?_) (fun h8 => ?_)
 ·refine .seq (.rgn [ba_ (ih (e.kids.getD 0 E0) (bw_ (w1 (by simpa using h8))) (pe_ w2 _ (bw_ (w1 (by simpa using h8)))) (cj_ a3 _ (bw_ (w1 (by simpa using h8)))))] (by simp only [go_sem, seval, b2_, b3_, cl_ (w1 (by simpa using h8))]; rfl) ?_ ?_)
  ·have := w1 (by simpa using h8); simp; omega
  refine .ret ⟨.inr rfl, ?_⟩
  exact Out.plain (by simp only [Tryz.results172]; rfl) (by simp only [ax_, bj_, go_sem, seval, b2_, b3_] <;> (split <;> rfl)) (by simp only [bi_, go_sem, seval, b2_, b3_] <;> (rw [nu_ (e := e) (by simpa using h8) (w1 (by simpa using h8))])) (by simp only [go_sem, seval, b2_, b3_])
 ·refine .skip (.seq (.rgnD [c7_ [] [32] (abq_ e.kids a4)] enM (by simp only [go_sem, seval, b2_, b3_]; rfl) (by rfl) ?_ ?_))
  ·first | trivial | simp
  refine .seq (.seq (.rgn [] (by simp only [go_sem, seval, b2_, b3_]; rfl) ?_ ?_))
  ·first | trivial | simp
  refine .block (.loopK (fun k : Nat => ⟨[.no, .pt 11 4 0 0, .pt 12 4 0 0, .pt 13 4 0 0, .no, .no, .no, .no, .no, .no, .no, .no, .no, .no, .no, .no, .no, .no, .no, .no, .no, .no, .no, .no, .no, .sl false (eR e.kids), .i .i64 e.kids.length, .i .i64 k, .no, .no, .no, .no, .no, .no, .no, .no, .no, .no, .no, .no], be_ [(11, ⟨33, 4, [eC e]⟩), (12, ⟨33, 4, [[.i .i64 0, .i .i64 0, .s [], .sl true []]]⟩), (13, ⟨33, 4, [[.i .i64 e.kind, .i .i64 e.n, .s e.s, .ow 32 4 0 e.kids.length]]⟩), (32, ⟨33, 4, jr_ e.kids k⟩)], us [11, 12, 13, 32]⟩) (fun k : Nat => k ≤ e.kids.length) (fun k : Nat => e.kids.length - k) (0) ?_ ?_ (fun k hI => ?_))
  ·simp
  ·exact Can.weak (Weak.lit (by simp only [go_sem, seval, b2_, b3_, at_, leV, as_, ar_, V.inn, us, T9_, Ta_] <;> (simp)) (by simp only [go_sem, seval, b2_, b3_, at_, leV, as_, ar_, V.inn, us, T9_, Ta_]) (by simp only [go_sem, seval, b2_, b3_, at_, leV, as_, ar_, V.inn, us, T9_, Ta_] <;> (simp [vl_, hx_, fd_])))
  refine .seq (.rgn [] (by simp only [go_sem, seval, b2_, b3_]; rfl) ?_ ?_)
  ·first | trivial | simp
  refine .seq (.condB (by simp only [go_sem, seval, b2_, b3_]; rfl) (by simp only [go_sem, seval, b2_, b3_]) (fun h28 => ?_) (fun h28 => ?_))
  ·refine .skip (.seq (.block (.seq (.rgn [] (by simp only [go_sem, seval, b2_, b3_, cl_ (show k < e.kids.length by simpa using h28)]; rfl) ?_ ?_))))
   ·simp at h28; simp; omega
   refine .rgnD [ba_ (ih (e.kids.getD k E0) (bw_ (by simpa using h28)) (pe_ w2 _ (bw_ (by simpa using h28))) (cj_ a3 _ (bw_ (by simpa using h28))))] enM (by simp only [go_sem, seval, b2_, b3_, zc_ (show k < e.kids.length by simpa using h28) (bq_ _).symm, qy_ e.kids k hI, b2_]; rfl) (by rfl) ?_ ?_
   ·simp at h28; simp [qy_ e.kids k hI]; omega
   refine .rgn [] (by simp only [go_sem, seval, b2_, b3_]; rfl) ?_ ?_
   ·first | trivial | simp
   refine Exists.intro (k + 1) ⟨?_, ?_, ?_⟩
   ·simp at h28; omega
   ·simp at h28; omega
   exact Can.weak (Weak.lit (by simp only [go_sem, seval, b2_, b3_, at_, leV, as_, ar_, V.inn, us, T9_, Ta_] <;> (rw [bm_ (by simp at h28; omega) (by simp at h28; omega)]; simp)) (by simp only [go_sem, seval, b2_, b3_, at_, leV, as_, ar_, V.inn, us, T9_, Ta_]) (by simp only [go_sem, seval, b2_, b3_, at_, leV, as_, ar_, V.inn, us, T9_, Ta_]))
  ·refine .exit (.seq (.rgn [] (by simp only [go_sem, seval, b2_, b3_]; rfl) ?_ ?_))
   ·first | trivial | simp
   refine .frz 32 (by simp only [go_sem, seval, b2_, b3_]; rfl) (by simp only [go_sem, seval, b2_, b3_]) (by simp only [go_sem, seval, b2_, b3_]; rfl) (by simp only [go_sem, seval, b2_, b3_]; rfl) ?_
   refine .ret ⟨.inr rfl, ?_⟩
   exact Out.plain (by simp only [Tryz.results172]; rfl) (by simp only [ax_, bj_, go_sem, seval, b2_, b3_] <;> (split <;> rfl)) (by simp only [bi_, go_sem, seval, b2_, b3_] <;> (simp at h28; rw [jo_ (e := e) (by simpa using h8), xz_ _ _ h28]; simp [bq_, fm_, f9_, E.kind, E.n, E.s, E.kids, T1_])) (by simp only [go_sem, seval, b2_, b3_])
theorem lc_ (e : E) (hs : sm e = true) : ACall En 160 [.ag (eC e)] [] [.b (pe e)] [] := by
 refine am_ (fn := Tryz.f160) [] Tryz.func160 rfl rfl (by simp) fun C => ?_
 rw [a2_]
 simp only [Tryz.ntmps160, T7_, List.length_nil, Nat.reduceAdd, Nat.reduceSub, List.replicate_succ, List.replicate_zero, List.cons_append, List.nil_append, bn_]
 refine .seq (.rgn [] (by simp only [go_sem, seval]; rfl) ?_ ?_)
 ·first | trivial | simp
 refine .seq (.rgnD [ba_ (gt_ e hs), c9_ (eok e = true) (fun h => ld_ e (hl_ h) hs), ba_ (kv_ (bare e) e (le_ e hs) hs)] enM (by simp only [go_sem, seval]; rfl) (by rfl) ?_ ?_)
 ·simp
 refine .ret ⟨.inr rfl, ?_⟩
 exact Out.plain (by simp only [Tryz.results160]; rfl) (by simp only [ax_, bj_, go_sem, seval] <;> (split <;> rfl)) (by simp only [bi_, go_sem, seval] <;> (rw [← x6_])) (by simp only [go_sem, seval])
end
section
set_option maxRecDepth 100000
set_option maxHeartbeats 1000000
def wdR (l : Wd) : List (List V) := l.map fun p => [.s p.1, .i .i64 p.2]
theorem af_ (l : Wd) : (wdR l).length = l.length := by simp [wdR]
theorem iw_ (a b : Wd) : wdR (a ++ b) = wdR a ++ wdR b := by simp [wdR]
theorem ad_ : ∀ l : Wd, cf_ (wdR l) = true
 | [] => rfl
 | p :: l => by simp only [wdR, List.map_cons, cf_, c0_, V.pure, Bool.true_and]; exact ad_ l
theorem aai_ (l : Wd) : ∀ r ∈ wdR l, r.length = 2 := fun r hr => by
 obtain ⟨p, _, rfl⟩ := List.mem_map.1 hr; rfl
theorem f7_ {l : Wd} {k : Nat} (h : k < l.length) : (wdR l).getD k [] = [.s (l.getD k ([], 0)).1, .i .i64 (l.getD k ([], 0)).2] := by
 simp [wdR, T8_, T6_ h]
theorem bk_ (l : Wd) : (∀ r, r ∈ wdR l → r.length = 2) = True := eq_true (aai_ l)
theorem rz_ {e : E} {d : Nat} (h : form e d = true) (hm : many e d ≤ 1000) (must nx : Int) : (src e must nx).length ≤ 3000 := by
 rw [← List.length_map (f := (·.1)), dz_]
 have := cx_ d e must h; omega
theorem gw_ (e : E) (must nx : Int) : (src e must nx).length = (wds e must).length := by
 rw [← dz_ e must nx, List.length_map]
theorem dy_ {n : Int} (h : 0 ≤ n) : Lib.itoa n = Lib.decDigits n.toNat := by unfold Lib.itoa; rw [if_neg (by omega)]
theorem uh_ {e : E} {d : Int} (h : form e d = true) (must nx : Int) : src e must nx = brk (decide (e.kind = 3) && decide (bo_ e.s < must)) (src e 0 nx) := by
 rcases (bt_ h).2 with ⟨k1, _⟩ | ⟨k1, _⟩ | ⟨k1, h1, h2, h3, h4, h5⟩ | ⟨k1, h1, h2, h3, h4⟩
 ·rw [show (decide (e.kind = 3)) = false by simp [k1]]; cases e; simp only [E.kind] at k1; subst k1; simp [src, brk]
 ·rw [show (decide (e.kind = 3)) = false by simp [k1]]; cases e; simp only [E.kind] at k1; subst k1; simp [src, brk]
 ·have := d0_ h2
  rw [f6_ k1 h3, f6_ k1 h3, show decide (bo_ e.s < 0) = false by simp; omega]
  simp [k1, brk]
 ·rw [j6_ k1 h3, j6_ k1 h3]; simp [k1, brk]
def mx2 (t : Int) : Int := if t > 2 then t else 2
theorem x4_ (t : Int) : mx2 t = max 2 t := by unfold mx2; split <;> omega
theorem k4_ (d : Nat) : ∀ (e : E) (must nx : Int), form e d = true → sm e = true → many e d ≤ 1000 → 0 ≤ nx → nx + cnt e ≤ 1000000 → must ≤ 1000 → 
  ACall En 204 [.ag (eC e), .i .i64 must, .pt 0 1 0 0] [⟨3, 1, [[.i .i64 nx]]⟩] [.ow 1 2 0 (src e must nx).length] [⟨3, 1, [[.i .i64 (nx + cnt e)]]⟩, ⟨185, 2, wdR (src e must nx)⟩] := by
 induction d with
 | zero => intro e must nx h; have := (bt_ h).1; omega
 | succ d ih =>
 intro e must nx h hs hm hx hx2 hmu
 obtain ⟨a1, a2, a3⟩ := c6_ hs
 have e1 : ((d + 1 : Nat) : Int) - 1 = (d : Int) := by omega
 have hd1 : (1 : Int) ≤ ((d + 1 : Nat) : Int) := by omega
 have hc := (cx_ (d + 1) e must h).2.2.2
 have g12 : (e.kind = 1 ∨ e.kind = 2) → cnt e = 1 ∧ src e must nx = [(if e.kind = 1 then Lib.decDigits e.n.toNat else e.s, nx)] ∧ (e.kind = 1 → 0 ≤ e.n ∧ e.n ≤ 1000000) := fun hk => by
  rcases (bt_ h).2 with ⟨k1, h1, h2, h3, h4⟩ | ⟨k1, h1, h2, h3⟩ | ⟨k1, _⟩ | ⟨k1, _⟩ <;> try omega
  ·cases e; simp only [E.kind, E.kids] at k1 h4; subst k1 h4; simp [cnt, m8_, src, E.n, E.kind] at *; omega
  ·cases e; simp only [E.kind, E.kids] at k1 h3; subst k1 h3; simp [cnt, m8_, src, E.s, E.kind]
 have g3 : e.kind = 3 → e.kids.length = 2 ∧ 1 ≤ bo_ e.s ∧ bo_ e.s ≤ 3 ∧ form (e.kids.getD 0 E0) d = true ∧ form (e.kids.getD 1 E0) d = true ∧ many (e.kids.getD 0 E0) d ≤ 1000 ∧ many (e.kids.getD 1 E0) d ≤ 1000 ∧ 0 ≤ cnt (e.kids.getD 0 E0) ∧ cnt (e.kids.getD 0 E0) ≤ 1000 ∧ nx + cnt e = nx + 1 + cnt (e.kids.getD 0 E0) + cnt (e.kids.getD 1 E0) ∧ 0 ≤ cnt (e.kids.getD 1 E0) := fun hk => by
  rcases (bt_ h).2 with ⟨k1, _⟩ | ⟨k1, _⟩ | ⟨k1, h1, h2, h3, h4, h5⟩ | ⟨k1, _⟩ <;> try omega
  rw [e1] at h4 h5
  have := d0_ h2
  have hm2 := gu_ hd1 h3
  rw [e1] at hm2
  have q1 := cx_ d _ 0 h4
  have q2 := cx_ d _ 0 h5
  exact ⟨h3, this.1, this.2, h4, h5, by omega, by omega, by omega, by omega, by rw [io_ k1 h3]; omega, by omega⟩
 have g4 : e.kind = 4 → e.kids.length = 1 ∧ form (e.kids.getD 0 E0) d = true ∧ many (e.kids.getD 0 E0) d ≤ 1000 ∧ cnt e = cnt (e.kids.getD 0 E0) := fun hk => by
  rcases (bt_ h).2 with ⟨k1, _⟩ | ⟨k1, _⟩ | ⟨k1, _⟩ | ⟨k1, h1, h2, h3, h4⟩ <;> try omega
  rw [e1] at h4
  have hm2 := hq_ hd1 h3
  rw [e1] at hm2
  have q1 := cx_ d _ 0 h4
  exact ⟨h3, h4, by omega, om_ k1 h3⟩
 have g0 : e.kind = 1 ∨ e.kind = 2 ∨ e.kind = 3 ∨ e.kind = 4 := by
  rcases (bt_ h).2 with ⟨k1, _⟩ | ⟨k1, _⟩ | ⟨k1, _⟩ | ⟨k1, _⟩ <;> omega
 have hT : e.kind = 3 → src e must nx = brk (decide (bo_ e.s < must)) (src (e.kids.getD 0 E0) (mx2 (bo_ e.s)) (nx + 1) ++ (e.s, nx) :: src (e.kids.getD 1 E0) (bo_ e.s + 1) (nx + 1 + cnt (e.kids.getD 0 E0))) ∧ nx + cnt e = nx + 1 + cnt (e.kids.getD 0 E0) + cnt (e.kids.getD 1 E0) := fun hk => ⟨by rw [x4_]; exact f6_ hk (g3 hk).1 _ _, (g3 hk).2.2.2.2.2.2.2.2.2.1⟩
 have hA : e.kind = 4 → src e must nx = src (e.kids.getD 0 E0) 4 nx ++ [([97, 115], -1), (e.s, -1)] ∧ cnt e = cnt (e.kids.getD 0 E0) := fun hk => ⟨j6_ hk (g4 hk).1 _ _, (g4 hk).2.2.2⟩
 have hL : ∀ k, k < e.kids.length → ∀ m n, (src (e.kids.getD k E0) m n).length ≤ 3000 := fun k hk m n => by
  rcases g0 with hk4 | hk4 | hk4 | hk4
  ·rcases (bt_ h).2 with ⟨k1, h1, h2, h3, h4⟩ | ⟨k1, _⟩ | ⟨k1, _⟩ | ⟨k1, _⟩ <;> try omega
   rw [h4] at hk; simp at hk
  ·rcases (bt_ h).2 with ⟨k1, _⟩ | ⟨k1, h1, h2, h3⟩ | ⟨k1, _⟩ | ⟨k1, _⟩ <;> try omega
   rw [h3] at hk; simp at hk
  ·have := g3 hk4
   have hk2 : k = 0 ∨ k = 1 := by omega
   rcases hk2 with rfl | rfl
   ·exact rz_ this.2.2.2.1 this.2.2.2.2.2.1 _ _
   ·exact rz_ this.2.2.2.2.1 this.2.2.2.2.2.2.1 _ _
  ·have := g4 hk4
   have hk2 : k = 0 := by omega
   subst hk2
   exact rz_ this.2.1 this.2.2.1 _ _
 refine am_ (fn := Tryz.f204) [0, 150] Tryz.func204 rfl rfl (by simp) fun C => ?_
 rw [a2_]
 simp only [Tryz.ntmps204, T7_, List.length_nil, Nat.reduceAdd, Nat.reduceSub, List.replicate_succ, List.replicate_zero, List.cons_append, List.nil_append, bn_]
 refine .seq (.rgn [] (by simp only [go_sem, seval, af_, ad_, T2_, T1_]; rfl) ?_ ?_)
 ·(first | trivial | (simp; done) | (simp [b7_, List.forall_mem_append, bk_]; done))
 refine .seq (.rgn [] (by simp only [go_sem, seval, af_, ad_, T2_, T1_]; rfl) ?_ ?_)
 ·(first | trivial | (simp; done) | (simp [b7_, List.forall_mem_append, bk_]; done))
 refine .seqJ (fun u : Unit => ⟨[.no, .no, .no, .no, .no, .no, .no, .ow 150 2 0 (src e must nx).length, .no, .no, .no, .no, .no, .no, .no, .no, .no, .no, .no, .no, .no, .no, .no, .no, .no, .no, .no, .no, .no, .no, .no, .no, .no, .no, .no, .no, .no, .no, .no, .no, .no, .no, .no, .no, .no, .no, .no, .no, .no, .no, .no, .no, .no, .no, .no, .no, .no, .no, .no, .no, .no, .no, .no, .no, .no, .no, .no, .no, .no, .no, .no, .no, .no, .no, .no, .no, .no, .no, .no, .no, .no, .no, .no, .no, .no, .no, .no, .no, .no, .no, .no, .no, .no, .no, .no, .no, .no], be_ [(0, ⟨3, 1, [[.i .i64 (nx + cnt e)]]⟩), (150, ⟨185, 2, wdR (src e must nx)⟩)], us [150]⟩) (fun u : Unit => True) ?_ (fun u hJ => ?_)
 ·refine .seq (.rgn [] (by simp only [go_sem, seval, af_, ad_, T2_, T1_]; rfl) ?_ ?_)
  ·(first | trivial | (simp; done) | (simp [b7_, List.forall_mem_append, bk_]; done))
  refine .block (.seqJ (fun q : Bool => ⟨[.no, .i .i64 must, .pt 0 1 0 0, .pt 13 4 0 0, .no, .no, .no, .no, .no, .no, .no, .no, .i .i64 e.kind, .b q, .no, .no, .no, .no, .no, .no, .no, .no, .no, .no, .no, .no, .no, .no, .no, .no, .no, .no, .no, .no, .no, .no, .no, .no, .no, .no, .no, .no, .no, .no, .no, .no, .no, .no, .no, .no, .no, .no, .no, .no, .no, .no, .no, .no, .no, .no, .no, .no, .no, .no, .no, .no, .no, .no, .no, .no, .no, .no, .no, .no, .no, .no, .no, .no, .no, .no, .no, .no, .no, .no, .no, .no, .no, .no, .no, .no, .no, .no, .no, .no, .no, .no, .no], be_ [(0, ⟨3, 1, [[.i .i64 nx]]⟩), (13, ⟨33, 4, [eC e]⟩)], us [13]⟩) (fun q : Bool => q = (e.kind == 1 || e.kind == 2)) ?_ (fun q hJ => ?_))
  ·refine .seq (.rgn [] (by simp only [go_sem, seval, af_, ad_, T2_, T1_]; rfl) ?_ ?_)
   ·(first | trivial | (simp; done) | (simp [b7_, List.forall_mem_append, bk_]; done))
   refine .condB (by simp only [go_sem, seval, af_, ad_, T2_, T1_]; rfl) (by simp only [go_sem, seval, af_, ad_, T2_, T1_]) (fun h13 => ?_) (fun h13 => ?_)
   ·refine .skip ?_
    refine Exists.intro ((e.kind == 1 || e.kind == 2)) ⟨?_, ?_⟩
    ·rfl
    exact Can.weak (Weak.lit (by simp only [go_sem, seval, af_, ad_, T2_, T1_, at_, leV, as_, ar_, V.inn, us, T9_, Ta_] <;> (simp_all)) (by simp only [go_sem, seval, af_, ad_, T2_, T1_, at_, leV, as_, ar_, V.inn, us, T9_, Ta_]) (by simp only [go_sem, seval, af_, ad_, T2_, T1_, at_, leV, as_, ar_, V.inn, us, T9_, Ta_]))
   ·refine .rgn [] (by simp only [go_sem, seval, af_, ad_, T2_, T1_]; rfl) ?_ ?_
    ·(first | trivial | (simp; done) | (simp [b7_, List.forall_mem_append, bk_]; done))
    refine Exists.intro ((e.kind == 1 || e.kind == 2)) ⟨?_, ?_⟩
    ·rfl
    exact Can.weak (Weak.lit (by simp only [go_sem, seval, af_, ad_, T2_, T1_, at_, leV, as_, ar_, V.inn, us, T9_, Ta_] <;> (simp_all)) (by simp only [go_sem, seval, af_, ad_, T2_, T1_, at_, leV, as_, ar_, V.inn, us, T9_, Ta_]) (by simp only [go_sem, seval, af_, ad_, T2_, T1_, at_, leV, as_, ar_, V.inn, us, T9_, Ta_]))
  refine .condB (by simp only [go_sem, seval, af_, ad_, T2_, T1_]; rfl) (by simp only [go_sem, seval, af_, ad_, T2_, T1_]) (fun h13 => ?_) (fun h13 => ?_)
  ·refine .seq (.rgn [] (by simp only [go_sem, seval, af_, ad_, T2_, T1_]; rfl) ?_ ?_)
   ·(first | trivial | (simp; done) | (simp [b7_, List.forall_mem_append, bk_]; done))
   refine .seqJ (fun s : Str => ⟨[.no, .no, .pt 0 1 0 0, .pt 13 4 0 0, .no, .no, .no, .no, .s s, .no, .no, .no, .no, .no, .no, .no, .no, .no, .no, .no, .no, .no, .no, .no, .no, .no, .no, .no, .no, .no, .no, .no, .no, .no, .no, .no, .no, .no, .no, .no, .no, .no, .no, .no, .no, .no, .no, .no, .no, .no, .no, .no, .no, .no, .no, .no, .no, .no, .no, .no, .no, .no, .no, .no, .no, .no, .no, .no, .no, .no, .no, .no, .no, .no, .no, .no, .no, .no, .no, .no, .no, .no, .no, .no, .no, .no, .no, .no, .no, .no, .no, .no, .no, .no, .no, .no, .no], be_ [(0, ⟨3, 1, [[.i .i64 nx]]⟩), (13, ⟨33, 4, [eC e]⟩)], us [13]⟩) (fun s : Str => s = if e.kind = 1 then Lib.decDigits e.n.toNat else e.s) ?_ (fun s hJ => ?_)
   ·refine .seq (.rgn [] (by simp only [go_sem, seval, af_, ad_, T2_, T1_]; rfl) ?_ ?_)
    ·(first | trivial | (simp; done) | (simp [b7_, List.forall_mem_append, bk_]; done))
    refine .condB (by simp only [go_sem, seval, af_, ad_, T2_, T1_]; rfl) (by simp only [go_sem, seval, af_, ad_, T2_, T1_]) (fun h20 => ?_) (fun h20 => ?_)
    ·refine .rgn [ba_ (adl_ e.n (by have := (g12 (.inl (by simpa using h20))).2.2 (by simpa using h20); omega) (by have := (g12 (.inl (by simpa using h20))).2.2 (by simpa using h20); omega))] (by simp only [go_sem, seval, af_, ad_, T2_, T1_]; rfl) ?_ ?_
     ·(first | trivial | (simp; done) | (simp [b7_, List.forall_mem_append, bk_]; done))
     refine Exists.intro (Lib.itoa e.n) ⟨?_, ?_⟩
     ·simp_all [dy_]
     exact Can.weak (Weak.lit (by simp only [go_sem, seval, af_, ad_, T2_, T1_, at_, leV, as_, ar_, V.inn, us, T9_, Ta_] <;> (simp_all)) (by simp only [go_sem, seval, af_, ad_, T2_, T1_, at_, leV, as_, ar_, V.inn, us, T9_, Ta_]) (by simp only [go_sem, seval, af_, ad_, T2_, T1_, at_, leV, as_, ar_, V.inn, us, T9_, Ta_]))
    ·refine .skip ?_
     refine Exists.intro (e.s) ⟨?_, ?_⟩
     ·simp_all [dy_]
     exact Can.weak (Weak.lit (by simp only [go_sem, seval, af_, ad_, T2_, T1_, at_, leV, as_, ar_, V.inn, us, T9_, Ta_] <;> (simp_all)) (by simp only [go_sem, seval, af_, ad_, T2_, T1_, at_, leV, as_, ar_, V.inn, us, T9_, Ta_]) (by simp only [go_sem, seval, af_, ad_, T2_, T1_, at_, leV, as_, ar_, V.inn, us, T9_, Ta_]))
   refine .seq (.rgnS [29] [bsO En] (by simp only [go_sem, seval, af_, ad_, T2_, T1_]; rfl) ?_ ?_)
   ·(first | trivial | (simp; done) | (simp [b7_, List.forall_mem_append, bk_]; done))
   refine .rgn [] (by simp only [go_sem, seval, af_, ad_, T2_, T1_, bm_ (show -9223372036854775808 ≤ nx + 1 by omega) (by omega)]; rfl) ?_ ?_
   ·(first | trivial | (simp; done) | (simp [b7_, List.forall_mem_append, bk_]; done))
   refine Exists.intro (()) ⟨?_, ?_⟩
   ·trivial
   refine Can.trans (Can.swap 39 150 (by decide) (by decide) (by decide) (by decide) (by simp only [go_sem, seval, af_, ad_, T2_, T1_, V.cl]) (by simp only [go_sem, seval, af_, ad_, T2_, T1_, V.cl]) (by simp only [go_sem, seval, af_, ad_, T2_, T1_, bs_, sw, swM, rnB] <;> rfl) (by simp only [go_sem, seval, af_, ad_, T2_, T1_, bs_, sw, swM, rnB] <;> rfl) (by simp only [go_sem, seval, af_, ad_, T2_, T1_, bs_, sw, swM, rnB] <;> rfl)) ?_
   exact Can.weak (Weak.lit (by simp only [go_sem, seval, af_, ad_, T2_, T1_, at_, leV, as_, ar_, V.inn, us, T9_, Ta_] <;> (first | (rw [(hT (by simpa using h35)).1, h74]; simp [brk]; (first | done | omega)) | (rw [(hA (by simpa using h82)).1]; simp) | (rw [(g12 (by simp_all)).2.1]; rfl))) (by simp only [go_sem, seval, af_, ad_, T2_, T1_, at_, leV, as_, ar_, V.inn, us, T9_, Ta_]) (by simp only [go_sem, seval, af_, ad_, T2_, T1_, at_, leV, as_, ar_, V.inn, us, T9_, Ta_] <;> (first | (rw [(hT (by simpa using h35)).1, (hT (by simpa using h35)).2, h74]; simp [brk, wdR, cn_, iw_]) | (rw [(hA (by simpa using h82)).1, (hA (by simpa using h82)).2]; simp [wdR]) | (rw [(g12 (by simp_all)).2.1, (g12 (by simp_all)).1, hJ]; simp [wdR]))))
  ·refine .seq (.rgn [] (by simp only [go_sem, seval, af_, ad_, T2_, T1_]; rfl) ?_ ?_)
   ·(first | trivial | (simp; done) | (simp [b7_, List.forall_mem_append, bk_]; done))
   refine .condB (by simp only [go_sem, seval, af_, ad_, T2_, T1_]; rfl) (by simp only [go_sem, seval, af_, ad_, T2_, T1_]) (fun h35 => ?_) (fun h35 => ?_)
   ·refine .seq (.rgnD [ba_ (kr_ e.s)] enM (by simp only [go_sem, seval, af_, ad_, T2_, T1_]; rfl) (by rfl) ?_ ?_)
    ·(first | trivial | (simp; done) | (simp [b7_, List.forall_mem_append, bk_]; done))
    refine .seq (.rgn [] (by simp only [go_sem, seval, af_, ad_, T2_, T1_, bm_ (show -9223372036854775808 ≤ nx + 1 by omega) (by omega)]; rfl) ?_ ?_)
    ·(first | trivial | (simp; done) | (simp [b7_, List.forall_mem_append, bk_]; done))
    refine .seq (.rgnD [c7_ [0] [65] (ih (e.kids.getD 0 E0) (mx2 (bo_ e.s)) (nx + 1) (g3 (by simpa using h35)).2.2.2.1 (cj_ a3 _ (bw_ (by have := g3 (by simpa using h35); omega))) (g3 (by simpa using h35)).2.2.2.2.2.1 (by omega) (by have := g3 (by simpa using h35); omega) (by have := g3 (by simpa using h35); rw [x4_]; omega))] enM (by simp only [go_sem, seval, af_, ad_, T2_, T1_, cl_ (show 0 < e.kids.length by have := g3 (by simpa using h35); omega), bh_, bl_]; rfl) (by rfl) ?_ ?_)
    ·have q := g3 (by simpa using h35); have q1 := hL 0 (by omega) (mx2 (bo_ e.s)) (nx + 1); have q2 : 0 < e.kids.length := (by omega); simp only [mx2, gt_iff_lt] at q1 ⊢; simp [-List.getD_eq_getElem?_getD, b7_, q2]; omega
    refine .seq (.rgn [c7_ [0] [80] (ih (e.kids.getD 1 E0) (bo_ e.s + 1) (nx + 1 + cnt (e.kids.getD 0 E0)) (g3 (by simpa using h35)).2.2.2.2.1 (cj_ a3 _ (bw_ (by have := g3 (by simpa using h35); omega))) (g3 (by simpa using h35)).2.2.2.2.2.2.1 (by have := g3 (by simpa using h35); omega) (by have := g3 (by simpa using h35); omega) (by have := g3 (by simpa using h35); omega))] (by simp only [go_sem, seval, af_, ad_, T2_, T1_, cl_ (show 1 < e.kids.length by have := g3 (by simpa using h35); omega), bh_, bl_, bm_ (show -9223372036854775808 ≤ bo_ e.s + 1 by have := g3 (by simpa using h35); omega) (by have := g3 (by simpa using h35); omega)]; rfl) ?_ ?_)
    ·have q := g3 (by simpa using h35); have q1 := hL 0 (by omega) (mx2 (bo_ e.s)) (nx + 1); have q2 : 1 < e.kids.length := (by omega); have q3 := hL 1 (by omega) (bo_ e.s + 1) (nx + 1 + cnt (e.kids.getD 0 E0)); simp [-List.getD_eq_getElem?_getD, b7_, q2, bk_]; omega
    refine .seq (.rgn [] (by simp only [go_sem, seval, af_, ad_, T2_, T1_]; rfl) ?_ ?_)
    ·(first | trivial | (simp; done) | (simp [b7_, List.forall_mem_append, bk_]; done))
    refine .condB (by simp only [go_sem, seval, af_, ad_, T2_, T1_]; rfl) (by simp only [go_sem, seval, af_, ad_, T2_, T1_]) (fun h74 => ?_) (fun h74 => ?_)
    ·refine .rgn [] (by simp only [go_sem, seval, af_, ad_, T2_, T1_]; rfl) ?_ ?_
     ·have q := g3 (by simpa using h35); have q1 := hL 0 (by omega) (mx2 (bo_ e.s)) (nx + 1); have q3 := hL 1 (by omega) (bo_ e.s + 1) (nx + 1 + cnt (e.kids.getD 0 E0)); simp [-List.getD_eq_getElem?_getD, b7_, bk_, or_imp, forall_and]; (first | omega)
     refine Exists.intro (()) ⟨?_, ?_⟩
     ·trivial
     refine Can.trans (Can.swap 91 150 (by decide) (by decide) (by decide) (by decide) (by simp only [go_sem, seval, af_, ad_, T2_, T1_, V.cl]) (by simp only [go_sem, seval, af_, ad_, T2_, T1_, V.cl]) (by simp only [go_sem, seval, af_, ad_, T2_, T1_, bs_, sw, swM, rnB] <;> rfl) (by simp only [go_sem, seval, af_, ad_, T2_, T1_, bs_, sw, swM, rnB] <;> rfl) (by simp only [go_sem, seval, af_, ad_, T2_, T1_, bs_, sw, swM, rnB] <;> rfl)) ?_
     exact Can.weak (Weak.lit (by simp only [go_sem, seval, af_, ad_, T2_, T1_, at_, leV, as_, ar_, V.inn, us, T9_, Ta_] <;> (first | (rw [(hT (by simpa using h35)).1, h74]; simp [brk]; (first | done | omega)) | (rw [(hA (by simpa using h82)).1]; simp) | (rw [(g12 (by simp_all)).2.1]; rfl))) (by simp only [go_sem, seval, af_, ad_, T2_, T1_, at_, leV, as_, ar_, V.inn, us, T9_, Ta_]) (by simp only [go_sem, seval, af_, ad_, T2_, T1_, at_, leV, as_, ar_, V.inn, us, T9_, Ta_] <;> (first | (rw [(hT (by simpa using h35)).1, (hT (by simpa using h35)).2, h74]; simp [brk, wdR, cn_, iw_]) | (rw [(hA (by simpa using h82)).1, (hA (by simpa using h82)).2]; simp [wdR]) | (rw [(g12 (by simp_all)).2.1, (g12 (by simp_all)).1, hJ]; simp [wdR]))))
    ·refine .skip ?_
     refine Exists.intro (()) ⟨?_, ?_⟩
     ·trivial
     refine Can.trans (Can.swap 81 150 (by decide) (by decide) (by decide) (by decide) (by simp only [go_sem, seval, af_, ad_, T2_, T1_, V.cl]) (by simp only [go_sem, seval, af_, ad_, T2_, T1_, V.cl]) (by simp only [go_sem, seval, af_, ad_, T2_, T1_, bs_, sw, swM, rnB] <;> rfl) (by simp only [go_sem, seval, af_, ad_, T2_, T1_, bs_, sw, swM, rnB] <;> rfl) (by simp only [go_sem, seval, af_, ad_, T2_, T1_, bs_, sw, swM, rnB] <;> rfl)) ?_
     exact Can.weak (Weak.lit (by simp only [go_sem, seval, af_, ad_, T2_, T1_, at_, leV, as_, ar_, V.inn, us, T9_, Ta_] <;> (first | (rw [(hT (by simpa using h35)).1, h74]; simp [brk]; (first | done | omega)) | (rw [(hA (by simpa using h82)).1]; simp) | (rw [(g12 (by simp_all)).2.1]; rfl))) (by simp only [go_sem, seval, af_, ad_, T2_, T1_, at_, leV, as_, ar_, V.inn, us, T9_, Ta_]) (by simp only [go_sem, seval, af_, ad_, T2_, T1_, at_, leV, as_, ar_, V.inn, us, T9_, Ta_] <;> (first | (rw [(hT (by simpa using h35)).1, (hT (by simpa using h35)).2, h74]; simp [brk, wdR, cn_, iw_]) | (rw [(hA (by simpa using h82)).1, (hA (by simpa using h82)).2]; simp [wdR]) | (rw [(g12 (by simp_all)).2.1, (g12 (by simp_all)).1, hJ]; simp [wdR]))))
   ·refine .seq (.rgn [] (by simp only [go_sem, seval, af_, ad_, T2_, T1_]; rfl) ?_ ?_)
    ·(first | trivial | (simp; done) | (simp [b7_, List.forall_mem_append, bk_]; done))
    refine .condB (by simp only [go_sem, seval, af_, ad_, T2_, T1_]; rfl) (by simp only [go_sem, seval, af_, ad_, T2_, T1_]) (fun h82 => ?_) (fun h82 => ?_)
    ·refine .rgnD [c7_ [0] [99] (ih (e.kids.getD 0 E0) 4 nx (g4 (by simpa using h82)).2.1 (cj_ a3 _ (bw_ (by have := g4 (by simpa using h82); omega))) (g4 (by simpa using h82)).2.2.1 hx (by have := g4 (by simpa using h82); omega) (by decide))] enM (by simp only [go_sem, seval, af_, ad_, T2_, T1_, cl_ (show 0 < e.kids.length by have := g4 (by simpa using h82); omega), bh_, bl_]; rfl) (by rfl) ?_ ?_
     ·have q := g4 (by simpa using h82); have q1 := hL 0 (by omega) 4 nx; have q2 : 0 < e.kids.length := (by omega); simp [-List.getD_eq_getElem?_getD, b7_, q2]; omega
     refine Exists.intro (()) ⟨?_, ?_⟩
     ·trivial
     refine Can.trans (Can.swap 105 150 (by decide) (by decide) (by decide) (by decide) (by simp only [go_sem, seval, af_, ad_, T2_, T1_, V.cl]) (by simp only [go_sem, seval, af_, ad_, T2_, T1_, V.cl]) (by simp only [go_sem, seval, af_, ad_, T2_, T1_, bs_, sw, swM, rnB] <;> rfl) (by simp only [go_sem, seval, af_, ad_, T2_, T1_, bs_, sw, swM, rnB] <;> rfl) (by simp only [go_sem, seval, af_, ad_, T2_, T1_, bs_, sw, swM, rnB] <;> rfl)) ?_
     exact Can.weak (Weak.lit (by simp only [go_sem, seval, af_, ad_, T2_, T1_, at_, leV, as_, ar_, V.inn, us, T9_, Ta_] <;> (first | (rw [(hT (by simpa using h35)).1, h74]; simp [brk]; (first | done | omega)) | (rw [(hA (by simpa using h82)).1]; simp) | (rw [(g12 (by simp_all)).2.1]; rfl))) (by simp only [go_sem, seval, af_, ad_, T2_, T1_, at_, leV, as_, ar_, V.inn, us, T9_, Ta_]) (by simp only [go_sem, seval, af_, ad_, T2_, T1_, at_, leV, as_, ar_, V.inn, us, T9_, Ta_] <;> (first | (rw [(hT (by simpa using h35)).1, (hT (by simpa using h35)).2, h74]; simp [brk, wdR, cn_, iw_]) | (rw [(hA (by simpa using h82)).1, (hA (by simpa using h82)).2]; simp [wdR]) | (rw [(g12 (by simp_all)).2.1, (g12 (by simp_all)).1, hJ]; simp [wdR]))))
    ·simp_all
 refine .seq (.rgn [] (by simp only [go_sem, seval, af_, ad_, T2_, T1_]; rfl) ?_ ?_)
 ·(first | trivial | (simp; done) | (simp [b7_, List.forall_mem_append, bk_]; done))
 refine .ret ⟨.inr rfl, ?_⟩
 exact Out.mem' (by simp only [Tryz.results204]; rfl) (by simp only [ax_, bj_, go_sem, seval, af_, ad_, T2_, T1_]) (by simp only [bi_, rns, rn, go_sem, seval, af_, ad_, T2_, T1_] <;> (simp_all)) (by simp) rfl (by decide) (by simp only [go_sem, seval, af_, ad_, T2_, T1_]) (by simp only [bl_, go_sem, seval, af_, ad_, T2_, T1_]) (by simp only [bh_, go_sem, seval, af_, ad_, T2_, T1_] <;> (simp))
end
end Go.Proofs.YtcigkafioinfoaaGreatDoor
