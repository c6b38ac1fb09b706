/- Without types. Conditions: none. -/
import Derived.Test.YtefmbmafdgedmaaGreatDoorNe
import Derived.Test.YtefmbmafdgedmaaGreatDoorNc
import Derived.Test.YtefmbmafdgedmaaGreatDoorNg
import Derived.Test.YtefmbmafdgedmaaGreatDoorNf
set_option linter.unusedVariables false
set_option linter.unusedSimpArgs false
namespace Go.Proofs.YtefmbmafdgedmaaGreatDoor
section
set_option maxRecDepth 100000
set_option maxHeartbeats 4000000
theorem wi_ (a b : List E) : eR (a ++ b) = eR a ++ eR b := by simp [l3_]
end
section
set_option maxRecDepth 100000
set_option maxHeartbeats 4000000
theorem li_ (e : E) (hs : sm e = true) : ACall En 99 [.ag (eC e)] [] [.b (im_ e)] [] := by
 refine ah_ (fn := Tryz.f99) [] Tryz.func99 rfl rfl (by simp) fun C => ?_
 rw [ar_]
 simp only [Tryz.ntmps99, List.length_cons, List.length_nil, Nat.reduceAdd, Nat.reduceSub, List.replicate_succ, List.replicate_zero, List.cons_append, List.nil_append, bd_]
 refine .seq (.rgn [] (by simp only [go_sem, seval]; rfl) ?_ ?_)
 ·first | trivial | simp
 refine .seq (.rgn [a2_ (t6_ e E0 hs rfl)] (by simp only [go_sem, seval, E0, E.kind, E.n, E.s, E.kids, eR]; rfl) ?_ ?_)
 ·first | trivial | simp
 refine .ret ⟨.inr rfl, ?_⟩
 exact Out.plain (by simp only [Tryz.results99]; rfl) (by simp only [aq_, a8_, go_sem, seval] <;> (split <;> rfl)) (by simp only [a7_, go_sem, seval] <;> (rfl)) (by simp only [go_sem, seval])
theorem i9_ (e : E) (hs : sm e = true) : ACall En 115 [.ag (eC e)] [] [.b (im_ e)] [] := by
 refine ah_ (fn := Tryz.f115) [] Tryz.func115 rfl rfl (by simp) fun C => ?_
 rw [ar_]
 simp only [Tryz.ntmps115, List.length_cons, List.length_nil, Nat.reduceAdd, Nat.reduceSub, List.replicate_succ, List.replicate_zero, List.cons_append, List.nil_append, bd_]
 refine .seq (.rgn [] (by simp only [go_sem, seval]; rfl) ?_ ?_)
 ·first | trivial | simp
 refine .seq (.rgn [a2_ (ud_ e E0 hs rfl)] (by simp only [go_sem, seval, E0, E.kind, E.n, E.s, E.kids, eR]; rfl) ?_ ?_)
 ·first | trivial | simp
 refine .ret ⟨.inr rfl, ?_⟩
 exact Out.plain (by simp only [Tryz.results115]; rfl) (by simp only [aq_, a8_, go_sem, seval] <;> (split <;> rfl)) (by simp only [a7_, go_sem, seval] <;> (rfl)) (by simp only [go_sem, seval])
end
section
set_option maxRecDepth 100000
set_option maxHeartbeats 4000000
abbrev wr (n : Int) : Int := IntKind.i64.wrap n
def mixI (b : Str) (k : Int) : Int := wr (wr (wr (wr ((b.getD (k.tmod b.length).toNat 0).toNat * 131) + wr ((b.getD ((k * 7 + 3).tmod b.length).toNat 0).toNat * 1117)) + wr (k * 29)) + wr (wr (k.tdiv b.length) * 53))
def mixX (b : Str) (k : Int) : Int := IntKind.i64.wrap (BitVec.ofInt IntKind.i64.bits (mixI b k) ^^^ BitVec.ofInt IntKind.i64.bits (IntKind.i64.wrap ((mixI b k).tdiv 64))).toNat
def kq_ (b : Str) (p n : Int) : Int :=
 if n < 1 ∨ b.length = 0 then 0 else if p < b.length then ((b.getD p.toNat 0).toNat : Int).tmod n else (mixX b p).tmod n
end
section
set_option maxRecDepth 100000
set_option maxHeartbeats 4000000
def inR (l : List Int) : List (List V) := l.map fun n => [.i .i64 n]
theorem af_ (l : List Int) : (inR l).length = l.length := by simp [inR]
theorem hc_ {l : List Int} {k : Nat} (h : k < l.length) : (inR l).getD k [] = [.i .i64 (l.getD k 0)] := by
 simp [inR, List.getD_eq_getElem?_getD, List.getElem?_eq_getElem h]
theorem ac_ : ∀ l : List Int, cf_ (inR l) = true
 | [] => rfl
 | n :: l => by simp only [inR, List.map_cons, cf_, cv_, V.pure, Bool.true_and]; exact ac_ l
theorem eb_ (n : Int) (l : List Int) : inR (n :: l) = [.i .i64 n] :: inR l := rfl
theorem b3_ : bm_ [] = [] := rfl
theorem bt_ (s : Str) (l : List Str) : bm_ (s :: l) = [.s s] :: bm_ l := rfl
def numI (b : Str) (p : Int) (l : List Int) : Int := l.getD (kq_ b p l.length).toNat 0
def ofI (b : Str) (p : Int) (l : List Str) : Str := l.getD (kq_ b p l.length).toNat []
end
section
set_option maxRecDepth 100000
set_option maxHeartbeats 4000000
theorem ab0_ : ACall En 218 [.sl false []] [] [.ow 0 4 0 0] [⟨48, 4, []⟩] := by
 refine ah_ (fn := Tryz.f218) [17] Tryz.func218 rfl rfl (by simp) fun C => ?_
 rw [ar_]
 simp only [Tryz.ntmps218, List.length_cons, List.length_nil, Nat.reduceAdd, Nat.reduceSub, List.replicate_succ, List.replicate_zero, List.cons_append, List.nil_append, bd_]
 refine .seq (.rgn [] (by simp only [go_sem, seval]; rfl) ?_ ?_)
 ·first | trivial | simp
 refine .seq (.seq (.rgnS [4] [nilO En] (by simp only [go_sem, seval]; rfl) ?_ ?_))
 ·first | trivial | simp
 refine .condQ (by simp only [go_sem, seval] <;> rfl) (by simp only [go_sem, seval]) ?_ ?_
 ·refine .seq (.rgn [] (by simp only [go_sem, seval]; rfl) ?_ ?_)
  ·first | trivial | simp
  refine .can (Can.ownSlot 2 17 48 4 (by simp only [go_sem, seval] <;> rfl) (by simp only [go_sem, seval]) (by simp only [go_sem, seval] <;> rfl)) ?_
  refine .ret ⟨.inr rfl, ?_⟩
  exact Out.mem' (by simp only [Tryz.results218]; rfl) (by simp only [aq_, a8_, go_sem, seval]) (by simp only [a7_, rns, rn, go_sem, seval] <;> (simp)) (by simp) rfl (by decide) (by simp only [go_sem, seval]) (by simp only [ay_, go_sem, seval]) (by simp only [as_, go_sem, seval] <;> (simp))
 ·refine .skip (.seq (.rgn [] (by simp only [go_sem, seval]; rfl) ?_ ?_))
  ·first | trivial | simp
  refine .ret ⟨.inr rfl, ?_⟩
  exact Out.mem' (by simp only [Tryz.results218]; rfl) (by simp only [aq_, a8_, go_sem, seval]) (by simp only [a7_, rns, rn, go_sem, seval] <;> (simp)) (by simp) rfl (by decide) (by simp only [go_sem, seval]) (by simp only [ay_, go_sem, seval]) (by simp only [as_, go_sem, seval] <;> (simp))
theorem zt_ (e : E) (r : List E) (hl : r.length < 1099511627776) : ACall En 218 [.sl false (eR (e :: r))] [] [.ow 0 4 0 (r.length + 1)] [⟨48, 4, eR (e :: r)⟩] := by
 refine ah_ (fn := Tryz.f218) [17] Tryz.func218 rfl rfl (by simp) fun C => ?_
 rw [ar_]
 simp only [Tryz.ntmps218, List.length_cons, List.length_nil, Nat.reduceAdd, Nat.reduceSub, List.replicate_succ, List.replicate_zero, List.cons_append, List.nil_append, bd_]
 refine .seq (.rgn [] (by simp only [go_sem, seval, eR]; rfl) ?_ ?_)
 ·first | trivial | simp
 refine .seq (.seq (.rgnS [4] [nilO En] (by simp only [go_sem, seval, eR]; rfl) ?_ ?_))
 ·first | trivial | simp
 refine .condB (by simp only [go_sem, seval]; rfl) (by simp only [go_sem, seval]) (fun h4 => ?_) (fun h4 => ?_)
 ·exact absurd h4 (by simp)
 ·refine .skip (.seq (.rgn [] (by simp only [go_sem, seval, eR]; rfl) ?_ ?_))
  ·have := l5_ r; simp [l3_, a3_]; omega
  refine .ret ⟨.inr rfl, ?_⟩
  exact Out.mem' (by simp only [Tryz.results218]; rfl) (by simp only [aq_, a8_, go_sem, seval]) (by simp only [a7_, rns, rn, go_sem, seval] <;> (simp)) (by simp) rfl (by decide) (by simp only [go_sem, seval]) (by simp only [ay_, go_sem, seval]) (by simp only [as_, go_sem, seval] <;> (simp [eR, ci_, il_, a3_]))
theorem afe_ (l : List E) (hl : l.length < 1099511627776) : ACall En 218 [.sl false (eR l)] [] [.ow 0 4 0 l.length] [⟨48, 4, eR l⟩] := by
 cases l with
 | nil => simp only [eR]; exact ab0_
 | cons e r => exact zt_ e r (by simp at hl; omega)
theorem ahc_ (l : List E) (hl : l.length < 1099511627776) : ACall En 217 [.ow 0 4 0 l.length] [⟨48, 4, eR l⟩] [.ow 0 4 0 l.length] [⟨48, 4, eR l⟩] := by
 refine ah_ (fn := Tryz.f217) [0] Tryz.func217 rfl rfl (by simp) fun C => ?_
 rw [ar_]
 simp only [Tryz.ntmps217, List.length_cons, List.length_nil, Nat.reduceAdd, Nat.reduceSub, List.replicate_succ, List.replicate_zero, List.cons_append, List.nil_append, bd_]
 refine .seq (.rgn [] (by simp only [go_sem, seval]; rfl) ?_ ?_)
 ·first | trivial | simp
 refine .seq (.rgn [] (by simp only [go_sem, seval]; rfl) ?_ ?_)
 ·first | trivial | simp
 refine .ret ⟨.inr rfl, ?_⟩
 exact Out.mem' (by simp only [Tryz.results217]; rfl) (by simp only [aq_, a8_, go_sem, seval]) (by simp only [a7_, rns, rn, go_sem, seval] <;> (simp)) (by simp) rfl (by decide) (by simp only [go_sem, seval]) (by simp only [ay_, go_sem, seval]) (by simp only [as_, go_sem, seval] <;> (simp))
theorem afb_ (l : List E) (hl : l.length < 1099511627776) : ACall En 192 [.sl false (eR l)] [] [.ow 0 4 0 l.length] [⟨48, 4, eR l⟩] := by
 refine ah_ (fn := Tryz.f192) [14] Tryz.func192 rfl rfl (by simp) fun C => ?_
 rw [ar_]
 simp only [Tryz.ntmps192, List.length_cons, List.length_nil, Nat.reduceAdd, Nat.reduceSub, List.replicate_succ, List.replicate_zero, List.cons_append, List.nil_append, bd_]
 refine .seq (.rgn [] (by simp only [go_sem, seval]; rfl) ?_ ?_)
 ·first | trivial | simp
 refine .seq (.rgn [cz_ [] [14] (afe_ l hl), cz_ [14] [] (ahc_ l hl)] (by simp only [go_sem, seval]; rfl) ?_ ?_)
 ·first | trivial | simp
 refine .ret ⟨.inr rfl, ?_⟩
 exact Out.mem' (by simp only [Tryz.results192]; rfl) (by simp only [aq_, a8_, go_sem, seval]) (by simp only [a7_, rns, rn, go_sem, seval] <;> (simp)) (by simp) rfl (by decide) (by simp only [go_sem, seval]) (by simp only [ay_, go_sem, seval]) (by simp only [as_, go_sem, seval] <;> (simp))
end
section
set_option maxRecDepth 100000
set_option maxHeartbeats 4000000
def lz_ (l : List E) (k : Nat) : List (List V) := eR (ex_ (l.take k) ++ l.drop k)
theorem to_ (l : List E) (k : Nat) (h : k ≤ l.length) : (lz_ l k).length = l.length := by simp [lz_, l5_, gm_]; omega
theorem b5_ (l : List E) (k : Nat) : cf_ (lz_ l k) = true := il_ _
theorem zk_ (l : List E) : lz_ l 0 = eR l := by simp [lz_, ex_]
theorem abh_ (l : List E) (k : Nat) (h : l.length ≤ k) : lz_ l k = eR (ex_ l) := by simp [lz_, List.take_of_length_le h, List.drop_of_length_le h]
theorem aab_ {l : List E} {k : Nat} (h : k < l.length) {r : List V} (hr : r = eC (bare (l.getD k E0))) : (lz_ l k).set k r = lz_ l (k + 1) := by
 subst hr
 unfold lz_
 rw [wh_ h, wi_, wi_, wi_, List.set_append_right _ _ (by rw [l5_, gm_, List.length_take]; omega), l5_, gm_, List.length_take, Nat.min_eq_left (Nat.le_of_lt h), Nat.sub_self, List.drop_eq_getElem_cons h]
 simp only [eR, List.set_cons_zero, List.append_assoc, List.cons_append, List.nil_append]
theorem ad5_ : ∀ {l : List E} (r : List V), r ∈ eR l → r.length = 4 := fun {l} r hr => by
 rw [l3_] at hr; obtain ⟨e, _, rfl⟩ := List.mem_map.1 hr; rw [a3_]; rfl
theorem b7_ (l : List E) (k j : Nat) : ((lz_ l k).getD j []).drop 4 = [] := by
 rw [List.getD_eq_getElem?_getD]
 cases h : (lz_ l k)[j]? with
 | none => rfl
 | some r => have := ad5_ r (List.mem_of_getElem? h); simp only [Option.getD_some]; exact List.drop_of_length_le (by omega)
mutual
theorem r8_ : ∀ e : E, sm e = true → sm (bare e) = true
 | .mk k n s kids, h => by
  simp only [sm, Bool.and_eq_true] at h
  simp only [bare]
  by_cases hk : k = 4
  ·rw [if_pos hk]
   cases kids with
   | nil => simp only [tn_, sm, Bool.and_eq_true]; exact ⟨⟨h.1.1, by simp⟩, rfl⟩
   | cons a r => simp only [tn_]; simp only [sms, Bool.and_eq_true] at h; exact r8_ a h.2.1
  ·rw [if_neg hk]
   simp only [sm, Bool.and_eq_true]
   exact ⟨⟨h.1.1, by rw [gm_]; exact h.1.2⟩, q8_ kids h.2⟩
theorem q8_ : ∀ l : List E, sms l = true → sms (ex_ l) = true
 | [], _ => by simp only [ex_, sms]
 | e :: r, h => by
  simp only [sms, Bool.and_eq_true] at h
  simp only [ex_, sms, r8_ e h.1, q8_ r h.2, Bool.and_self]
end
theorem sb_ (e : E) : wf e = true → sm e = true → ACall En 145 [.ag (eC e)] [] [.ag (eC (bare e))] [] := by
 induction e using E.ind' with
 | h e ih =>
 intro hw hs
 obtain ⟨a1, a2, a3⟩ := fn_ hs
 obtain ⟨w1, w2⟩ := ado_ hw
 have a4 := afj_ hs
 refine ah_ (fn := Tryz.f145) [] Tryz.func145 rfl rfl (by simp) fun C => ?_
 rw [ar_]
 simp only [Tryz.ntmps145, List.length_cons, List.length_nil, Nat.reduceAdd, Nat.reduceSub, List.replicate_succ, List.replicate_zero, List.cons_append, List.nil_append, bd_]
 refine .seq (.rgn [] (by simp only [go_sem, seval, b5_, b7_]; rfl) ?_ ?_)
 ·first | trivial | simp
 refine .seq (.seq (.rgn [] (by simp only [go_sem, seval, b5_, b7_]; rfl) ?_ ?_))
 ·first | trivial | simp
 refine .condB (by simp only [go_sem, seval, b5_, b7_]; rfl) (by simp only [go_sem, seval, b5_, b7_]) (fun h8 => ?_) (fun h8 => ?_)
 ·refine .seq (.rgn [a2_ (ih (e.kids.getD 0 E0) (bo_ (w1 (by simpa using h8))) (r5_ w2 _ (bo_ (w1 (by simpa using h8)))) (c5_ a3 _ (bo_ (w1 (by simpa using h8)))))] (by simp only [go_sem, seval, b5_, b7_, d7_ (w1 (by simpa using h8))]; rfl) ?_ ?_)
  ·have := w1 (by simpa using h8); simp; omega
  refine .ret ⟨.inr rfl, ?_⟩
  exact Out.plain (by simp only [Tryz.results145]; rfl) (by simp only [aq_, a8_, go_sem, seval, b5_, b7_] <;> (split <;> rfl)) (by simp only [a7_, go_sem, seval, b5_, b7_] <;> (rw [q1_ (e := e) (by simpa using h8) (w1 (by simpa using h8))])) (by simp only [go_sem, seval, b5_, b7_])
 ·refine .skip (.seq (.rgnD [cz_ [] [32] (afb_ e.kids a4)] enM (by simp only [go_sem, seval, b5_, b7_]; rfl) (by rfl) ?_ ?_))
  ·first | trivial | simp
  refine .seq (.seq (.rgn [] (by simp only [go_sem, seval, b5_, b7_]; rfl) ?_ ?_))
  ·first | trivial | simp
  refine .block (.loopK (fun k : Nat => ⟨[.no, .pt 11 4 0 0, .pt 12 4 0 0, .pt 13 4 0 0, .no, .no, .no, .no, .no, .no, .no, .no, .no, .no, .no, .no, .no, .no, .no, .no, .no, .no, .no, .no, .no, .sl false (eR e.kids), .i .i64 e.kids.length, .i .i64 k, .no, .no, .no, .no, .no, .no, .no, .no, .no, .no, .no, .no], aw_ [(11, ⟨48, 4, [eC e]⟩), (12, ⟨48, 4, [[.i .i64 0, .i .i64 0, .s [], .sl true []]]⟩), (13, ⟨48, 4, [[.i .i64 e.kind, .i .i64 e.n, .s e.s, .ow 32 4 0 e.kids.length]]⟩), (32, ⟨48, 4, lz_ e.kids k⟩)], us [11, 12, 13, 32]⟩) (fun k : Nat => k ≤ e.kids.length) (fun k : Nat => e.kids.length - k) (0) ?_ ?_ (fun k hI => ?_))
  ·simp
  ·exact Can.weak (Weak.lit (by simp only [go_sem, seval, b5_, b7_, an_, leV, al_, am_, V.inn, us, true_or, or_true] <;> (simp)) (by simp only [go_sem, seval, b5_, b7_, an_, leV, al_, am_, V.inn, us, true_or, or_true]) (by simp only [go_sem, seval, b5_, b7_, an_, leV, al_, am_, V.inn, us, true_or, or_true] <;> (simp [zk_, hq_, il_])))
  refine .seq (.rgn [] (by simp only [go_sem, seval, b5_, b7_]; rfl) ?_ ?_)
  ·first | trivial | simp
  refine .seq (.condB (by simp only [go_sem, seval, b5_, b7_]; rfl) (by simp only [go_sem, seval, b5_, b7_]) (fun h28 => ?_) (fun h28 => ?_))
  ·refine .skip (.seq (.block (.seq (.rgn [] (by simp only [go_sem, seval, b5_, b7_, d7_ (show k < e.kids.length by simpa using h28)]; rfl) ?_ ?_))))
   ·simp at h28; simp; omega
   refine .rgnD [a2_ (ih (e.kids.getD k E0) (bo_ (by simpa using h28)) (r5_ w2 _ (bo_ (by simpa using h28))) (c5_ a3 _ (bo_ (by simpa using h28))))] enM (by simp only [go_sem, seval, b5_, b7_, aab_ (show k < e.kids.length by simpa using h28) (a3_ _).symm, to_ e.kids k hI, b5_]; rfl) (by rfl) ?_ ?_
   ·simp at h28; simp [to_ e.kids k hI]; omega
   refine .rgn [] (by simp only [go_sem, seval, b5_, b7_]; rfl) ?_ ?_
   ·first | trivial | simp
   refine Exists.intro (k + 1) ⟨?_, ?_, ?_⟩
   ·simp at h28; omega
   ·simp at h28; omega
   exact Can.weak (Weak.lit (by simp only [go_sem, seval, b5_, b7_, an_, leV, al_, am_, V.inn, us, true_or, or_true] <;> (rw [bc_ (by simp at h28; omega) (by simp at h28; omega)]; simp)) (by simp only [go_sem, seval, b5_, b7_, an_, leV, al_, am_, V.inn, us, true_or, or_true]) (by simp only [go_sem, seval, b5_, b7_, an_, leV, al_, am_, V.inn, us, true_or, or_true]))
  ·refine .exit (.seq (.rgn [] (by simp only [go_sem, seval, b5_, b7_]; rfl) ?_ ?_))
   ·first | trivial | simp
   refine .frz 32 (by simp only [go_sem, seval, b5_, b7_]; rfl) (by simp only [go_sem, seval, b5_, b7_]) (by simp only [go_sem, seval, b5_, b7_]; rfl) (by simp only [go_sem, seval, b5_, b7_]; rfl) ?_
   refine .ret ⟨.inr rfl, ?_⟩
   exact Out.plain (by simp only [Tryz.results145]; rfl) (by simp only [aq_, a8_, go_sem, seval, b5_, b7_] <;> (split <;> rfl)) (by simp only [a7_, go_sem, seval, b5_, b7_] <;> (simp at h28; rw [mh_ (e := e) (by simpa using h8), abh_ _ _ h28]; simp [a3_, gm_, l5_, E.kind, E.n, E.s, E.kids, List.take_of_length_le])) (by simp only [go_sem, seval, b5_, b7_])
end
section
set_option maxRecDepth 100000
set_option maxHeartbeats 1000000
def wdR (l : Wd) : List (List V) := l.map fun p => [.s p.1, .i .i64 p.2]
theorem ae_ (l : Wd) : (wdR l).length = l.length := by simp [wdR]
theorem km_ (a b : Wd) : wdR (a ++ b) = wdR a ++ wdR b := by simp [wdR]
theorem ad_ : ∀ l : Wd, cf_ (wdR l) = true
 | [] => rfl
 | p :: l => by simp only [wdR, List.map_cons, cf_, cv_, V.pure, Bool.true_and]; exact ad_ l
theorem aen_ (l : Wd) : ∀ r ∈ wdR l, r.length = 2 := fun r hr => by
 obtain ⟨p, _, rfl⟩ := List.mem_map.1 hr; rfl
theorem he_ {l : Wd} {k : Nat} (h : k < l.length) : (wdR l).getD k [] = [.s (l.getD k ([], 0)).1, .i .i64 (l.getD k ([], 0)).2] := by
 simp [wdR, List.getD_eq_getElem?_getD, List.getElem?_eq_getElem h]
theorem a9_ (l : Wd) : (∀ r, r ∈ wdR l → r.length = 2) = True := eq_true (aen_ l)
theorem vl_ {e : E} {d : Nat} (h : form e d = true) (hm : many e d ≤ 1000) (must nx : Int) : (src e must nx).length ≤ 3000 := by
 rw [← List.length_map (f := (·.1)), ej_]
 have := db_ d e must h; omega
theorem if_ (e : E) (must nx : Int) : (src e must nx).length = (wds e must).length := by
 rw [← ej_ e must nx, List.length_map]
theorem e6_ {n : Int} (h : 0 ≤ n) : Lib.itoa n = Lib.decDigits n.toNat := by unfold Lib.itoa; rw [if_neg (by omega)]
theorem wx_ {e : E} {d : Int} (h : form e d = true) (must nx : Int) : src e must nx = brk (decide (e.kind = 3) && decide (a4_ e.s < must)) (src e 0 nx) := by
 rcases (bb_ h).2 with ⟨k1, _⟩ | ⟨k1, _⟩ | ⟨k1, h1, h2, h3, h4, h5⟩ | ⟨k1, h1, h2, h3, h4⟩
 ·rw [show (decide (e.kind = 3)) = false by simp [k1]]; cases e; simp only [E.kind] at k1; subst k1; simp [src, brk]
 ·rw [show (decide (e.kind = 3)) = false by simp [k1]]; cases e; simp only [E.kind] at k1; subst k1; simp [src, brk]
 ·have := cp_ h2
  rw [ha_ k1 h3, ha_ k1 h3, show decide (a4_ e.s < 0) = false by simp; omega]
  simp [k1, brk]
 ·rw [lp_ k1 h3, lp_ k1 h3]; simp [k1, brk]
def mx2 (t : Int) : Int := if t > 2 then t else 2
theorem adb_ (t : Int) : mx2 t = max 2 t := by unfold mx2; split <;> omega
theorem k0_ (d : Nat) : ∀ (e : E) (must nx : Int), form e d = true → sm e = true → many e d ≤ 1000 → 0 ≤ nx → nx + cnt e ≤ 1000000 → must ≤ 1000 → 
  ACall En 144 [.ag (eC e), .i .i64 must, .pt 0 1 0 0] [⟨3, 1, [[.i .i64 nx]]⟩] [.ow 1 2 0 (src e must nx).length] [⟨3, 1, [[.i .i64 (nx + cnt e)]]⟩, ⟨121, 2, wdR (src e must nx)⟩] := by
 induction d with
 | zero => intro e must nx h; have := (bb_ h).1; omega
 | succ d ih =>
 intro e must nx h hs hm hx hx2 hmu
 obtain ⟨a1, a2, a3⟩ := fn_ hs
 have e1 : ((d + 1 : Nat) : Int) - 1 = (d : Int) := by omega
 have hd1 : (1 : Int) ≤ ((d + 1 : Nat) : Int) := by omega
 have hc := (db_ (d + 1) e must h).2.2.2
 have g12 : (e.kind = 1 ∨ e.kind = 2) → cnt e = 1 ∧ src e must nx = [(if e.kind = 1 then Lib.decDigits e.n.toNat else e.s, nx)] ∧ (e.kind = 1 → 0 ≤ e.n ∧ e.n ≤ 1000000) := fun hk => by
  rcases (bb_ h).2 with ⟨k1, h1, h2, h3, h4⟩ | ⟨k1, h1, h2, h3⟩ | ⟨k1, _⟩ | ⟨k1, _⟩ <;> try omega
  ·cases e; simp only [E.kind, E.kids] at k1 h4; subst k1 h4; simp [cnt, pp_, src, E.n, E.kind] at *; omega
  ·cases e; simp only [E.kind, E.kids] at k1 h3; subst k1 h3; simp [cnt, pp_, src, E.s, E.kind]
 have g3 : e.kind = 3 → e.kids.length = 2 ∧ 1 ≤ a4_ e.s ∧ a4_ e.s ≤ 3 ∧ form (e.kids.getD 0 E0) d = true ∧ form (e.kids.getD 1 E0) d = true ∧ many (e.kids.getD 0 E0) d ≤ 1000 ∧ many (e.kids.getD 1 E0) d ≤ 1000 ∧ 0 ≤ cnt (e.kids.getD 0 E0) ∧ cnt (e.kids.getD 0 E0) ≤ 1000 ∧ nx + cnt e = nx + 1 + cnt (e.kids.getD 0 E0) + cnt (e.kids.getD 1 E0) ∧ 0 ≤ cnt (e.kids.getD 1 E0) := fun hk => by
  rcases (bb_ h).2 with ⟨k1, _⟩ | ⟨k1, _⟩ | ⟨k1, h1, h2, h3, h4, h5⟩ | ⟨k1, _⟩ <;> try omega
  rw [e1] at h4 h5
  have := cp_ h2
  have hm2 := hy_ hd1 h3
  rw [e1] at hm2
  have q1 := db_ d _ 0 h4
  have q2 := db_ d _ 0 h5
  exact ⟨h3, this.1, this.2, h4, h5, by omega, by omega, by omega, by omega, by rw [kj_ k1 h3]; omega, by omega⟩
 have g4 : e.kind = 4 → e.kids.length = 1 ∧ form (e.kids.getD 0 E0) d = true ∧ many (e.kids.getD 0 E0) d ≤ 1000 ∧ cnt e = cnt (e.kids.getD 0 E0) := fun hk => by
  rcases (bb_ h).2 with ⟨k1, _⟩ | ⟨k1, _⟩ | ⟨k1, _⟩ | ⟨k1, h1, h2, h3, h4⟩ <;> try omega
  rw [e1] at h4
  have hm2 := ir_ hd1 h3
  rw [e1] at hm2
  have q1 := db_ d _ 0 h4
  exact ⟨h3, h4, by omega, sf_ k1 h3⟩
 have g0 : e.kind = 1 ∨ e.kind = 2 ∨ e.kind = 3 ∨ e.kind = 4 := by
  rcases (bb_ h).2 with ⟨k1, _⟩ | ⟨k1, _⟩ | ⟨k1, _⟩ | ⟨k1, _⟩ <;> omega
 have hT : e.kind = 3 → src e must nx = brk (decide (a4_ e.s < must)) (src (e.kids.getD 0 E0) (mx2 (a4_ e.s)) (nx + 1) ++ (e.s, nx) :: src (e.kids.getD 1 E0) (a4_ e.s + 1) (nx + 1 + cnt (e.kids.getD 0 E0))) ∧ nx + cnt e = nx + 1 + cnt (e.kids.getD 0 E0) + cnt (e.kids.getD 1 E0) := fun hk => ⟨by rw [adb_]; exact ha_ hk (g3 hk).1 _ _, (g3 hk).2.2.2.2.2.2.2.2.2.1⟩
 have hA : e.kind = 4 → src e must nx = src (e.kids.getD 0 E0) 4 nx ++ [([97, 115], -1), (e.s, -1)] ∧ cnt e = cnt (e.kids.getD 0 E0) := fun hk => ⟨lp_ hk (g4 hk).1 _ _, (g4 hk).2.2.2⟩
 have hL : ∀ k, k < e.kids.length → ∀ m n, (src (e.kids.getD k E0) m n).length ≤ 3000 := fun k hk m n => by
  rcases g0 with hk4 | hk4 | hk4 | hk4
  ·rcases (bb_ h).2 with ⟨k1, h1, h2, h3, h4⟩ | ⟨k1, _⟩ | ⟨k1, _⟩ | ⟨k1, _⟩ <;> try omega
   rw [h4] at hk; simp at hk
  ·rcases (bb_ h).2 with ⟨k1, _⟩ | ⟨k1, h1, h2, h3⟩ | ⟨k1, _⟩ | ⟨k1, _⟩ <;> try omega
   rw [h3] at hk; simp at hk
  ·have := g3 hk4
   have hk2 : k = 0 ∨ k = 1 := by omega
   rcases hk2 with rfl | rfl
   ·exact vl_ this.2.2.2.1 this.2.2.2.2.2.1 _ _
   ·exact vl_ this.2.2.2.2.1 this.2.2.2.2.2.2.1 _ _
  ·have := g4 hk4
   have hk2 : k = 0 := by omega
   subst hk2
   exact vl_ this.2.1 this.2.2.1 _ _
 refine ah_ (fn := Tryz.f144) [0, 150] Tryz.func144 rfl rfl (by simp) fun C => ?_
 rw [ar_]
 simp only [Tryz.ntmps144, List.length_cons, List.length_nil, Nat.reduceAdd, Nat.reduceSub, List.replicate_succ, List.replicate_zero, List.cons_append, List.nil_append, bd_]
 refine .seq (.rgn [] (by simp only [go_sem, seval, ae_, ad_, List.length_append, List.take_of_length_le]; rfl) ?_ ?_)
 ·(first | trivial | (simp; done) | (simp [cc_, List.forall_mem_append, a9_]; done))
 refine .seq (.rgn [] (by simp only [go_sem, seval, ae_, ad_, List.length_append, List.take_of_length_le]; rfl) ?_ ?_)
 ·(first | trivial | (simp; done) | (simp [cc_, List.forall_mem_append, a9_]; done))
 refine .seqJ (fun u : Unit => ⟨[.no, .no, .no, .no, .no, .no, .no, .ow 150 2 0 (src e must nx).length, .no, .no, .no, .no, .no, .no, .no, .no, .no, .no, .no, .no, .no, .no, .no, .no, .no, .no, .no, .no, .no, .no, .no, .no, .no, .no, .no, .no, .no, .no, .no, .no, .no, .no, .no, .no, .no, .no, .no, .no, .no, .no, .no, .no, .no, .no, .no, .no, .no, .no, .no, .no, .no, .no, .no, .no, .no, .no, .no, .no, .no, .no, .no, .no, .no, .no, .no, .no, .no, .no, .no, .no, .no, .no, .no, .no, .no, .no, .no, .no, .no, .no, .no, .no, .no, .no, .no, .no, .no], aw_ [(0, ⟨3, 1, [[.i .i64 (nx + cnt e)]]⟩), (150, ⟨121, 2, wdR (src e must nx)⟩)], us [150]⟩) (fun u : Unit => True) ?_ (fun u hJ => ?_)
 ·refine .seq (.rgn [] (by simp only [go_sem, seval, ae_, ad_, List.length_append, List.take_of_length_le]; rfl) ?_ ?_)
  ·(first | trivial | (simp; done) | (simp [cc_, List.forall_mem_append, a9_]; done))
  refine .block (.seqJ (fun q : Bool => ⟨[.no, .i .i64 must, .pt 0 1 0 0, .pt 13 4 0 0, .no, .no, .no, .no, .no, .no, .no, .no, .i .i64 e.kind, .b q, .no, .no, .no, .no, .no, .no, .no, .no, .no, .no, .no, .no, .no, .no, .no, .no, .no, .no, .no, .no, .no, .no, .no, .no, .no, .no, .no, .no, .no, .no, .no, .no, .no, .no, .no, .no, .no, .no, .no, .no, .no, .no, .no, .no, .no, .no, .no, .no, .no, .no, .no, .no, .no, .no, .no, .no, .no, .no, .no, .no, .no, .no, .no, .no, .no, .no, .no, .no, .no, .no, .no, .no, .no, .no, .no, .no, .no, .no, .no, .no, .no, .no, .no], aw_ [(0, ⟨3, 1, [[.i .i64 nx]]⟩), (13, ⟨48, 4, [eC e]⟩)], us [13]⟩) (fun q : Bool => q = (e.kind == 1 || e.kind == 2)) ?_ (fun q hJ => ?_))
  ·refine .seq (.rgn [] (by simp only [go_sem, seval, ae_, ad_, List.length_append, List.take_of_length_le]; rfl) ?_ ?_)
   ·(first | trivial | (simp; done) | (simp [cc_, List.forall_mem_append, a9_]; done))
   refine .condB (by simp only [go_sem, seval, ae_, ad_, List.length_append, List.take_of_length_le]; rfl) (by simp only [go_sem, seval, ae_, ad_, List.length_append, List.take_of_length_le]) (fun h13 => ?_) (fun h13 => ?_)
   ·refine .skip ?_
    refine Exists.intro ((e.kind == 1 || e.kind == 2)) ⟨?_, ?_⟩
    ·rfl
    exact Can.weak (Weak.lit (by simp only [go_sem, seval, ae_, ad_, List.length_append, List.take_of_length_le, an_, leV, al_, am_, V.inn, us, true_or, or_true] <;> (simp_all)) (by simp only [go_sem, seval, ae_, ad_, List.length_append, List.take_of_length_le, an_, leV, al_, am_, V.inn, us, true_or, or_true]) (by simp only [go_sem, seval, ae_, ad_, List.length_append, List.take_of_length_le, an_, leV, al_, am_, V.inn, us, true_or, or_true]))
   ·refine .rgn [] (by simp only [go_sem, seval, ae_, ad_, List.length_append, List.take_of_length_le]; rfl) ?_ ?_
    ·(first | trivial | (simp; done) | (simp [cc_, List.forall_mem_append, a9_]; done))
    refine Exists.intro ((e.kind == 1 || e.kind == 2)) ⟨?_, ?_⟩
    ·rfl
    exact Can.weak (Weak.lit (by simp only [go_sem, seval, ae_, ad_, List.length_append, List.take_of_length_le, an_, leV, al_, am_, V.inn, us, true_or, or_true] <;> (simp_all)) (by simp only [go_sem, seval, ae_, ad_, List.length_append, List.take_of_length_le, an_, leV, al_, am_, V.inn, us, true_or, or_true]) (by simp only [go_sem, seval, ae_, ad_, List.length_append, List.take_of_length_le, an_, leV, al_, am_, V.inn, us, true_or, or_true]))
  refine .condB (by simp only [go_sem, seval, ae_, ad_, List.length_append, List.take_of_length_le]; rfl) (by simp only [go_sem, seval, ae_, ad_, List.length_append, List.take_of_length_le]) (fun h13 => ?_) (fun h13 => ?_)
  ·refine .seq (.rgn [] (by simp only [go_sem, seval, ae_, ad_, List.length_append, List.take_of_length_le]; rfl) ?_ ?_)
   ·(first | trivial | (simp; done) | (simp [cc_, List.forall_mem_append, a9_]; done))
   refine .seqJ (fun s : Str => ⟨[.no, .no, .pt 0 1 0 0, .pt 13 4 0 0, .no, .no, .no, .no, .s s, .no, .no, .no, .no, .no, .no, .no, .no, .no, .no, .no, .no, .no, .no, .no, .no, .no, .no, .no, .no, .no, .no, .no, .no, .no, .no, .no, .no, .no, .no, .no, .no, .no, .no, .no, .no, .no, .no, .no, .no, .no, .no, .no, .no, .no, .no, .no, .no, .no, .no, .no, .no, .no, .no, .no, .no, .no, .no, .no, .no, .no, .no, .no, .no, .no, .no, .no, .no, .no, .no, .no, .no, .no, .no, .no, .no, .no, .no, .no, .no, .no, .no, .no, .no, .no, .no, .no, .no], aw_ [(0, ⟨3, 1, [[.i .i64 nx]]⟩), (13, ⟨48, 4, [eC e]⟩)], us [13]⟩) (fun s : Str => s = if e.kind = 1 then Lib.decDigits e.n.toNat else e.s) ?_ (fun s hJ => ?_)
   ·refine .seq (.rgn [] (by simp only [go_sem, seval, ae_, ad_, List.length_append, List.take_of_length_le]; rfl) ?_ ?_)
    ·(first | trivial | (simp; done) | (simp [cc_, List.forall_mem_append, a9_]; done))
    refine .condB (by simp only [go_sem, seval, ae_, ad_, List.length_append, List.take_of_length_le]; rfl) (by simp only [go_sem, seval, ae_, ad_, List.length_append, List.take_of_length_le]) (fun h20 => ?_) (fun h20 => ?_)
    ·refine .rgn [a2_ (wc_ e.n (by have := (g12 (.inl (by simpa using h20))).2.2 (by simpa using h20); omega) (by have := (g12 (.inl (by simpa using h20))).2.2 (by simpa using h20); omega))] (by simp only [go_sem, seval, ae_, ad_, List.length_append, List.take_of_length_le]; rfl) ?_ ?_
     ·(first | trivial | (simp; done) | (simp [cc_, List.forall_mem_append, a9_]; done))
     refine Exists.intro (Lib.itoa e.n) ⟨?_, ?_⟩
     ·simp_all [e6_]
     exact Can.weak (Weak.lit (by simp only [go_sem, seval, ae_, ad_, List.length_append, List.take_of_length_le, an_, leV, al_, am_, V.inn, us, true_or, or_true] <;> (simp_all)) (by simp only [go_sem, seval, ae_, ad_, List.length_append, List.take_of_length_le, an_, leV, al_, am_, V.inn, us, true_or, or_true]) (by simp only [go_sem, seval, ae_, ad_, List.length_append, List.take_of_length_le, an_, leV, al_, am_, V.inn, us, true_or, or_true]))
    ·refine .skip ?_
     refine Exists.intro (e.s) ⟨?_, ?_⟩
     ·simp_all [e6_]
     exact Can.weak (Weak.lit (by simp only [go_sem, seval, ae_, ad_, List.length_append, List.take_of_length_le, an_, leV, al_, am_, V.inn, us, true_or, or_true] <;> (simp_all)) (by simp only [go_sem, seval, ae_, ad_, List.length_append, List.take_of_length_le, an_, leV, al_, am_, V.inn, us, true_or, or_true]) (by simp only [go_sem, seval, ae_, ad_, List.length_append, List.take_of_length_le, an_, leV, al_, am_, V.inn, us, true_or, or_true]))
   refine .seq (.rgnS [29] [bsO En] (by simp only [go_sem, seval, ae_, ad_, List.length_append, List.take_of_length_le]; rfl) ?_ ?_)
   ·(first | trivial | (simp; done) | (simp [cc_, List.forall_mem_append, a9_]; done))
   refine .rgn [] (by simp only [go_sem, seval, ae_, ad_, List.length_append, List.take_of_length_le, bc_ (show -9223372036854775808 ≤ nx + 1 by omega) (by omega)]; rfl) ?_ ?_
   ·(first | trivial | (simp; done) | (simp [cc_, List.forall_mem_append, a9_]; done))
   refine Exists.intro (()) ⟨?_, ?_⟩
   ·trivial
   refine Can.trans (Can.swap 39 150 (by decide) (by decide) (by decide) (by decide) (by simp only [go_sem, seval, ae_, ad_, List.length_append, List.take_of_length_le, V.cl]) (by simp only [go_sem, seval, ae_, ad_, List.length_append, List.take_of_length_le, V.cl]) (by simp only [go_sem, seval, ae_, ad_, List.length_append, List.take_of_length_le, bn_, sw, swM, rnB] <;> rfl) (by simp only [go_sem, seval, ae_, ad_, List.length_append, List.take_of_length_le, bn_, sw, swM, rnB] <;> rfl) (by simp only [go_sem, seval, ae_, ad_, List.length_append, List.take_of_length_le, bn_, sw, swM, rnB] <;> rfl)) ?_
   exact Can.weak (Weak.lit (by simp only [go_sem, seval, ae_, ad_, List.length_append, List.take_of_length_le, an_, leV, al_, am_, V.inn, us, true_or, or_true] <;> (first | (rw [(hT (by simpa using h35)).1, h74]; simp [brk]; (first | done | omega)) | (rw [(hA (by simpa using h82)).1]; simp) | (rw [(g12 (by simp_all)).2.1]; rfl))) (by simp only [go_sem, seval, ae_, ad_, List.length_append, List.take_of_length_le, an_, leV, al_, am_, V.inn, us, true_or, or_true]) (by simp only [go_sem, seval, ae_, ad_, List.length_append, List.take_of_length_le, an_, leV, al_, am_, V.inn, us, true_or, or_true] <;> (first | (rw [(hT (by simpa using h35)).1, (hT (by simpa using h35)).2, h74]; simp [brk, wdR, ci_, km_]) | (rw [(hA (by simpa using h82)).1, (hA (by simpa using h82)).2]; simp [wdR]) | (rw [(g12 (by simp_all)).2.1, (g12 (by simp_all)).1, hJ]; simp [wdR]))))
  ·refine .seq (.rgn [] (by simp only [go_sem, seval, ae_, ad_, List.length_append, List.take_of_length_le]; rfl) ?_ ?_)
   ·(first | trivial | (simp; done) | (simp [cc_, List.forall_mem_append, a9_]; done))
   refine .condB (by simp only [go_sem, seval, ae_, ad_, List.length_append, List.take_of_length_le]; rfl) (by simp only [go_sem, seval, ae_, ad_, List.length_append, List.take_of_length_le]) (fun h35 => ?_) (fun h35 => ?_)
   ·refine .seq (.rgnD [a2_ (is_ e.s)] enM (by simp only [go_sem, seval, ae_, ad_, List.length_append, List.take_of_length_le]; rfl) (by rfl) ?_ ?_)
    ·(first | trivial | (simp; done) | (simp [cc_, List.forall_mem_append, a9_]; done))
    refine .seq (.rgn [] (by simp only [go_sem, seval, ae_, ad_, List.length_append, List.take_of_length_le, bc_ (show -9223372036854775808 ≤ nx + 1 by omega) (by omega)]; rfl) ?_ ?_)
    ·(first | trivial | (simp; done) | (simp [cc_, List.forall_mem_append, a9_]; done))
    refine .seq (.rgnD [cz_ [0] [65] (ih (e.kids.getD 0 E0) (mx2 (a4_ e.s)) (nx + 1) (g3 (by simpa using h35)).2.2.2.1 (c5_ a3 _ (bo_ (by have := g3 (by simpa using h35); omega))) (g3 (by simpa using h35)).2.2.2.2.2.1 (by omega) (by have := g3 (by simpa using h35); omega) (by have := g3 (by simpa using h35); rw [adb_]; omega))] enM (by simp only [go_sem, seval, ae_, ad_, List.length_append, List.take_of_length_le, d7_ (show 0 < e.kids.length by have := g3 (by simpa using h35); omega), as_, ay_]; rfl) (by rfl) ?_ ?_)
    ·have q := g3 (by simpa using h35); have q1 := hL 0 (by omega) (mx2 (a4_ e.s)) (nx + 1); have q2 : 0 < e.kids.length := (by omega); simp only [mx2, gt_iff_lt] at q1 ⊢; simp [-List.getD_eq_getElem?_getD, cc_, q2]; omega
    refine .seq (.rgn [cz_ [0] [80] (ih (e.kids.getD 1 E0) (a4_ e.s + 1) (nx + 1 + cnt (e.kids.getD 0 E0)) (g3 (by simpa using h35)).2.2.2.2.1 (c5_ a3 _ (bo_ (by have := g3 (by simpa using h35); omega))) (g3 (by simpa using h35)).2.2.2.2.2.2.1 (by have := g3 (by simpa using h35); omega) (by have := g3 (by simpa using h35); omega) (by have := g3 (by simpa using h35); omega))] (by simp only [go_sem, seval, ae_, ad_, List.length_append, List.take_of_length_le, d7_ (show 1 < e.kids.length by have := g3 (by simpa using h35); omega), as_, ay_, bc_ (show -9223372036854775808 ≤ a4_ e.s + 1 by have := g3 (by simpa using h35); omega) (by have := g3 (by simpa using h35); omega)]; rfl) ?_ ?_)
    ·have q := g3 (by simpa using h35); have q1 := hL 0 (by omega) (mx2 (a4_ e.s)) (nx + 1); have q2 : 1 < e.kids.length := (by omega); have q3 := hL 1 (by omega) (a4_ e.s + 1) (nx + 1 + cnt (e.kids.getD 0 E0)); simp [-List.getD_eq_getElem?_getD, cc_, q2, a9_]; omega
    refine .seq (.rgn [] (by simp only [go_sem, seval, ae_, ad_, List.length_append, List.take_of_length_le]; rfl) ?_ ?_)
    ·(first | trivial | (simp; done) | (simp [cc_, List.forall_mem_append, a9_]; done))
    refine .condB (by simp only [go_sem, seval, ae_, ad_, List.length_append, List.take_of_length_le]; rfl) (by simp only [go_sem, seval, ae_, ad_, List.length_append, List.take_of_length_le]) (fun h74 => ?_) (fun h74 => ?_)
    ·refine .rgn [] (by simp only [go_sem, seval, ae_, ad_, List.length_append, List.take_of_length_le]; rfl) ?_ ?_
     ·have q := g3 (by simpa using h35); have q1 := hL 0 (by omega) (mx2 (a4_ e.s)) (nx + 1); have q3 := hL 1 (by omega) (a4_ e.s + 1) (nx + 1 + cnt (e.kids.getD 0 E0)); simp [-List.getD_eq_getElem?_getD, cc_, a9_, or_imp, forall_and]; (first | omega)
     refine Exists.intro (()) ⟨?_, ?_⟩
     ·trivial
     refine Can.trans (Can.swap 91 150 (by decide) (by decide) (by decide) (by decide) (by simp only [go_sem, seval, ae_, ad_, List.length_append, List.take_of_length_le, V.cl]) (by simp only [go_sem, seval, ae_, ad_, List.length_append, List.take_of_length_le, V.cl]) (by simp only [go_sem, seval, ae_, ad_, List.length_append, List.take_of_length_le, bn_, sw, swM, rnB] <;> rfl) (by simp only [go_sem, seval, ae_, ad_, List.length_append, List.take_of_length_le, bn_, sw, swM, rnB] <;> rfl) (by simp only [go_sem, seval, ae_, ad_, List.length_append, List.take_of_length_le, bn_, sw, swM, rnB] <;> rfl)) ?_
     exact Can.weak (Weak.lit (by simp only [go_sem, seval, ae_, ad_, List.length_append, List.take_of_length_le, an_, leV, al_, am_, V.inn, us, true_or, or_true] <;> (first | (rw [(hT (by simpa using h35)).1, h74]; simp [brk]; (first | done | omega)) | (rw [(hA (by simpa using h82)).1]; simp) | (rw [(g12 (by simp_all)).2.1]; rfl))) (by simp only [go_sem, seval, ae_, ad_, List.length_append, List.take_of_length_le, an_, leV, al_, am_, V.inn, us, true_or, or_true]) (by simp only [go_sem, seval, ae_, ad_, List.length_append, List.take_of_length_le, an_, leV, al_, am_, V.inn, us, true_or, or_true] <;> (first | (rw [(hT (by simpa using h35)).1, (hT (by simpa using h35)).2, h74]; simp [brk, wdR, ci_, km_]) | (rw [(hA (by simpa using h82)).1, (hA (by simpa using h82)).2]; simp [wdR]) | (rw [(g12 (by simp_all)).2.1, (g12 (by simp_all)).1, hJ]; simp [wdR]))))
    ·refine .skip ?_
     refine Exists.intro (()) ⟨?_, ?_⟩
     ·trivial
     refine Can.trans (Can.swap 81 150 (by decide) (by decide) (by decide) (by decide) (by simp only [go_sem, seval, ae_, ad_, List.length_append, List.take_of_length_le, V.cl]) (by simp only [go_sem, seval, ae_, ad_, List.length_append, List.take_of_length_le, V.cl]) (by simp only [go_sem, seval, ae_, ad_, List.length_append, List.take_of_length_le, bn_, sw, swM, rnB] <;> rfl) (by simp only [go_sem, seval, ae_, ad_, List.length_append, List.take_of_length_le, bn_, sw, swM, rnB] <;> rfl) (by simp only [go_sem, seval, ae_, ad_, List.length_append, List.take_of_length_le, bn_, sw, swM, rnB] <;> rfl)) ?_
     exact Can.weak (Weak.lit (by simp only [go_sem, seval, ae_, ad_, List.length_append, List.take_of_length_le, an_, leV, al_, am_, V.inn, us, true_or, or_true] <;> (first | (rw [(hT (by simpa using h35)).1, h74]; simp [brk]; (first | done | omega)) | (rw [(hA (by simpa using h82)).1]; simp) | (rw [(g12 (by simp_all)).2.1]; rfl))) (by simp only [go_sem, seval, ae_, ad_, List.length_append, List.take_of_length_le, an_, leV, al_, am_, V.inn, us, true_or, or_true]) (by simp only [go_sem, seval, ae_, ad_, List.length_append, List.take_of_length_le, an_, leV, al_, am_, V.inn, us, true_or, or_true] <;> (first | (rw [(hT (by simpa using h35)).1, (hT (by simpa using h35)).2, h74]; simp [brk, wdR, ci_, km_]) | (rw [(hA (by simpa using h82)).1, (hA (by simpa using h82)).2]; simp [wdR]) | (rw [(g12 (by simp_all)).2.1, (g12 (by simp_all)).1, hJ]; simp [wdR]))))
   ·refine .seq (.rgn [] (by simp only [go_sem, seval, ae_, ad_, List.length_append, List.take_of_length_le]; rfl) ?_ ?_)
    ·(first | trivial | (simp; done) | (simp [cc_, List.forall_mem_append, a9_]; done))
    refine .condB (by simp only [go_sem, seval, ae_, ad_, List.length_append, List.take_of_length_le]; rfl) (by simp only [go_sem, seval, ae_, ad_, List.length_append, List.take_of_length_le]) (fun h82 => ?_) (fun h82 => ?_)
    ·refine .rgnD [cz_ [0] [99] (ih (e.kids.getD 0 E0) 4 nx (g4 (by simpa using h82)).2.1 (c5_ a3 _ (bo_ (by have := g4 (by simpa using h82); omega))) (g4 (by simpa using h82)).2.2.1 hx (by have := g4 (by simpa using h82); omega) (by decide))] enM (by simp only [go_sem, seval, ae_, ad_, List.length_append, List.take_of_length_le, d7_ (show 0 < e.kids.length by have := g4 (by simpa using h82); omega), as_, ay_]; rfl) (by rfl) ?_ ?_
     ·have q := g4 (by simpa using h82); have q1 := hL 0 (by omega) 4 nx; have q2 : 0 < e.kids.length := (by omega); simp [-List.getD_eq_getElem?_getD, cc_, q2]; omega
     refine Exists.intro (()) ⟨?_, ?_⟩
     ·trivial
     refine Can.trans (Can.swap 105 150 (by decide) (by decide) (by decide) (by decide) (by simp only [go_sem, seval, ae_, ad_, List.length_append, List.take_of_length_le, V.cl]) (by simp only [go_sem, seval, ae_, ad_, List.length_append, List.take_of_length_le, V.cl]) (by simp only [go_sem, seval, ae_, ad_, List.length_append, List.take_of_length_le, bn_, sw, swM, rnB] <;> rfl) (by simp only [go_sem, seval, ae_, ad_, List.length_append, List.take_of_length_le, bn_, sw, swM, rnB] <;> rfl) (by simp only [go_sem, seval, ae_, ad_, List.length_append, List.take_of_length_le, bn_, sw, swM, rnB] <;> rfl)) ?_
     exact Can.weak (Weak.lit (by simp only [go_sem, seval, ae_, ad_, List.length_append, List.take_of_length_le, an_, leV, al_, am_, V.inn, us, true_or, or_true] <;> (first | (rw [(hT (by simpa using h35)).1, h74]; simp [brk]; (first | done | omega)) | (rw [(hA (by simpa using h82)).1]; simp) | (rw [(g12 (by simp_all)).2.1]; rfl))) (by simp only [go_sem, seval, ae_, ad_, List.length_append, List.take_of_length_le, an_, leV, al_, am_, V.inn, us, true_or, or_true]) (by simp only [go_sem, seval, ae_, ad_, List.length_append, List.take_of_length_le, an_, leV, al_, am_, V.inn, us, true_or, or_true] <;> (first | (rw [(hT (by simpa using h35)).1, (hT (by simpa using h35)).2, h74]; simp [brk, wdR, ci_, km_]) | (rw [(hA (by simpa using h82)).1, (hA (by simpa using h82)).2]; simp [wdR]) | (rw [(g12 (by simp_all)).2.1, (g12 (by simp_all)).1, hJ]; simp [wdR]))))
    ·simp_all
 refine .seq (.rgn [] (by simp only [go_sem, seval, ae_, ad_, List.length_append, List.take_of_length_le]; rfl) ?_ ?_)
 ·(first | trivial | (simp; done) | (simp [cc_, List.forall_mem_append, a9_]; done))
 refine .ret ⟨.inr rfl, ?_⟩
 exact Out.mem' (by simp only [Tryz.results144]; rfl) (by simp only [aq_, a8_, go_sem, seval, ae_, ad_, List.length_append, List.take_of_length_le]) (by simp only [a7_, rns, rn, go_sem, seval, ae_, ad_, List.length_append, List.take_of_length_le] <;> (simp_all)) (by simp) rfl (by decide) (by simp only [go_sem, seval, ae_, ad_, List.length_append, List.take_of_length_le]) (by simp only [ay_, go_sem, seval, ae_, ad_, List.length_append, List.take_of_length_le]) (by simp only [as_, go_sem, seval, ae_, ad_, List.length_append, List.take_of_length_le] <;> (simp))
end
end Go.Proofs.YtefmbmafdgedmaaGreatDoor
