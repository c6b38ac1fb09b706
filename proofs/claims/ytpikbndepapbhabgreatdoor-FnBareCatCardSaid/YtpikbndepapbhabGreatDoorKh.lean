/- Without types. Conditions: none. -/
import Derived.Test.YtpikbndepapbhabGreatDoorKe
import Derived.Test.YtpikbndepapbhabGreatDoorKc
import Derived.Test.YtpikbndepapbhabGreatDoorKg
import Derived.Test.YtpikbndepapbhabGreatDoorKf
set_option linter.unusedVariables false
set_option linter.unusedSimpArgs false
namespace Go.Proofs.YtpikbndepapbhabGreatDoor
section
set_option maxRecDepth 100000
set_option maxHeartbeats 4000000
theorem jt_ (a b : List E) : eR (a ++ b) = eR a ++ eR b := by simp [f6_]
theorem t7_ {l : List E} {k : Nat} (h : k < l.length) : eR (cb_ (l.take k)) ++ [[.i .i64 (bare (l.getD k E0)).kind, .i .i64 (bare (l.getD k E0)).n, .s (bare (l.getD k E0)).s, .sl false (eR (bare (l.getD k E0)).kids)]] = eR (cb_ (l.take (k + 1))) := by
 rw [hj_ h, jt_, ← cy_]; simp only [eR]
theorem h2_ (e : E) : wf e = true → sm e = true → ACall En 105 [.ag (eC e)] [] [.ag (eC (bare e))] [] := by
 induction e using E.ind' with
 | h e ih =>
 intro hw hs
 obtain ⟨a1, a2, a3⟩ := cl_ hs
 obtain ⟨w1, w2⟩ := oe_ hw
 refine ap_ (fn := Tryz.f105) [] Tryz.func105 rfl rfl (by simp) fun C => ?_
 rw [ay_]
 simp only [Tryz.ntmps105, T7_, List.length_nil, Nat.reduceAdd, Nat.reduceSub, List.replicate_succ, List.replicate_zero, List.cons_append, List.nil_append, bl_]
 refine .seq (.rgn [] (by simp only [go_sem, seval]; rfl) ?_ ?_)
 ·first | trivial | simp
 refine .seq (.seq (.rgn [] (by simp only [go_sem, seval]; rfl) ?_ ?_))
 ·first | trivial | simp
 refine .condB (by simp only [go_sem, seval]; rfl) (by simp only [go_sem, seval]) (fun h7 => ?_) (fun h7 => ?_)
 ·refine .seq (.rgn [a4_ (ih (e.kids.getD 0 E0) (ba_ (w1 (by simpa using h7))) (fl_ w2 _ (ba_ (w1 (by simpa using h7)))) (b1_ a3 _ (ba_ (w1 (by simpa using h7)))))] (by simp only [go_sem, seval, b4_ (w1 (by simpa using h7))]; rfl) ?_ ?_)
  ·have := w1 (by simpa using h7); simp; omega
  refine .ret ⟨.inr rfl, ?_⟩
  exact Out.plain (by simp only [Tryz.results105]; rfl) (by simp only [aw_, a3_, go_sem, seval] <;> (split <;> rfl)) (by simp only [a2_, go_sem, seval] <;> (rw [ix_ (e := e) (by simpa using h7) (w1 (by simpa using h7))])) (by simp only [go_sem, seval])
 ·refine .skip (.seq (.rgn [] (by simp only [go_sem, seval]; rfl) ?_ ?_))
  ·first | trivial | simp
  refine .seq (.seq (.rgn [] (by simp only [go_sem, seval]; rfl) ?_ ?_))
  ·first | trivial | simp
  refine .block (.loopK (fun k : Nat => ⟨[.no, .pt 11 4 0 0, .pt 12 4 0 0, .pt 13 4 0 0, .i .i64 k, .no, .no, .no, .no, .no, .no, .no, .no, .no, .no, .no, .no, .no, .no, .no, .no, .no, .no, .no, .no, .no, .no, .no, .no, .no, .no, .no, .no, .no, .no, .no, .no, .no, .no], a1_ [(11, ⟨33, 4, [eC e]⟩), (12, ⟨33, 4, [[.i .i64 0, .i .i64 0, .s [], .sl true []]]⟩), (13, ⟨33, 4, [[.i .i64 e.kind, .i .i64 e.n, .s e.s, .ow 60 4 0 k]]⟩), (60, ⟨33, 4, eR (cb_ (e.kids.take k))⟩)], us [11, 12, 13, 60]⟩) (fun k : Nat => k ≤ e.kids.length) (fun k : Nat => e.kids.length - k) (0) ?_ ?_ (fun k hI => ?_))
  ·simp
  ·refine Can.trans (Can.ownCell 13 3 60 33 4 (by simp only [go_sem, seval] <;> rfl) (by simp only [go_sem, seval] <;> rfl) (by simp only [go_sem, seval] <;> rfl) (by simp only [go_sem, seval] <;> rfl) (by simp only [go_sem, seval] <;> rfl)) ?_
   exact Can.weak (Weak.lit (by simp only [go_sem, seval, au_, leV, as_, at_, V.inn, us, T9_, Ta_] <;> (simp)) (by simp only [go_sem, seval, au_, leV, as_, at_, V.inn, us, T9_, Ta_]) (by simp only [go_sem, seval, au_, leV, as_, at_, V.inn, us, T9_, Ta_] <;> (simp [cb_, eR])))
  refine .seq (.seq (.rgn [] (by simp only [go_sem, seval]; rfl) ?_ ?_))
  ·first | trivial | simp
  refine .condB (by simp only [go_sem, seval]; rfl) (by simp only [go_sem, seval]) (fun h24 => ?_) (fun h24 => ?_)
  ·refine .skip (.seq (.block (.rgnD [a4_ (ih (e.kids.getD k E0) (ba_ (by simpa using h24)) (fl_ w2 _ (ba_ (by simpa using h24))) (b1_ a3 _ (ba_ (by simpa using h24))))] enM (by simp only [go_sem, seval, t7_ (show k < e.kids.length by simpa using h24), b4_ (show k < e.kids.length by simpa using h24)]; rfl) (by rfl) ?_ ?_)))
   ·simp at h24; have a4 := jx_ hs; simp [cr_]; omega
   refine .rgn [] (by simp only [go_sem, seval]; rfl) ?_ ?_
   ·first | trivial | simp
   refine Exists.intro (k + 1) ⟨?_, ?_, ?_⟩
   ·simp at h24; omega
   ·simp at h24; omega
   refine Can.trans (Can.swap 46 60 (by decide) (by decide) (by decide) (by decide) (by simp only [go_sem, seval, V.cl]) (by simp only [go_sem, seval, V.cl]) (by simp only [go_sem, seval, a5_, sw, swM, rnB] <;> rfl) (by simp only [go_sem, seval, a5_, sw, swM, rnB] <;> rfl) (by simp only [go_sem, seval, a5_, sw, swM, rnB] <;> rfl)) ?_
   exact Can.weak (Weak.lit (by simp only [go_sem, seval, au_, leV, as_, at_, V.inn, us, T9_, Ta_] <;> (rw [a8_ (by simp at h24; omega) (by simp at h24; omega)]; simp)) (by simp only [go_sem, seval, au_, leV, as_, at_, V.inn, us, T9_, Ta_]) (by simp only [go_sem, seval, au_, leV, as_, at_, V.inn, us, T9_, Ta_]))
  ·refine .exit (.seq (.rgn [] (by simp only [go_sem, seval]; rfl) ?_ ?_))
   ·first | trivial | simp
   refine .frz 60 (by simp only [go_sem, seval]; rfl) (by simp only [go_sem, seval]) (by simp only [go_sem, seval]; rfl) (by simp only [go_sem, seval]; rfl) ?_
   refine .ret ⟨.inr rfl, ?_⟩
   exact Out.plain (by simp only [Tryz.results105]; rfl) (by simp only [aw_, a3_, go_sem, seval] <;> (split <;> rfl)) (by simp only [a2_, go_sem, seval] <;> (simp at h24; have hk : k = e.kids.length := (by omega); subst hk; rw [jg_ (e := e) (by simpa using h7)]; simp [cr_, fe_, E.kind, E.n, E.s, E.kids, T1_])) (by simp only [go_sem, seval])
end
section
set_option maxRecDepth 100000
set_option maxHeartbeats 4000000
theorem fw_ (e : E) (hs : sm e = true) : ACall En 75 [.ag (eC e)] [] [.b (jf_ e)] [] := by
 refine ap_ (fn := Tryz.f75) [] Tryz.func75 rfl rfl (by simp) fun C => ?_
 rw [ay_]
 simp only [Tryz.ntmps75, T7_, List.length_nil, Nat.reduceAdd, Nat.reduceSub, List.replicate_succ, List.replicate_zero, List.cons_append, List.nil_append, bl_]
 refine .seq (.rgn [] (by simp only [go_sem, seval]; rfl) ?_ ?_)
 ·first | trivial | simp
 refine .seq (.rgn [a4_ (lf_ e E0 hs rfl)] (by simp only [go_sem, seval, E0, E.kind, E.n, E.s, E.kids, eR]; rfl) ?_ ?_)
 ·first | trivial | simp
 refine .ret ⟨.inr rfl, ?_⟩
 exact Out.plain (by simp only [Tryz.results75]; rfl) (by simp only [aw_, a3_, go_sem, seval] <;> (split <;> rfl)) (by simp only [a2_, go_sem, seval] <;> (rfl)) (by simp only [go_sem, seval])
theorem ex_ (e : E) (hs : sm e = true) : ACall En 72 [.ag (eC e)] [] [.b (jf_ e)] [] := by
 refine ap_ (fn := Tryz.f72) [] Tryz.func72 rfl rfl (by simp) fun C => ?_
 rw [ay_]
 simp only [Tryz.ntmps72, T7_, List.length_nil, Nat.reduceAdd, Nat.reduceSub, List.replicate_succ, List.replicate_zero, List.cons_append, List.nil_append, bl_]
 refine .seq (.rgn [] (by simp only [go_sem, seval]; rfl) ?_ ?_)
 ·first | trivial | simp
 refine .seq (.rgn [a4_ (gp_ e E0 hs rfl)] (by simp only [go_sem, seval, E0, E.kind, E.n, E.s, E.kids, eR]; rfl) ?_ ?_)
 ·first | trivial | simp
 refine .ret ⟨.inr rfl, ?_⟩
 exact Out.plain (by simp only [Tryz.results72]; rfl) (by simp only [aw_, a3_, go_sem, seval] <;> (split <;> rfl)) (by simp only [a2_, go_sem, seval] <;> (rfl)) (by simp only [go_sem, seval])
theorem ji_ {l : List E} {k : Nat} (h : k < l.length) : e9_ (l.drop k) = (pla (l.getD k E0) && e9_ (l.drop (k + 1))) := by
 rw [List.drop_eq_getElem_cons h, dm_ h]; simp only [e9_]
theorem qq_ {l : List E} {k : Nat} (h : l.length ≤ k) : e9_ (l.drop k) = true := by
 rw [List.drop_of_length_le h]; simp only [e9_]
theorem o4_ (e : E) : sm e = true → ACall En 129 [.ag (eC e)] [] [.b (pla e)] [] := by
 induction e using E.ind' with
 | h e ih =>
 intro hs
 obtain ⟨a1, a2, a3⟩ := cl_ hs
 refine ap_ (fn := Tryz.f129) [] Tryz.func129 rfl rfl (by simp) fun C => ?_
 rw [ay_]
 simp only [Tryz.ntmps129, T7_, List.length_nil, Nat.reduceAdd, Nat.reduceSub, List.replicate_succ, List.replicate_zero, List.cons_append, List.nil_append, bl_]
 refine .seq (.rgn [] (by simp only [go_sem, seval]; rfl) ?_ ?_)
 ·first | trivial | simp
 refine .seq (.seq (.rgn [] (by simp only [go_sem, seval]; rfl) ?_ ?_))
 ·first | trivial | simp
 refine .condB (by simp only [go_sem, seval]; rfl) (by simp only [go_sem, seval]) (fun h6 => ?_) (fun h6 => ?_)
 ·refine .seq (.rgn [] (by simp only [go_sem, seval]; rfl) ?_ ?_)
  ·first | trivial | simp
  refine .ret ⟨.inr rfl, ?_⟩
  exact Out.plain (by simp only [Tryz.results129]; rfl) (by simp only [aw_, a3_, go_sem, seval] <;> (split <;> rfl)) (by simp only [a2_, go_sem, seval] <;> (rw [ns_]; simp_all)) (by simp only [go_sem, seval])
 ·refine .skip (.seq (.seq (.rgn [] (by simp only [go_sem, seval]; rfl) ?_ ?_)))
  ·first | trivial | simp
  refine .block (.loopK (fun k : Nat => ⟨[.no, .pt 11 4 0 0, .b false, .i .i64 k, .no, .no, .no, .no, .no, .no, .no, .no, .no, .no, .no, .no, .no, .no, .no, .no, .no], a1_ [(11, ⟨33, 4, [eC e]⟩)], us [11]⟩) (fun k : Nat => k ≤ e.kids.length ∧ e9_ e.kids = e9_ (e.kids.drop k)) (fun k : Nat => e.kids.length - k) (0) ?_ ?_ (fun k hI => ?_))
  ·simp
  ·exact Can.weak (Weak.lit (by simp only [go_sem, seval, au_, leV, as_, at_, V.inn, us, T9_, Ta_] <;> (simp)) (by simp only [go_sem, seval, au_, leV, as_, at_, V.inn, us, T9_, Ta_]) (by simp only [go_sem, seval, au_, leV, as_, at_, V.inn, us, T9_, Ta_]))
  refine .seq (.seq (.rgn [] (by simp only [go_sem, seval]; rfl) ?_ ?_))
  ·first | trivial | simp
  refine .condB (by simp only [go_sem, seval]; rfl) (by simp only [go_sem, seval]) (fun h11 => ?_) (fun h11 => ?_)
  ·refine .skip (.seq (.block (.seq (.rgn [a4_ (ih (e.kids.getD k E0) (ba_ (by simpa using h11)) (b1_ a3 _ (ba_ (by simpa using h11))))] (by simp only [go_sem, seval, b4_ (show k < e.kids.length by simpa using h11)]; rfl) ?_ ?_))))
   ·simp at h11; simp; omega
   refine .condB (by simp only [go_sem, seval]; rfl) (by simp only [go_sem, seval]) (fun h20 => ?_) (fun h20 => ?_)
   ·refine .seq (.rgn [] (by simp only [go_sem, seval]; rfl) ?_ ?_)
    ·first | trivial | simp
    refine .ret ⟨.inr rfl, ?_⟩
    exact Out.plain (by simp only [Tryz.results129]; rfl) (by simp only [aw_, a3_, go_sem, seval] <;> (split <;> rfl)) (by simp only [a2_, go_sem, seval] <;> (simp at h11; rw [ns_, hI.2, ji_ h11]; simp_all)) (by simp only [go_sem, seval])
   ·refine .skip (.rgn [] (by simp only [go_sem, seval]; rfl) ?_ ?_)
    ·first | trivial | simp
    refine Exists.intro (k + 1) ⟨?_, ?_, ?_⟩
    ·simp at h11; refine ⟨by omega, ?_⟩; rw [hI.2, ji_ h11]; simp_all
    ·simp at h11; omega
    exact Can.weak (Weak.lit (by simp only [go_sem, seval, au_, leV, as_, at_, V.inn, us, T9_, Ta_] <;> (rw [a8_ (by simp at h11; omega) (by simp at h11; omega)]; simp)) (by simp only [go_sem, seval, au_, leV, as_, at_, V.inn, us, T9_, Ta_]) (by simp only [go_sem, seval, au_, leV, as_, at_, V.inn, us, T9_, Ta_]))
  ·refine .exit (.seq (.rgn [] (by simp only [go_sem, seval]; rfl) ?_ ?_))
   ·first | trivial | simp
   refine .ret ⟨.inr rfl, ?_⟩
   exact Out.plain (by simp only [Tryz.results129]; rfl) (by simp only [aw_, a3_, go_sem, seval] <;> (split <;> rfl)) (by simp only [a2_, go_sem, seval] <;> (simp at h11; rw [ns_, hI.2, qq_ h11]; simp_all)) (by simp only [go_sem, seval])
end
section
set_option maxRecDepth 100000
set_option maxHeartbeats 4000000
theorem pl_ (b : Str) : ACall En 51 [.sl false (byR b)] [] [.pt 0 2 0 0] [⟨107, 2, [[.sl false (byR (b.take 2000)), .i .i64 0]]⟩] := by
 refine ap_ (fn := Tryz.f51) [20] Tryz.func51 rfl rfl (by simp) fun C => ?_
 rw [ay_]
 simp only [Tryz.ntmps51, T7_, List.length_nil, Nat.reduceAdd, Nat.reduceSub, List.replicate_succ, List.replicate_zero, List.cons_append, List.nil_append, bl_]
 refine .seq (.rgn [] (by simp only [go_sem, seval]; rfl) ?_ ?_)
 ·(first | trivial | decide | (simp at h5; simp; omega) | simp)
 refine .seq (.seq (.rgn [] (by simp only [go_sem, seval]; rfl) ?_ ?_))
 ·(first | trivial | decide | (simp at h5; simp; omega) | simp)
 refine .condB (by simp only [go_sem, seval]; rfl) (by simp only [go_sem, seval]) (fun h5 => ?_) (fun h5 => ?_)
 ·refine .rgn [] (by simp only [go_sem, seval]; rfl) ?_ ?_
  ·(first | trivial | decide | (simp at h5; simp; omega) | simp)
  refine .seq (.rgn [] (by simp only [go_sem, seval]; rfl) ?_ ?_)
  ·(first | trivial | decide | (simp at h5; simp; omega) | simp)
  refine .ret ⟨.inr rfl, ?_⟩
  exact Out.mem' (by simp only [Tryz.results51]; rfl) (by simp only [aw_, a3_, go_sem, seval]) (by simp only [a2_, rns, rn, go_sem, seval] <;> (simp_all)) (by simp) rfl (by decide) (by simp only [go_sem, seval]) (by simp only [aq_, go_sem, seval]) (by simp only [ak_, go_sem, seval] <;> (rfl))
 ·refine .skip (.seq (.rgn [] (by simp only [go_sem, seval]; rfl) ?_ ?_))
  ·(first | trivial | decide | (simp at h5; simp; omega) | simp)
  refine .ret ⟨.inr rfl, ?_⟩
  exact Out.mem' (by simp only [Tryz.results51]; rfl) (by simp only [aw_, a3_, go_sem, seval]) (by simp only [a2_, rns, rn, go_sem, seval] <;> (simp_all)) (by simp) rfl (by decide) (by simp only [go_sem, seval]) (by simp only [aq_, go_sem, seval]) (by simp only [ak_, go_sem, seval] <;> (simp at h5; rw [T1_ (show b.length ≤ 2000 by omega)]))
abbrev wr (n : Int) : Int := IntKind.i64.wrap n
def ip_ (b : Str) (k : Int) : Int := wr (wr (wr (wr ((b.getD (k.tmod b.length).toNat 0).toNat * 131) + wr ((b.getD ((k * 7 + 3).tmod b.length).toNat 0).toNat * 1117)) + wr (k * 29)) + wr (wr (k.tdiv b.length) * 53))
def u4_ (b : Str) (k : Int) : Int := IntKind.i64.wrap (BitVec.ofInt IntKind.i64.bits (ip_ b k) ^^^ BitVec.ofInt IntKind.i64.bits (IntKind.i64.wrap ((ip_ b k).tdiv 64))).toNat
def bu_ (b : Str) (p n : Int) : Int :=
 if n < 1 ∨ b.length = 0 then 0 else if p < b.length then ((b.getD p.toNat 0).toNat : Int).tmod n else (u4_ b p).tmod n
theorem ny_ {k : Int} {n : Nat} (h : 0 ≤ k) (hn : 0 < n) : (k.tmod n).toNat < n := by
 have := Int.tmod_lt_of_pos k (show (0 : Int) < n by omega)
 have := Int.tmod_nonneg (n : Int) h
 omega
theorem ut_ (c : UInt8) : IntKind.i64.wrap (c.toNat : Int) = c.toNat := by
 have := UInt8.toNat_lt c
 exact a8_ (by omega) (by omega)
theorem cv_ (b : Str) (p n : Int) (hb : b.length ≤ 2000) (hp : 0 ≤ p) (hp2 : p < 1099511627776) :
  ACall En 54 [.pt 0 2 0 0, .i .i64 n] [⟨107, 2, [[.sl false (byR b), .i .i64 p]]⟩] [.i .i64 (bu_ b p n)] [⟨107, 2, [[.sl false (byR b), .i .i64 (p + 1)]]⟩] := by
 refine ap_ (fn := Tryz.f54) [0] Tryz.func54 rfl rfl (by simp) fun C => ?_
 rw [ay_]
 simp only [Tryz.ntmps54, T7_, List.length_nil, Nat.reduceAdd, Nat.reduceSub, List.replicate_succ, List.replicate_zero, List.cons_append, List.nil_append, bl_]
 refine .seq (.rgn [] (by simp only [go_sem, seval]; rfl) ?_ ?_)
 ·(first | trivial | (simp; done) | (simp at h24; simp; omega) | (simp at h24 h36; refine ⟨⟨hp, by omega⟩, by omega⟩) | (have hb0 : (0 : Int) < b.length := (by cases b with | nil => simp at h24 | cons c b => simp); have q1 := Int.tmod_lt_of_pos p hb0; have q2 := Int.tmod_nonneg (b.length : Int) hp; have q3 := Int.tmod_lt_of_pos (p * 7 + 3) hb0; have q4 := Int.tmod_nonneg (b.length : Int) (show 0 ≤ p * 7 + 3 by omega); refine ⟨⟨⟨⟨by omega, q2, q1⟩, by omega⟩, q4, q3⟩, by omega⟩))
 refine .seq (.rgn [] (by simp only [go_sem, seval, a8_ (show -9223372036854775808 ≤ p + 1 by omega) (by omega)]; rfl) ?_ ?_)
 ·(first | trivial | (simp; done) | (simp at h24; simp; omega) | (simp at h24 h36; refine ⟨⟨hp, by omega⟩, by omega⟩) | (have hb0 : (0 : Int) < b.length := (by cases b with | nil => simp at h24 | cons c b => simp); have q1 := Int.tmod_lt_of_pos p hb0; have q2 := Int.tmod_nonneg (b.length : Int) hp; have q3 := Int.tmod_lt_of_pos (p * 7 + 3) hb0; have q4 := Int.tmod_nonneg (b.length : Int) (show 0 ≤ p * 7 + 3 by omega); refine ⟨⟨⟨⟨by omega, q2, q1⟩, by omega⟩, q4, q3⟩, by omega⟩))
 refine .seq (.seq (.rgn [] (by simp only [go_sem, seval]; rfl) ?_ ?_))
 ·(first | trivial | (simp; done) | (simp at h24; simp; omega) | (simp at h24 h36; refine ⟨⟨hp, by omega⟩, by omega⟩) | (have hb0 : (0 : Int) < b.length := (by cases b with | nil => simp at h24 | cons c b => simp); have q1 := Int.tmod_lt_of_pos p hb0; have q2 := Int.tmod_nonneg (b.length : Int) hp; have q3 := Int.tmod_lt_of_pos (p * 7 + 3) hb0; have q4 := Int.tmod_nonneg (b.length : Int) (show 0 ≤ p * 7 + 3 by omega); refine ⟨⟨⟨⟨by omega, q2, q1⟩, by omega⟩, q4, q3⟩, by omega⟩))
 refine .condB (by simp only [go_sem, seval]; rfl) (by simp only [go_sem, seval]) (fun h24 => ?_) (fun h24 => ?_)
 ·refine .seq (.rgn [] (by simp only [go_sem, seval]; rfl) ?_ ?_)
  ·(first | trivial | (simp; done) | (simp at h24; simp; omega) | (simp at h24 h36; refine ⟨⟨hp, by omega⟩, by omega⟩) | (have hb0 : (0 : Int) < b.length := (by cases b with | nil => simp at h24 | cons c b => simp); have q1 := Int.tmod_lt_of_pos p hb0; have q2 := Int.tmod_nonneg (b.length : Int) hp; have q3 := Int.tmod_lt_of_pos (p * 7 + 3) hb0; have q4 := Int.tmod_nonneg (b.length : Int) (show 0 ≤ p * 7 + 3 by omega); refine ⟨⟨⟨⟨by omega, q2, q1⟩, by omega⟩, q4, q3⟩, by omega⟩))
  refine .ret ⟨.inr rfl, ?_⟩
  exact Out.mem' (by simp only [Tryz.results54]; rfl) (by simp only [aw_, a3_, go_sem, seval]) (by simp only [a2_, rns, rn, go_sem, seval] <;> (have g : n < 1 ∨ b.length = 0 := (by simp at h24; simpa using h24); rw [bu_, if_pos g])) (by simp) rfl (by decide) (by simp only [go_sem, seval]) (by simp only [aq_, go_sem, seval]) (by simp only [ak_, go_sem, seval] <;> (simp))
 ·refine .skip (.seq (.rgn [] (by simp only [go_sem, seval, a8_ (show -9223372036854775808 ≤ p by omega) (by omega), Int.add_sub_cancel]; rfl) ?_ ?_))
  ·(first | trivial | (simp; done) | (simp at h24; simp; omega) | (simp at h24 h36; refine ⟨⟨hp, by omega⟩, by omega⟩) | (have hb0 : (0 : Int) < b.length := (by cases b with | nil => simp at h24 | cons c b => simp); have q1 := Int.tmod_lt_of_pos p hb0; have q2 := Int.tmod_nonneg (b.length : Int) hp; have q3 := Int.tmod_lt_of_pos (p * 7 + 3) hb0; have q4 := Int.tmod_nonneg (b.length : Int) (show 0 ≤ p * 7 + 3 by omega); refine ⟨⟨⟨⟨by omega, q2, q1⟩, by omega⟩, q4, q3⟩, by omega⟩))
  refine .seq (.seq (.rgn [] (by simp only [go_sem, seval]; rfl) ?_ ?_))
  ·(first | trivial | (simp; done) | (simp at h24; simp; omega) | (simp at h24 h36; refine ⟨⟨hp, by omega⟩, by omega⟩) | (have hb0 : (0 : Int) < b.length := (by cases b with | nil => simp at h24 | cons c b => simp); have q1 := Int.tmod_lt_of_pos p hb0; have q2 := Int.tmod_nonneg (b.length : Int) hp; have q3 := Int.tmod_lt_of_pos (p * 7 + 3) hb0; have q4 := Int.tmod_nonneg (b.length : Int) (show 0 ≤ p * 7 + 3 by omega); refine ⟨⟨⟨⟨by omega, q2, q1⟩, by omega⟩, q4, q3⟩, by omega⟩))
  refine .condB (by simp only [go_sem, seval]; rfl) (by simp only [go_sem, seval]) (fun h36 => ?_) (fun h36 => ?_)
  ·refine .seq (.rgn [] (by simp only [go_sem, seval, j0_ (show p.toNat < b.length by simp at h36; omega), ut_]; rfl) ?_ ?_)
   ·(first | trivial | (simp; done) | (simp at h24; simp; omega) | (simp at h24 h36; refine ⟨⟨hp, by omega⟩, by omega⟩) | (have hb0 : (0 : Int) < b.length := (by cases b with | nil => simp at h24 | cons c b => simp); have q1 := Int.tmod_lt_of_pos p hb0; have q2 := Int.tmod_nonneg (b.length : Int) hp; have q3 := Int.tmod_lt_of_pos (p * 7 + 3) hb0; have q4 := Int.tmod_nonneg (b.length : Int) (show 0 ≤ p * 7 + 3 by omega); refine ⟨⟨⟨⟨by omega, q2, q1⟩, by omega⟩, q4, q3⟩, by omega⟩))
   refine .ret ⟨.inr rfl, ?_⟩
   exact Out.mem' (by simp only [Tryz.results54]; rfl) (by simp only [aw_, a3_, go_sem, seval]) (by simp only [a2_, rns, rn, go_sem, seval] <;> (have g : ¬ (n < 1 ∨ b.length = 0) := (by simp at h24; simp; omega); rw [bu_, if_neg g, if_pos (by simpa using h36)])) (by simp) rfl (by decide) (by simp only [go_sem, seval]) (by simp only [aq_, go_sem, seval]) (by simp only [ak_, go_sem, seval] <;> (simp))
  ·refine .skip (.seq (.rgnD [] enM (by simp only [go_sem, seval, a8_ (show -9223372036854775808 ≤ p * 7 by omega) (by omega), a8_ (show -9223372036854775808 ≤ p * 7 + 3 by omega) (by omega), j0_ (ny_ (k := p) hp (show 0 < b.length by cases b <;> simp_all)), j0_ (ny_ (k := p * 7 + 3) (by omega) (show 0 < b.length by cases b <;> simp_all)), ut_]; rfl) (by rfl) ?_ ?_))
   ·(first | trivial | (simp; done) | (simp at h24; simp; omega) | (simp at h24 h36; refine ⟨⟨hp, by omega⟩, by omega⟩) | (have hb0 : (0 : Int) < b.length := (by cases b with | nil => simp at h24 | cons c b => simp); have q1 := Int.tmod_lt_of_pos p hb0; have q2 := Int.tmod_nonneg (b.length : Int) hp; have q3 := Int.tmod_lt_of_pos (p * 7 + 3) hb0; have q4 := Int.tmod_nonneg (b.length : Int) (show 0 ≤ p * 7 + 3 by omega); refine ⟨⟨⟨⟨by omega, q2, q1⟩, by omega⟩, q4, q3⟩, by omega⟩))
   refine .seq (.rgn [] (by simp only [go_sem, seval]; rfl) ?_ ?_)
   ·(first | trivial | (simp; done) | (simp at h24; simp; omega) | (simp at h24 h36; refine ⟨⟨hp, by omega⟩, by omega⟩) | (have hb0 : (0 : Int) < b.length := (by cases b with | nil => simp at h24 | cons c b => simp); have q1 := Int.tmod_lt_of_pos p hb0; have q2 := Int.tmod_nonneg (b.length : Int) hp; have q3 := Int.tmod_lt_of_pos (p * 7 + 3) hb0; have q4 := Int.tmod_nonneg (b.length : Int) (show 0 ≤ p * 7 + 3 by omega); refine ⟨⟨⟨⟨by omega, q2, q1⟩, by omega⟩, q4, q3⟩, by omega⟩))
   refine .seq (.rgn [] (by simp only [go_sem, seval]; rfl) ?_ ?_)
   ·(first | trivial | (simp; done) | (simp at h24; simp; omega) | (simp at h24 h36; refine ⟨⟨hp, by omega⟩, by omega⟩) | (have hb0 : (0 : Int) < b.length := (by cases b with | nil => simp at h24 | cons c b => simp); have q1 := Int.tmod_lt_of_pos p hb0; have q2 := Int.tmod_nonneg (b.length : Int) hp; have q3 := Int.tmod_lt_of_pos (p * 7 + 3) hb0; have q4 := Int.tmod_nonneg (b.length : Int) (show 0 ≤ p * 7 + 3 by omega); refine ⟨⟨⟨⟨by omega, q2, q1⟩, by omega⟩, q4, q3⟩, by omega⟩))
   refine .ret ⟨.inr rfl, ?_⟩
   exact Out.mem' (by simp only [Tryz.results54]; rfl) (by simp only [aw_, a3_, go_sem, seval]) (by simp only [a2_, rns, rn, go_sem, seval] <;> (have g : ¬ (n < 1 ∨ b.length = 0) := (by simp at h24; simp; omega); rw [bu_, if_neg g, if_neg (by simpa using h36)]; rfl)) (by simp) rfl (by decide) (by simp only [go_sem, seval]) (by simp only [aq_, go_sem, seval]) (by simp only [ak_, go_sem, seval] <;> (simp))
end
section
set_option maxRecDepth 100000
set_option maxHeartbeats 4000000
theorem s0_ (b : Str) {p : Int} (hp : 0 ≤ p) (hp2 : p < 1099511627776) : 0 ≤ ip_ b p ∧ ip_ b p < 4611686018427387904 := by
 have c1 := UInt8.toNat_lt (b.getD (p.tmod b.length).toNat 0)
 have c2 := UInt8.toNat_lt (b.getD ((p * 7 + 3).tmod b.length).toNat 0)
 have d1 : 0 ≤ p.tdiv b.length := Int.tdiv_nonneg hp (Int.natCast_nonneg _)
 have d2 : p.tdiv b.length ≤ p := by rw [Int.tdiv_eq_ediv_of_nonneg hp]; exact Int.ediv_le_self _ hp
 unfold ip_ wr
 generalize (b.getD (p.tmod b.length).toNat 0).toNat = x at *
 generalize (b.getD ((p * 7 + 3).tmod b.length).toNat 0).toNat = y at *
 generalize p.tdiv b.length = q at *
 rw [a8_ (n := (x : Int) * 131) (by omega) (by omega), a8_ (n := (y : Int) * 1117) (by omega) (by omega), a8_ (n := p * 29) (by omega) (by omega), a8_ (n := q) (by omega) (by omega),
  a8_ (n := q * 53) (by omega) (by omega), a8_ (n := (x : Int) * 131 + y * 1117) (by omega) (by omega), a8_ (n := (x : Int) * 131 + y * 1117 + p * 29) (by omega) (by omega), a8_ (by omega) (by omega)]
 omega
theorem si_ (b : Str) {p : Int} (hp : 0 ≤ p) (hp2 : p < 1099511627776) : 0 ≤ u4_ b p := by
 obtain ⟨h1, h2⟩ := s0_ b hp hp2
 have d1 : 0 ≤ (ip_ b p).tdiv 64 := Int.tdiv_nonneg h1 (by decide)
 have d2 : (ip_ b p).tdiv 64 ≤ ip_ b p := by rw [Int.tdiv_eq_ediv_of_nonneg h1]; exact Int.ediv_le_self _ h1
 unfold u4_
 generalize (ip_ b p).tdiv 64 = q at *
 generalize ip_ b p = m at *
 rw [a8_ (n := q) (by omega) (by omega)]
 have e1 : (BitVec.ofInt IntKind.i64.bits m).toNat < 2 ^ 62 := by
  rw [BitVec.toNat_ofInt]
  have : m % ((2 ^ IntKind.i64.bits : Nat) : Int) = m := Int.emod_eq_of_lt h1 (by show m < 18446744073709551616; omega)
  rw [this]; omega
 have e2 : (BitVec.ofInt IntKind.i64.bits q).toNat < 2 ^ 62 := by
  rw [BitVec.toNat_ofInt]
  have : q % ((2 ^ IntKind.i64.bits : Nat) : Int) = q := Int.emod_eq_of_lt d1 (by show q < 18446744073709551616; omega)
  rw [this]; omega
 have e3 := Nat.xor_lt_two_pow e1 e2
 rw [← BitVec.toNat_xor] at e3
 rw [a8_ (by omega) (by omega)]
 omega
theorem dr_ (b : Str) {p n : Int} (hp : 0 ≤ p) (hp2 : p < 1099511627776) (hn : 1 ≤ n) : 0 ≤ bu_ b p n ∧ bu_ b p n < n := by
 unfold bu_
 split
 ·omega
 ·split
  ·exact ⟨Int.tmod_nonneg _ (by omega), Int.tmod_lt_of_pos _ (by omega)⟩
  ·exact ⟨Int.tmod_nonneg _ (si_ b hp hp2), Int.tmod_lt_of_pos _ (by omega)⟩
def inR (l : List Int) : List (List V) := l.map fun n => [.i .i64 n]
theorem ah_ (l : List Int) : (inR l).length = l.length := by simp [inR]
theorem g8_ {l : List Int} {k : Nat} (h : k < l.length) : (inR l).getD k [] = [.i .i64 (l.getD k 0)] := by
 simp [inR, T8_, T6_ h]
theorem aa_ : ∀ l : List Int, br_ (inR l) = true
 | [] => rfl
 | n :: l => by simp only [inR, List.map_cons, br_, b3_, V.pure, Bool.true_and]; exact aa_ l
theorem an_ : inR [] = [] := rfl
theorem aj_ (n : Int) (l : List Int) : inR (n :: l) = [.i .i64 n] :: inR l := rfl
theorem af_ : bn_ [] = [] := rfl
theorem ac_ (s : Str) (l : List Str) : bn_ (s :: l) = [.s s] :: bn_ l := rfl
def k8_ (b : Str) (p : Int) (l : List Int) : Int := l.getD (bu_ b p l.length).toNat 0
def ofI (b : Str) (p : Int) (l : List Str) : Str := l.getD (bu_ b p l.length).toNat []
theorem jj_ (b : Str) (p : Int) (l : List Int) (hl : 0 < l.length) (hb : b.length ≤ 2000) (hp : 0 ≤ p) (hp2 : p < 1099511627776) :
  ACall En 106 [.pt 0 2 0 0, .sl false (inR l)] [⟨107, 2, [[.sl false (byR b), .i .i64 p]]⟩] [.i .i64 (k8_ b p l)] [⟨107, 2, [[.sl false (byR b), .i .i64 (p + 1)]]⟩] := by
 have hr := dr_ b hp hp2 (show 1 ≤ (l.length : Int) by omega)
 refine ap_ (fn := Tryz.f106) [0] Tryz.func106 rfl rfl (by simp) fun C => ?_
 rw [ay_]
 simp only [Tryz.ntmps106, T7_, List.length_nil, Nat.reduceAdd, Nat.reduceSub, List.replicate_succ, List.replicate_zero, List.cons_append, List.nil_append, bl_]
 refine .seq (.rgn [] (by simp only [go_sem, seval]; rfl) ?_ ?_)
 ·first | trivial | simp
 refine .seq (.rgn [bi_ [0] [] (cv_ b p l.length hb hp hp2)] (by simp only [go_sem, seval, ak_, aq_, ah_, aa_, g8_ (show (bu_ b p l.length).toNat < l.length by omega)]; rfl) ?_ ?_)
 ·simp; omega
 refine .ret ⟨.inr rfl, ?_⟩
 exact Out.mem' (by simp only [Tryz.results106]; rfl) (by simp only [aw_, a3_, go_sem, seval]) (by simp only [a2_, rns, rn, go_sem, seval] <;> (rfl)) (by simp) rfl (by decide) (by simp only [go_sem, seval]) (by simp only [aq_, go_sem, seval]) (by simp only [ak_, go_sem, seval] <;> (simp))
theorem lj_ (b : Str) (p : Int) (l : List Str) (hl : 0 < l.length) (hb : b.length ≤ 2000) (hp : 0 ≤ p) (hp2 : p < 1099511627776) :
  ACall En 64 [.pt 0 2 0 0, .sl false (bn_ l)] [⟨107, 2, [[.sl false (byR b), .i .i64 p]]⟩] [.s (ofI b p l)] [⟨107, 2, [[.sl false (byR b), .i .i64 (p + 1)]]⟩] := by
 have hr := dr_ b hp hp2 (show 1 ≤ (l.length : Int) by omega)
 refine ap_ (fn := Tryz.f64) [0] Tryz.func64 rfl rfl (by simp) fun C => ?_
 rw [ay_]
 simp only [Tryz.ntmps64, T7_, List.length_nil, Nat.reduceAdd, Nat.reduceSub, List.replicate_succ, List.replicate_zero, List.cons_append, List.nil_append, bl_]
 refine .seq (.rgn [] (by simp only [go_sem, seval]; rfl) ?_ ?_)
 ·first | trivial | simp
 refine .seq (.rgn [bi_ [0] [] (cv_ b p l.length hb hp hp2)] (by simp only [go_sem, seval, ak_, aq_, am_, fi_ (show (bu_ b p l.length).toNat < l.length by omega)]; rfl) ?_ ?_)
 ·simp; omega
 refine .ret ⟨.inr rfl, ?_⟩
 exact Out.mem' (by simp only [Tryz.results64]; rfl) (by simp only [aw_, a3_, go_sem, seval]) (by simp only [a2_, rns, rn, go_sem, seval] <;> (rfl)) (by simp) rfl (by decide) (by simp only [go_sem, seval]) (by simp only [aq_, go_sem, seval]) (by simp only [ak_, go_sem, seval] <;> (simp))
end
section
set_option maxRecDepth 100000
set_option maxHeartbeats 4000000
theorem sj_ : ACall En 202 [.sl false []] [] [.ow 0 4 0 0] [⟨33, 4, []⟩] := by
 refine ap_ (fn := Tryz.f202) [17] Tryz.func202 rfl rfl (by simp) fun C => ?_
 rw [ay_]
 simp only [Tryz.ntmps202, T7_, List.length_nil, Nat.reduceAdd, Nat.reduceSub, List.replicate_succ, List.replicate_zero, List.cons_append, List.nil_append, bl_]
 refine .seq (.rgn [] (by simp only [go_sem, seval]; rfl) ?_ ?_)
 ·first | trivial | simp
 refine .seq (.seq (.rgnS [4] [u3_ En] (by simp only [go_sem, seval]; rfl) ?_ ?_))
 ·first | trivial | simp
 refine .condQ (by simp only [go_sem, seval] <;> rfl) (by simp only [go_sem, seval]) ?_ ?_
 ·refine .seq (.rgn [] (by simp only [go_sem, seval]; rfl) ?_ ?_)
  ·first | trivial | simp
  refine .can (Can.ownSlot 2 17 33 4 (by simp only [go_sem, seval] <;> rfl) (by simp only [go_sem, seval]) (by simp only [go_sem, seval] <;> rfl)) ?_
  refine .ret ⟨.inr rfl, ?_⟩
  exact Out.mem' (by simp only [Tryz.results202]; rfl) (by simp only [aw_, a3_, go_sem, seval]) (by simp only [a2_, rns, rn, go_sem, seval] <;> (simp)) (by simp) rfl (by decide) (by simp only [go_sem, seval]) (by simp only [aq_, go_sem, seval]) (by simp only [ak_, go_sem, seval] <;> (simp))
 ·refine .skip (.seq (.rgn [] (by simp only [go_sem, seval]; rfl) ?_ ?_))
  ·first | trivial | simp
  refine .ret ⟨.inr rfl, ?_⟩
  exact Out.mem' (by simp only [Tryz.results202]; rfl) (by simp only [aw_, a3_, go_sem, seval]) (by simp only [a2_, rns, rn, go_sem, seval] <;> (simp)) (by simp) rfl (by decide) (by simp only [go_sem, seval]) (by simp only [aq_, go_sem, seval]) (by simp only [ak_, go_sem, seval] <;> (simp))
theorem p9_ (e : E) (r : List E) (hl : r.length < 1099511627776) : ACall En 202 [.sl false (eR (e :: r))] [] [.ow 0 4 0 (r.length + 1)] [⟨33, 4, eR (e :: r)⟩] := by
 refine ap_ (fn := Tryz.f202) [17] Tryz.func202 rfl rfl (by simp) fun C => ?_
 rw [ay_]
 simp only [Tryz.ntmps202, T7_, List.length_nil, Nat.reduceAdd, Nat.reduceSub, List.replicate_succ, List.replicate_zero, List.cons_append, List.nil_append, bl_]
 refine .seq (.rgn [] (by simp only [go_sem, seval, eR]; rfl) ?_ ?_)
 ·first | trivial | simp
 refine .seq (.seq (.rgnS [4] [u3_ En] (by simp only [go_sem, seval, eR]; rfl) ?_ ?_))
 ·first | trivial | simp
 refine .condB (by simp only [go_sem, seval]; rfl) (by simp only [go_sem, seval]) (fun h4 => ?_) (fun h4 => ?_)
 ·exact absurd h4 (by simp)
 ·refine .skip (.seq (.rgn [] (by simp only [go_sem, seval, eR]; rfl) ?_ ?_))
  ·have := fe_ r; simp [f6_, cy_]; omega
  refine .ret ⟨.inr rfl, ?_⟩
  exact Out.mem' (by simp only [Tryz.results202]; rfl) (by simp only [aw_, a3_, go_sem, seval]) (by simp only [a2_, rns, rn, go_sem, seval] <;> (simp)) (by simp) rfl (by decide) (by simp only [go_sem, seval]) (by simp only [aq_, go_sem, seval]) (by simp only [ak_, go_sem, seval] <;> (simp [eR, bv_, dy_, cy_]))
theorem sw_ (l : List E) (hl : l.length < 1099511627776) : ACall En 202 [.sl false (eR l)] [] [.ow 0 4 0 l.length] [⟨33, 4, eR l⟩] := by
 cases l with
 | nil => simp only [eR]; exact sj_
 | cons e r => exact p9_ e r (by simp at hl; omega)
theorem vb_ (l : List E) (hl : l.length < 1099511627776) : ACall En 201 [.ow 0 4 0 l.length] [⟨33, 4, eR l⟩] [.ow 0 4 0 l.length] [⟨33, 4, eR l⟩] := by
 refine ap_ (fn := Tryz.f201) [0] Tryz.func201 rfl rfl (by simp) fun C => ?_
 rw [ay_]
 simp only [Tryz.ntmps201, T7_, List.length_nil, Nat.reduceAdd, Nat.reduceSub, List.replicate_succ, List.replicate_zero, List.cons_append, List.nil_append, bl_]
 refine .seq (.rgn [] (by simp only [go_sem, seval]; rfl) ?_ ?_)
 ·first | trivial | simp
 refine .seq (.rgn [] (by simp only [go_sem, seval]; rfl) ?_ ?_)
 ·first | trivial | simp
 refine .ret ⟨.inr rfl, ?_⟩
 exact Out.mem' (by simp only [Tryz.results201]; rfl) (by simp only [aw_, a3_, go_sem, seval]) (by simp only [a2_, rns, rn, go_sem, seval] <;> (simp)) (by simp) rfl (by decide) (by simp only [go_sem, seval]) (by simp only [aq_, go_sem, seval]) (by simp only [ak_, go_sem, seval] <;> (simp))
theorem sv_ (l : List E) (hl : l.length < 1099511627776) : ACall En 172 [.sl false (eR l)] [] [.ow 0 4 0 l.length] [⟨33, 4, eR l⟩] := by
 refine ap_ (fn := Tryz.f172) [14] Tryz.func172 rfl rfl (by simp) fun C => ?_
 rw [ay_]
 simp only [Tryz.ntmps172, T7_, List.length_nil, Nat.reduceAdd, Nat.reduceSub, List.replicate_succ, List.replicate_zero, List.cons_append, List.nil_append, bl_]
 refine .seq (.rgn [] (by simp only [go_sem, seval]; rfl) ?_ ?_)
 ·first | trivial | simp
 refine .seq (.rgn [bi_ [] [14] (sw_ l hl), bi_ [14] [] (vb_ l hl)] (by simp only [go_sem, seval]; rfl) ?_ ?_)
 ·first | trivial | simp
 refine .ret ⟨.inr rfl, ?_⟩
 exact Out.mem' (by simp only [Tryz.results172]; rfl) (by simp only [aw_, a3_, go_sem, seval]) (by simp only [a2_, rns, rn, go_sem, seval] <;> (simp)) (by simp) rfl (by decide) (by simp only [go_sem, seval]) (by simp only [aq_, go_sem, seval]) (by simp only [ak_, go_sem, seval] <;> (simp))
end
section
set_option maxRecDepth 100000
set_option maxHeartbeats 4000000
def gj_ (l : List E) (k : Nat) : List (List V) := eR (cb_ (l.take k) ++ l.drop k)
theorem l5_ (l : List E) (k : Nat) (h : k ≤ l.length) : (gj_ l k).length = l.length := by simp [gj_, fe_, cr_]; omega
theorem bc_ (l : List E) (k : Nat) : br_ (gj_ l k) = true := dy_ _
theorem pi_ (l : List E) : gj_ l 0 = eR l := by simp [gj_, cb_]
theorem r4_ (l : List E) (k : Nat) (h : l.length ≤ k) : gj_ l k = eR (cb_ l) := by simp [gj_, T1_ h, List.drop_of_length_le h]
theorem ql_ {l : List E} {k : Nat} (h : k < l.length) {r : List V} (hr : r = eC (bare (l.getD k E0))) : (gj_ l k).set k r = gj_ l (k + 1) := by
 subst hr
 unfold gj_
 rw [hj_ h, jt_, jt_, jt_, List.set_append_right _ _ (by rw [fe_, cr_, List.length_take]; omega), fe_, cr_, List.length_take, Nat.min_eq_left (Nat.le_of_lt h), Nat.sub_self, List.drop_eq_getElem_cons h]
 simp only [eR, List.set_cons_zero, List.append_assoc, List.cons_append, List.nil_append]
theorem tb_ : ∀ {l : List E} (r : List V), r ∈ eR l → r.length = 4 := fun {l} r hr => by
 rw [f6_] at hr; obtain ⟨e, _, rfl⟩ := List.mem_map.1 hr; rw [cy_]; rfl
theorem be_ (l : List E) (k j : Nat) : ((gj_ l k).getD j []).drop 4 = [] := by
 rw [T8_]
 cases h : (gj_ l k)[j]? with
 | none => rfl
 | some r => have := tb_ r (List.mem_of_getElem? h); simp only [Option.getD_some]; exact List.drop_of_length_le (by omega)
mutual
theorem hb_ : ∀ e : E, sm e = true → sm (bare e) = true
 | .mk k n s kids, h => by
  simp only [sm, T5_] at h
  simp only [bare]
  by_cases hk : k = 4
  ·rw [if_pos hk]
   cases kids with
   | nil => simp only [l8_, sm, T5_]; exact ⟨⟨h.1.1, by simp⟩, rfl⟩
   | cons a r => simp only [l8_]; simp only [sms, T5_] at h; exact hb_ a h.2.1
  ·rw [if_neg hk]
   simp only [sm, T5_]
   exact ⟨⟨h.1.1, by rw [cr_]; exact h.1.2⟩, i7_ kids h.2⟩
theorem i7_ : ∀ l : List E, sms l = true → sms (cb_ l) = true
 | [], _ => by simp only [cb_, sms]
 | e :: r, h => by
  simp only [sms, T5_] at h
  simp only [cb_, sms, hb_ e h.1, i7_ r h.2, Bool.and_self]
end
theorem ty_ (e : E) : wf e = true → sm e = true → ACall En 125 [.ag (eC e)] [] [.ag (eC (bare e))] [] := by
 induction e using E.ind' with
 | h e ih =>
 intro hw hs
 obtain ⟨a1, a2, a3⟩ := cl_ hs
 obtain ⟨w1, w2⟩ := oe_ hw
 have a4 := jx_ hs
 refine ap_ (fn := Tryz.f125) [] Tryz.func125 rfl rfl (by simp) fun C => ?_
 rw [ay_]
 simp only [Tryz.ntmps125, T7_, List.length_nil, Nat.reduceAdd, Nat.reduceSub, List.replicate_succ, List.replicate_zero, List.cons_append, List.nil_append, bl_]
 refine .seq (.rgn [] (by simp only [go_sem, seval, bc_, be_]; rfl) ?_ ?_)
 ·first | trivial | simp
 refine .seq (.seq (.rgn [] (by simp only [go_sem, seval, bc_, be_]; rfl) ?_ ?_))
 ·first | trivial | simp
 refine .condB (by simp only [go_sem, seval, bc_, be_]; rfl) (by simp only [go_sem, seval, bc_, be_]) (fun h8 => ?_) (fun h8 => ?_)
 ·refine .seq (.rgn [a4_ (ih (e.kids.getD 0 E0) (ba_ (w1 (by simpa using h8))) (fl_ w2 _ (ba_ (w1 (by simpa using h8)))) (b1_ a3 _ (ba_ (w1 (by simpa using h8)))))] (by simp only [go_sem, seval, bc_, be_, b4_ (w1 (by simpa using h8))]; rfl) ?_ ?_)
  ·have := w1 (by simpa using h8); simp; omega
  refine .ret ⟨.inr rfl, ?_⟩
  exact Out.plain (by simp only [Tryz.results125]; rfl) (by simp only [aw_, a3_, go_sem, seval, bc_, be_] <;> (split <;> rfl)) (by simp only [a2_, go_sem, seval, bc_, be_] <;> (rw [ix_ (e := e) (by simpa using h8) (w1 (by simpa using h8))])) (by simp only [go_sem, seval, bc_, be_])
 ·refine .skip (.seq (.rgnD [bi_ [] [32] (sv_ e.kids a4)] enM (by simp only [go_sem, seval, bc_, be_]; rfl) (by rfl) ?_ ?_))
  ·first | trivial | simp
  refine .seq (.seq (.rgn [] (by simp only [go_sem, seval, bc_, be_]; rfl) ?_ ?_))
  ·first | trivial | simp
  refine .block (.loopK (fun k : Nat => ⟨[.no, .pt 11 4 0 0, .pt 12 4 0 0, .pt 13 4 0 0, .no, .no, .no, .no, .no, .no, .no, .no, .no, .no, .no, .no, .no, .no, .no, .no, .no, .no, .no, .no, .no, .sl false (eR e.kids), .i .i64 e.kids.length, .i .i64 k, .no, .no, .no, .no, .no, .no, .no, .no, .no, .no, .no, .no], a1_ [(11, ⟨33, 4, [eC e]⟩), (12, ⟨33, 4, [[.i .i64 0, .i .i64 0, .s [], .sl true []]]⟩), (13, ⟨33, 4, [[.i .i64 e.kind, .i .i64 e.n, .s e.s, .ow 32 4 0 e.kids.length]]⟩), (32, ⟨33, 4, gj_ e.kids k⟩)], us [11, 12, 13, 32]⟩) (fun k : Nat => k ≤ e.kids.length) (fun k : Nat => e.kids.length - k) (0) ?_ ?_ (fun k hI => ?_))
  ·simp
  ·exact Can.weak (Weak.lit (by simp only [go_sem, seval, bc_, be_, au_, leV, as_, at_, V.inn, us, T9_, Ta_] <;> (simp)) (by simp only [go_sem, seval, bc_, be_, au_, leV, as_, at_, V.inn, us, T9_, Ta_]) (by simp only [go_sem, seval, bc_, be_, au_, leV, as_, at_, V.inn, us, T9_, Ta_] <;> (simp [pi_, ez_, dy_])))
  refine .seq (.rgn [] (by simp only [go_sem, seval, bc_, be_]; rfl) ?_ ?_)
  ·first | trivial | simp
  refine .seq (.condB (by simp only [go_sem, seval, bc_, be_]; rfl) (by simp only [go_sem, seval, bc_, be_]) (fun h28 => ?_) (fun h28 => ?_))
  ·refine .skip (.seq (.block (.seq (.rgn [] (by simp only [go_sem, seval, bc_, be_, b4_ (show k < e.kids.length by simpa using h28)]; rfl) ?_ ?_))))
   ·simp at h28; simp; omega
   refine .rgnD [a4_ (ih (e.kids.getD k E0) (ba_ (by simpa using h28)) (fl_ w2 _ (ba_ (by simpa using h28))) (b1_ a3 _ (ba_ (by simpa using h28))))] enM (by simp only [go_sem, seval, bc_, be_, ql_ (show k < e.kids.length by simpa using h28) (cy_ _).symm, l5_ e.kids k hI, bc_]; rfl) (by rfl) ?_ ?_
   ·simp at h28; simp [l5_ e.kids k hI]; omega
   refine .rgn [] (by simp only [go_sem, seval, bc_, be_]; rfl) ?_ ?_
   ·first | trivial | simp
   refine Exists.intro (k + 1) ⟨?_, ?_, ?_⟩
   ·simp at h28; omega
   ·simp at h28; omega
   exact Can.weak (Weak.lit (by simp only [go_sem, seval, bc_, be_, au_, leV, as_, at_, V.inn, us, T9_, Ta_] <;> (rw [a8_ (by simp at h28; omega) (by simp at h28; omega)]; simp)) (by simp only [go_sem, seval, bc_, be_, au_, leV, as_, at_, V.inn, us, T9_, Ta_]) (by simp only [go_sem, seval, bc_, be_, au_, leV, as_, at_, V.inn, us, T9_, Ta_]))
  ·refine .exit (.seq (.rgn [] (by simp only [go_sem, seval, bc_, be_]; rfl) ?_ ?_))
   ·first | trivial | simp
   refine .frz 32 (by simp only [go_sem, seval, bc_, be_]; rfl) (by simp only [go_sem, seval, bc_, be_]) (by simp only [go_sem, seval, bc_, be_]; rfl) (by simp only [go_sem, seval, bc_, be_]; rfl) ?_
   refine .ret ⟨.inr rfl, ?_⟩
   exact Out.plain (by simp only [Tryz.results125]; rfl) (by simp only [aw_, a3_, go_sem, seval, bc_, be_] <;> (split <;> rfl)) (by simp only [a2_, go_sem, seval, bc_, be_] <;> (simp at h28; rw [jg_ (e := e) (by simpa using h8), r4_ _ _ h28]; simp [cy_, cr_, fe_, E.kind, E.n, E.s, E.kids, T1_])) (by simp only [go_sem, seval, bc_, be_])
theorem g7_ (e : E) (hs : sm e = true) : ACall En 74 [.ag (eC e)] [] [.b (pe e)] [] := by
 refine ap_ (fn := Tryz.f74) [] Tryz.func74 rfl rfl (by simp) fun C => ?_
 rw [ay_]
 simp only [Tryz.ntmps74, T7_, List.length_nil, Nat.reduceAdd, Nat.reduceSub, List.replicate_succ, List.replicate_zero, List.cons_append, List.nil_append, bl_]
 refine .seq (.rgn [] (by simp only [go_sem, seval]; rfl) ?_ ?_)
 ·first | trivial | simp
 refine .seq (.rgnD [a4_ (o7_ e hs), eu_ (eok e = true) (fun h => ty_ e (h1_ h) hs), a4_ (gp_ (bare e) e (hb_ e hs) hs)] enM (by simp only [go_sem, seval]; rfl) (by rfl) ?_ ?_)
 ·simp
 refine .ret ⟨.inr rfl, ?_⟩
 exact Out.plain (by simp only [Tryz.results74]; rfl) (by simp only [aw_, a3_, go_sem, seval] <;> (split <;> rfl)) (by simp only [a2_, go_sem, seval] <;> (rw [← q3_])) (by simp only [go_sem, seval])
end
section
set_option maxRecDepth 100000
set_option maxHeartbeats 1000000
def wdR (l : Wd) : List (List V) := l.map fun p => [.s p.1, .i .i64 p.2]
theorem ar_ (l : Wd) : (wdR l).length = l.length := by simp [wdR]
theorem g2_ (a b : Wd) : wdR (a ++ b) = wdR a ++ wdR b := by simp [wdR]
theorem ao_ : ∀ l : Wd, br_ (wdR l) = true
 | [] => rfl
 | p :: l => by simp only [wdR, List.map_cons, br_, b3_, V.pure, Bool.true_and]; exact ao_ l
theorem sr_ (l : Wd) : ∀ r ∈ wdR l, r.length = 2 := fun r hr => by
 obtain ⟨p, _, rfl⟩ := List.mem_map.1 hr; rfl
theorem ul_ {l : Wd} {k : Nat} (h : k < l.length) : (wdR l).getD k [] = [.s (l.getD k ([], 0)).1, .i .i64 (l.getD k ([], 0)).2] := by
 simp [wdR, T8_, T6_ h]
theorem bj_ (l : Wd) : (∀ r, r ∈ wdR l → r.length = 2) = True := eq_true (sr_ l)
theorem nd_ {e : E} {d : Nat} (h : form e d = true) (hm : many e d ≤ 1000) (must nx : Int) : (src e must nx).length ≤ 3000 := by
 rw [← List.length_map (f := (·.1)), ee_]
 have := cq_ d e must h; omega
theorem hc_ (e : E) (must nx : Int) : (src e must nx).length = (wds e must).length := by
 rw [← ee_ e must nx, List.length_map]
theorem dq_ {n : Int} (h : 0 ≤ n) : Lib.itoa n = Lib.decDigits n.toNat := by unfold Lib.itoa; rw [if_neg (by omega)]
theorem tv_ {e : E} {d : Int} (h : form e d = true) (must nx : Int) : src e must nx = brk (decide (e.kind = 3) && decide (bk_ e.s < must)) (src e 0 nx) := by
 rcases (bd_ h).2 with ⟨k1, _⟩ | ⟨k1, _⟩ | ⟨k1, h1, h2, h3, h4, h5⟩ | ⟨k1, h1, h2, h3, h4⟩
 ·rw [show (decide (e.kind = 3)) = false by simp [k1]]; cases e; simp only [E.kind] at k1; subst k1; simp [src, brk]
 ·rw [show (decide (e.kind = 3)) = false by simp [k1]]; cases e; simp only [E.kind] at k1; subst k1; simp [src, brk]
 ·have := eh_ h2
  rw [hd_ k1 h3, hd_ k1 h3, show decide (bk_ e.s < 0) = false by simp; omega]
  simp [k1, brk]
 ·rw [ka_ k1 h3, ka_ k1 h3]; simp [k1, brk]
def mx2 (t : Int) : Int := if t > 2 then t else 2
theorem rv_ (t : Int) : mx2 t = max 2 t := by unfold mx2; split <;> omega
theorem ok_ (d : Nat) : ∀ (e : E) (must nx : Int), form e d = true → sm e = true → many e d ≤ 1000 → 0 ≤ nx → nx + cnt e ≤ 1000000 → must ≤ 1000 → 
  ACall En 159 [.ag (eC e), .i .i64 must, .pt 0 1 0 0] [⟨3, 1, [[.i .i64 nx]]⟩] [.ow 1 2 0 (src e must nx).length] [⟨3, 1, [[.i .i64 (nx + cnt e)]]⟩, ⟨146, 2, wdR (src e must nx)⟩] := by
 induction d with
 | zero => intro e must nx h; have := (bd_ h).1; omega
 | succ d ih =>
 intro e must nx h hs hm hx hx2 hmu
 obtain ⟨a1, a2, a3⟩ := cl_ hs
 have e1 : ((d + 1 : Nat) : Int) - 1 = (d : Int) := by omega
 have hd1 : (1 : Int) ≤ ((d + 1 : Nat) : Int) := by omega
 have hc := (cq_ (d + 1) e must h).2.2.2
 have g12 : (e.kind = 1 ∨ e.kind = 2) → cnt e = 1 ∧ src e must nx = [(if e.kind = 1 then Lib.decDigits e.n.toNat else e.s, nx)] ∧ (e.kind = 1 → 0 ≤ e.n ∧ e.n ≤ 1000000) := fun hk => by
  rcases (bd_ h).2 with ⟨k1, h1, h2, h3, h4⟩ | ⟨k1, h1, h2, h3⟩ | ⟨k1, _⟩ | ⟨k1, _⟩ <;> try omega
  ·cases e; simp only [E.kind, E.kids] at k1 h4; subst k1 h4; simp [cnt, ki_, src, E.n, E.kind] at *; omega
  ·cases e; simp only [E.kind, E.kids] at k1 h3; subst k1 h3; simp [cnt, ki_, src, E.s, E.kind]
 have g3 : e.kind = 3 → e.kids.length = 2 ∧ 1 ≤ bk_ e.s ∧ bk_ e.s ≤ 3 ∧ form (e.kids.getD 0 E0) d = true ∧ form (e.kids.getD 1 E0) d = true ∧ many (e.kids.getD 0 E0) d ≤ 1000 ∧ many (e.kids.getD 1 E0) d ≤ 1000 ∧ 0 ≤ cnt (e.kids.getD 0 E0) ∧ cnt (e.kids.getD 0 E0) ≤ 1000 ∧ nx + cnt e = nx + 1 + cnt (e.kids.getD 0 E0) + cnt (e.kids.getD 1 E0) ∧ 0 ≤ cnt (e.kids.getD 1 E0) := fun hk => by
  rcases (bd_ h).2 with ⟨k1, _⟩ | ⟨k1, _⟩ | ⟨k1, h1, h2, h3, h4, h5⟩ | ⟨k1, _⟩ <;> try omega
  rw [e1] at h4 h5
  have := eh_ h2
  have hm2 := ib_ hd1 h3
  rw [e1] at hm2
  have q1 := cq_ d _ 0 h4
  have q2 := cq_ d _ 0 h5
  exact ⟨h3, this.1, this.2, h4, h5, by omega, by omega, by omega, by omega, by rw [op_ k1 h3]; omega, by omega⟩
 have g4 : e.kind = 4 → e.kids.length = 1 ∧ form (e.kids.getD 0 E0) d = true ∧ many (e.kids.getD 0 E0) d ≤ 1000 ∧ cnt e = cnt (e.kids.getD 0 E0) := fun hk => by
  rcases (bd_ h).2 with ⟨k1, _⟩ | ⟨k1, _⟩ | ⟨k1, _⟩ | ⟨k1, h1, h2, h3, h4⟩ <;> try omega
  rw [e1] at h4
  have hm2 := h9_ hd1 h3
  rw [e1] at hm2
  have q1 := cq_ d _ 0 h4
  exact ⟨h3, h4, by omega, rs_ k1 h3⟩
 have g0 : e.kind = 1 ∨ e.kind = 2 ∨ e.kind = 3 ∨ e.kind = 4 := by
  rcases (bd_ h).2 with ⟨k1, _⟩ | ⟨k1, _⟩ | ⟨k1, _⟩ | ⟨k1, _⟩ <;> omega
 have hT : e.kind = 3 → src e must nx = brk (decide (bk_ e.s < must)) (src (e.kids.getD 0 E0) (mx2 (bk_ e.s)) (nx + 1) ++ (e.s, nx) :: src (e.kids.getD 1 E0) (bk_ e.s + 1) (nx + 1 + cnt (e.kids.getD 0 E0))) ∧ nx + cnt e = nx + 1 + cnt (e.kids.getD 0 E0) + cnt (e.kids.getD 1 E0) := fun hk => ⟨by rw [rv_]; exact hd_ hk (g3 hk).1 _ _, (g3 hk).2.2.2.2.2.2.2.2.2.1⟩
 have hA : e.kind = 4 → src e must nx = src (e.kids.getD 0 E0) 4 nx ++ [([97, 115], -1), (e.s, -1)] ∧ cnt e = cnt (e.kids.getD 0 E0) := fun hk => ⟨ka_ hk (g4 hk).1 _ _, (g4 hk).2.2.2⟩
 have hL : ∀ k, k < e.kids.length → ∀ m n, (src (e.kids.getD k E0) m n).length ≤ 3000 := fun k hk m n => by
  rcases g0 with hk4 | hk4 | hk4 | hk4
  ·rcases (bd_ h).2 with ⟨k1, h1, h2, h3, h4⟩ | ⟨k1, _⟩ | ⟨k1, _⟩ | ⟨k1, _⟩ <;> try omega
   rw [h4] at hk; simp at hk
  ·rcases (bd_ h).2 with ⟨k1, _⟩ | ⟨k1, h1, h2, h3⟩ | ⟨k1, _⟩ | ⟨k1, _⟩ <;> try omega
   rw [h3] at hk; simp at hk
  ·have := g3 hk4
   have hk2 : k = 0 ∨ k = 1 := by omega
   rcases hk2 with rfl | rfl
   ·exact nd_ this.2.2.2.1 this.2.2.2.2.2.1 _ _
   ·exact nd_ this.2.2.2.2.1 this.2.2.2.2.2.2.1 _ _
  ·have := g4 hk4
   have hk2 : k = 0 := by omega
   subst hk2
   exact nd_ this.2.1 this.2.2.1 _ _
 refine ap_ (fn := Tryz.f159) [0, 150] Tryz.func159 rfl rfl (by simp) fun C => ?_
 rw [ay_]
 simp only [Tryz.ntmps159, T7_, List.length_nil, Nat.reduceAdd, Nat.reduceSub, List.replicate_succ, List.replicate_zero, List.cons_append, List.nil_append, bl_]
 refine .seq (.rgn [] (by simp only [go_sem, seval, ar_, ao_, T2_, T1_]; rfl) ?_ ?_)
 ·(first | trivial | (simp; done) | (simp [b5_, List.forall_mem_append, bj_]; done))
 refine .seq (.rgn [] (by simp only [go_sem, seval, ar_, ao_, T2_, T1_]; rfl) ?_ ?_)
 ·(first | trivial | (simp; done) | (simp [b5_, List.forall_mem_append, bj_]; done))
 refine .seqJ (fun u : Unit => ⟨[.no, .no, .no, .no, .no, .no, .no, .ow 150 2 0 (src e must nx).length, .no, .no, .no, .no, .no, .no, .no, .no, .no, .no, .no, .no, .no, .no, .no, .no, .no, .no, .no, .no, .no, .no, .no, .no, .no, .no, .no, .no, .no, .no, .no, .no, .no, .no, .no, .no, .no, .no, .no, .no, .no, .no, .no, .no, .no, .no, .no, .no, .no, .no, .no, .no, .no, .no, .no, .no, .no, .no, .no, .no, .no, .no, .no, .no, .no, .no, .no, .no, .no, .no, .no, .no, .no, .no, .no, .no, .no, .no, .no, .no, .no, .no, .no, .no, .no, .no, .no, .no, .no], a1_ [(0, ⟨3, 1, [[.i .i64 (nx + cnt e)]]⟩), (150, ⟨146, 2, wdR (src e must nx)⟩)], us [150]⟩) (fun u : Unit => True) ?_ (fun u hJ => ?_)
 ·refine .seq (.rgn [] (by simp only [go_sem, seval, ar_, ao_, T2_, T1_]; rfl) ?_ ?_)
  ·(first | trivial | (simp; done) | (simp [b5_, List.forall_mem_append, bj_]; done))
  refine .block (.seqJ (fun q : Bool => ⟨[.no, .i .i64 must, .pt 0 1 0 0, .pt 13 4 0 0, .no, .no, .no, .no, .no, .no, .no, .no, .i .i64 e.kind, .b q, .no, .no, .no, .no, .no, .no, .no, .no, .no, .no, .no, .no, .no, .no, .no, .no, .no, .no, .no, .no, .no, .no, .no, .no, .no, .no, .no, .no, .no, .no, .no, .no, .no, .no, .no, .no, .no, .no, .no, .no, .no, .no, .no, .no, .no, .no, .no, .no, .no, .no, .no, .no, .no, .no, .no, .no, .no, .no, .no, .no, .no, .no, .no, .no, .no, .no, .no, .no, .no, .no, .no, .no, .no, .no, .no, .no, .no, .no, .no, .no, .no, .no, .no], a1_ [(0, ⟨3, 1, [[.i .i64 nx]]⟩), (13, ⟨33, 4, [eC e]⟩)], us [13]⟩) (fun q : Bool => q = (e.kind == 1 || e.kind == 2)) ?_ (fun q hJ => ?_))
  ·refine .seq (.rgn [] (by simp only [go_sem, seval, ar_, ao_, T2_, T1_]; rfl) ?_ ?_)
   ·(first | trivial | (simp; done) | (simp [b5_, List.forall_mem_append, bj_]; done))
   refine .condB (by simp only [go_sem, seval, ar_, ao_, T2_, T1_]; rfl) (by simp only [go_sem, seval, ar_, ao_, T2_, T1_]) (fun h13 => ?_) (fun h13 => ?_)
   ·refine .skip ?_
    refine Exists.intro ((e.kind == 1 || e.kind == 2)) ⟨?_, ?_⟩
    ·rfl
    exact Can.weak (Weak.lit (by simp only [go_sem, seval, ar_, ao_, T2_, T1_, au_, leV, as_, at_, V.inn, us, T9_, Ta_] <;> (simp_all)) (by simp only [go_sem, seval, ar_, ao_, T2_, T1_, au_, leV, as_, at_, V.inn, us, T9_, Ta_]) (by simp only [go_sem, seval, ar_, ao_, T2_, T1_, au_, leV, as_, at_, V.inn, us, T9_, Ta_]))
   ·refine .rgn [] (by simp only [go_sem, seval, ar_, ao_, T2_, T1_]; rfl) ?_ ?_
    ·(first | trivial | (simp; done) | (simp [b5_, List.forall_mem_append, bj_]; done))
    refine Exists.intro ((e.kind == 1 || e.kind == 2)) ⟨?_, ?_⟩
    ·rfl
    exact Can.weak (Weak.lit (by simp only [go_sem, seval, ar_, ao_, T2_, T1_, au_, leV, as_, at_, V.inn, us, T9_, Ta_] <;> (simp_all)) (by simp only [go_sem, seval, ar_, ao_, T2_, T1_, au_, leV, as_, at_, V.inn, us, T9_, Ta_]) (by simp only [go_sem, seval, ar_, ao_, T2_, T1_, au_, leV, as_, at_, V.inn, us, T9_, Ta_]))
  refine .condB (by simp only [go_sem, seval, ar_, ao_, T2_, T1_]; rfl) (by simp only [go_sem, seval, ar_, ao_, T2_, T1_]) (fun h13 => ?_) (fun h13 => ?_)
  ·refine .seq (.rgn [] (by simp only [go_sem, seval, ar_, ao_, T2_, T1_]; rfl) ?_ ?_)
   ·(first | trivial | (simp; done) | (simp [b5_, List.forall_mem_append, bj_]; done))
   refine .seqJ (fun s : Str => ⟨[.no, .no, .pt 0 1 0 0, .pt 13 4 0 0, .no, .no, .no, .no, .s s, .no, .no, .no, .no, .no, .no, .no, .no, .no, .no, .no, .no, .no, .no, .no, .no, .no, .no, .no, .no, .no, .no, .no, .no, .no, .no, .no, .no, .no, .no, .no, .no, .no, .no, .no, .no, .no, .no, .no, .no, .no, .no, .no, .no, .no, .no, .no, .no, .no, .no, .no, .no, .no, .no, .no, .no, .no, .no, .no, .no, .no, .no, .no, .no, .no, .no, .no, .no, .no, .no, .no, .no, .no, .no, .no, .no, .no, .no, .no, .no, .no, .no, .no, .no, .no, .no, .no, .no], a1_ [(0, ⟨3, 1, [[.i .i64 nx]]⟩), (13, ⟨33, 4, [eC e]⟩)], us [13]⟩) (fun s : Str => s = if e.kind = 1 then Lib.decDigits e.n.toNat else e.s) ?_ (fun s hJ => ?_)
   ·refine .seq (.rgn [] (by simp only [go_sem, seval, ar_, ao_, T2_, T1_]; rfl) ?_ ?_)
    ·(first | trivial | (simp; done) | (simp [b5_, List.forall_mem_append, bj_]; done))
    refine .condB (by simp only [go_sem, seval, ar_, ao_, T2_, T1_]; rfl) (by simp only [go_sem, seval, ar_, ao_, T2_, T1_]) (fun h20 => ?_) (fun h20 => ?_)
    ·refine .rgn [a4_ (vw_ e.n (by have := (g12 (.inl (by simpa using h20))).2.2 (by simpa using h20); omega) (by have := (g12 (.inl (by simpa using h20))).2.2 (by simpa using h20); omega))] (by simp only [go_sem, seval, ar_, ao_, T2_, T1_]; rfl) ?_ ?_
     ·(first | trivial | (simp; done) | (simp [b5_, List.forall_mem_append, bj_]; done))
     refine Exists.intro (Lib.itoa e.n) ⟨?_, ?_⟩
     ·simp_all [dq_]
     exact Can.weak (Weak.lit (by simp only [go_sem, seval, ar_, ao_, T2_, T1_, au_, leV, as_, at_, V.inn, us, T9_, Ta_] <;> (simp_all)) (by simp only [go_sem, seval, ar_, ao_, T2_, T1_, au_, leV, as_, at_, V.inn, us, T9_, Ta_]) (by simp only [go_sem, seval, ar_, ao_, T2_, T1_, au_, leV, as_, at_, V.inn, us, T9_, Ta_]))
    ·refine .skip ?_
     refine Exists.intro (e.s) ⟨?_, ?_⟩
     ·simp_all [dq_]
     exact Can.weak (Weak.lit (by simp only [go_sem, seval, ar_, ao_, T2_, T1_, au_, leV, as_, at_, V.inn, us, T9_, Ta_] <;> (simp_all)) (by simp only [go_sem, seval, ar_, ao_, T2_, T1_, au_, leV, as_, at_, V.inn, us, T9_, Ta_]) (by simp only [go_sem, seval, ar_, ao_, T2_, T1_, au_, leV, as_, at_, V.inn, us, T9_, Ta_]))
   refine .seq (.rgnS [29] [bsO En] (by simp only [go_sem, seval, ar_, ao_, T2_, T1_]; rfl) ?_ ?_)
   ·(first | trivial | (simp; done) | (simp [b5_, List.forall_mem_append, bj_]; done))
   refine .rgn [] (by simp only [go_sem, seval, ar_, ao_, T2_, T1_, a8_ (show -9223372036854775808 ≤ nx + 1 by omega) (by omega)]; rfl) ?_ ?_
   ·(first | trivial | (simp; done) | (simp [b5_, List.forall_mem_append, bj_]; done))
   refine Exists.intro (()) ⟨?_, ?_⟩
   ·trivial
   refine Can.trans (Can.swap 39 150 (by decide) (by decide) (by decide) (by decide) (by simp only [go_sem, seval, ar_, ao_, T2_, T1_, V.cl]) (by simp only [go_sem, seval, ar_, ao_, T2_, T1_, V.cl]) (by simp only [go_sem, seval, ar_, ao_, T2_, T1_, a5_, sw, swM, rnB] <;> rfl) (by simp only [go_sem, seval, ar_, ao_, T2_, T1_, a5_, sw, swM, rnB] <;> rfl) (by simp only [go_sem, seval, ar_, ao_, T2_, T1_, a5_, sw, swM, rnB] <;> rfl)) ?_
   exact Can.weak (Weak.lit (by simp only [go_sem, seval, ar_, ao_, T2_, T1_, au_, leV, as_, at_, V.inn, us, T9_, Ta_] <;> (first | (rw [(hT (by simpa using h35)).1, h74]; simp [brk]; (first | done | omega)) | (rw [(hA (by simpa using h82)).1]; simp) | (rw [(g12 (by simp_all)).2.1]; rfl))) (by simp only [go_sem, seval, ar_, ao_, T2_, T1_, au_, leV, as_, at_, V.inn, us, T9_, Ta_]) (by simp only [go_sem, seval, ar_, ao_, T2_, T1_, au_, leV, as_, at_, V.inn, us, T9_, Ta_] <;> (first | (rw [(hT (by simpa using h35)).1, (hT (by simpa using h35)).2, h74]; simp [brk, wdR, bv_, g2_]) | (rw [(hA (by simpa using h82)).1, (hA (by simpa using h82)).2]; simp [wdR]) | (rw [(g12 (by simp_all)).2.1, (g12 (by simp_all)).1, hJ]; simp [wdR]))))
  ·refine .seq (.rgn [] (by simp only [go_sem, seval, ar_, ao_, T2_, T1_]; rfl) ?_ ?_)
   ·(first | trivial | (simp; done) | (simp [b5_, List.forall_mem_append, bj_]; done))
   refine .condB (by simp only [go_sem, seval, ar_, ao_, T2_, T1_]; rfl) (by simp only [go_sem, seval, ar_, ao_, T2_, T1_]) (fun h35 => ?_) (fun h35 => ?_)
   ·refine .seq (.rgnD [a4_ (gq_ e.s)] enM (by simp only [go_sem, seval, ar_, ao_, T2_, T1_]; rfl) (by rfl) ?_ ?_)
    ·(first | trivial | (simp; done) | (simp [b5_, List.forall_mem_append, bj_]; done))
    refine .seq (.rgn [] (by simp only [go_sem, seval, ar_, ao_, T2_, T1_, a8_ (show -9223372036854775808 ≤ nx + 1 by omega) (by omega)]; rfl) ?_ ?_)
    ·(first | trivial | (simp; done) | (simp [b5_, List.forall_mem_append, bj_]; done))
    refine .seq (.rgnD [bi_ [0] [65] (ih (e.kids.getD 0 E0) (mx2 (bk_ e.s)) (nx + 1) (g3 (by simpa using h35)).2.2.2.1 (b1_ a3 _ (ba_ (by have := g3 (by simpa using h35); omega))) (g3 (by simpa using h35)).2.2.2.2.2.1 (by omega) (by have := g3 (by simpa using h35); omega) (by have := g3 (by simpa using h35); rw [rv_]; omega))] enM (by simp only [go_sem, seval, ar_, ao_, T2_, T1_, b4_ (show 0 < e.kids.length by have := g3 (by simpa using h35); omega), ak_, aq_]; rfl) (by rfl) ?_ ?_)
    ·have q := g3 (by simpa using h35); have q1 := hL 0 (by omega) (mx2 (bk_ e.s)) (nx + 1); have q2 : 0 < e.kids.length := (by omega); simp only [mx2, gt_iff_lt] at q1 ⊢; simp [-List.getD_eq_getElem?_getD, b5_, q2]; omega
    refine .seq (.rgn [bi_ [0] [80] (ih (e.kids.getD 1 E0) (bk_ e.s + 1) (nx + 1 + cnt (e.kids.getD 0 E0)) (g3 (by simpa using h35)).2.2.2.2.1 (b1_ a3 _ (ba_ (by have := g3 (by simpa using h35); omega))) (g3 (by simpa using h35)).2.2.2.2.2.2.1 (by have := g3 (by simpa using h35); omega) (by have := g3 (by simpa using h35); omega) (by have := g3 (by simpa using h35); omega))] (by simp only [go_sem, seval, ar_, ao_, T2_, T1_, b4_ (show 1 < e.kids.length by have := g3 (by simpa using h35); omega), ak_, aq_, a8_ (show -9223372036854775808 ≤ bk_ e.s + 1 by have := g3 (by simpa using h35); omega) (by have := g3 (by simpa using h35); omega)]; rfl) ?_ ?_)
    ·have q := g3 (by simpa using h35); have q1 := hL 0 (by omega) (mx2 (bk_ e.s)) (nx + 1); have q2 : 1 < e.kids.length := (by omega); have q3 := hL 1 (by omega) (bk_ e.s + 1) (nx + 1 + cnt (e.kids.getD 0 E0)); simp [-List.getD_eq_getElem?_getD, b5_, q2, bj_]; omega
    refine .seq (.rgn [] (by simp only [go_sem, seval, ar_, ao_, T2_, T1_]; rfl) ?_ ?_)
    ·(first | trivial | (simp; done) | (simp [b5_, List.forall_mem_append, bj_]; done))
    refine .condB (by simp only [go_sem, seval, ar_, ao_, T2_, T1_]; rfl) (by simp only [go_sem, seval, ar_, ao_, T2_, T1_]) (fun h74 => ?_) (fun h74 => ?_)
    ·refine .rgn [] (by simp only [go_sem, seval, ar_, ao_, T2_, T1_]; rfl) ?_ ?_
     ·have q := g3 (by simpa using h35); have q1 := hL 0 (by omega) (mx2 (bk_ e.s)) (nx + 1); have q3 := hL 1 (by omega) (bk_ e.s + 1) (nx + 1 + cnt (e.kids.getD 0 E0)); simp [-List.getD_eq_getElem?_getD, b5_, bj_, or_imp, forall_and]; (first | omega)
     refine Exists.intro (()) ⟨?_, ?_⟩
     ·trivial
     refine Can.trans (Can.swap 91 150 (by decide) (by decide) (by decide) (by decide) (by simp only [go_sem, seval, ar_, ao_, T2_, T1_, V.cl]) (by simp only [go_sem, seval, ar_, ao_, T2_, T1_, V.cl]) (by simp only [go_sem, seval, ar_, ao_, T2_, T1_, a5_, sw, swM, rnB] <;> rfl) (by simp only [go_sem, seval, ar_, ao_, T2_, T1_, a5_, sw, swM, rnB] <;> rfl) (by simp only [go_sem, seval, ar_, ao_, T2_, T1_, a5_, sw, swM, rnB] <;> rfl)) ?_
     exact Can.weak (Weak.lit (by simp only [go_sem, seval, ar_, ao_, T2_, T1_, au_, leV, as_, at_, V.inn, us, T9_, Ta_] <;> (first | (rw [(hT (by simpa using h35)).1, h74]; simp [brk]; (first | done | omega)) | (rw [(hA (by simpa using h82)).1]; simp) | (rw [(g12 (by simp_all)).2.1]; rfl))) (by simp only [go_sem, seval, ar_, ao_, T2_, T1_, au_, leV, as_, at_, V.inn, us, T9_, Ta_]) (by simp only [go_sem, seval, ar_, ao_, T2_, T1_, au_, leV, as_, at_, V.inn, us, T9_, Ta_] <;> (first | (rw [(hT (by simpa using h35)).1, (hT (by simpa using h35)).2, h74]; simp [brk, wdR, bv_, g2_]) | (rw [(hA (by simpa using h82)).1, (hA (by simpa using h82)).2]; simp [wdR]) | (rw [(g12 (by simp_all)).2.1, (g12 (by simp_all)).1, hJ]; simp [wdR]))))
    ·refine .skip ?_
     refine Exists.intro (()) ⟨?_, ?_⟩
     ·trivial
     refine Can.trans (Can.swap 81 150 (by decide) (by decide) (by decide) (by decide) (by simp only [go_sem, seval, ar_, ao_, T2_, T1_, V.cl]) (by simp only [go_sem, seval, ar_, ao_, T2_, T1_, V.cl]) (by simp only [go_sem, seval, ar_, ao_, T2_, T1_, a5_, sw, swM, rnB] <;> rfl) (by simp only [go_sem, seval, ar_, ao_, T2_, T1_, a5_, sw, swM, rnB] <;> rfl) (by simp only [go_sem, seval, ar_, ao_, T2_, T1_, a5_, sw, swM, rnB] <;> rfl)) ?_
     exact Can.weak (Weak.lit (by simp only [go_sem, seval, ar_, ao_, T2_, T1_, au_, leV, as_, at_, V.inn, us, T9_, Ta_] <;> (first | (rw [(hT (by simpa using h35)).1, h74]; simp [brk]; (first | done | omega)) | (rw [(hA (by simpa using h82)).1]; simp) | (rw [(g12 (by simp_all)).2.1]; rfl))) (by simp only [go_sem, seval, ar_, ao_, T2_, T1_, au_, leV, as_, at_, V.inn, us, T9_, Ta_]) (by simp only [go_sem, seval, ar_, ao_, T2_, T1_, au_, leV, as_, at_, V.inn, us, T9_, Ta_] <;> (first | (rw [(hT (by simpa using h35)).1, (hT (by simpa using h35)).2, h74]; simp [brk, wdR, bv_, g2_]) | (rw [(hA (by simpa using h82)).1, (hA (by simpa using h82)).2]; simp [wdR]) | (rw [(g12 (by simp_all)).2.1, (g12 (by simp_all)).1, hJ]; simp [wdR]))))
   ·refine .seq (.rgn [] (by simp only [go_sem, seval, ar_, ao_, T2_, T1_]; rfl) ?_ ?_)
    ·(first | trivial | (simp; done) | (simp [b5_, List.forall_mem_append, bj_]; done))
    refine .condB (by simp only [go_sem, seval, ar_, ao_, T2_, T1_]; rfl) (by simp only [go_sem, seval, ar_, ao_, T2_, T1_]) (fun h82 => ?_) (fun h82 => ?_)
    ·refine .rgnD [bi_ [0] [99] (ih (e.kids.getD 0 E0) 4 nx (g4 (by simpa using h82)).2.1 (b1_ a3 _ (ba_ (by have := g4 (by simpa using h82); omega))) (g4 (by simpa using h82)).2.2.1 hx (by have := g4 (by simpa using h82); omega) (by decide))] enM (by simp only [go_sem, seval, ar_, ao_, T2_, T1_, b4_ (show 0 < e.kids.length by have := g4 (by simpa using h82); omega), ak_, aq_]; rfl) (by rfl) ?_ ?_
     ·have q := g4 (by simpa using h82); have q1 := hL 0 (by omega) 4 nx; have q2 : 0 < e.kids.length := (by omega); simp [-List.getD_eq_getElem?_getD, b5_, q2]; omega
     refine Exists.intro (()) ⟨?_, ?_⟩
     ·trivial
     refine Can.trans (Can.swap 105 150 (by decide) (by decide) (by decide) (by decide) (by simp only [go_sem, seval, ar_, ao_, T2_, T1_, V.cl]) (by simp only [go_sem, seval, ar_, ao_, T2_, T1_, V.cl]) (by simp only [go_sem, seval, ar_, ao_, T2_, T1_, a5_, sw, swM, rnB] <;> rfl) (by simp only [go_sem, seval, ar_, ao_, T2_, T1_, a5_, sw, swM, rnB] <;> rfl) (by simp only [go_sem, seval, ar_, ao_, T2_, T1_, a5_, sw, swM, rnB] <;> rfl)) ?_
     exact Can.weak (Weak.lit (by simp only [go_sem, seval, ar_, ao_, T2_, T1_, au_, leV, as_, at_, V.inn, us, T9_, Ta_] <;> (first | (rw [(hT (by simpa using h35)).1, h74]; simp [brk]; (first | done | omega)) | (rw [(hA (by simpa using h82)).1]; simp) | (rw [(g12 (by simp_all)).2.1]; rfl))) (by simp only [go_sem, seval, ar_, ao_, T2_, T1_, au_, leV, as_, at_, V.inn, us, T9_, Ta_]) (by simp only [go_sem, seval, ar_, ao_, T2_, T1_, au_, leV, as_, at_, V.inn, us, T9_, Ta_] <;> (first | (rw [(hT (by simpa using h35)).1, (hT (by simpa using h35)).2, h74]; simp [brk, wdR, bv_, g2_]) | (rw [(hA (by simpa using h82)).1, (hA (by simpa using h82)).2]; simp [wdR]) | (rw [(g12 (by simp_all)).2.1, (g12 (by simp_all)).1, hJ]; simp [wdR]))))
    ·simp_all
 refine .seq (.rgn [] (by simp only [go_sem, seval, ar_, ao_, T2_, T1_]; rfl) ?_ ?_)
 ·(first | trivial | (simp; done) | (simp [b5_, List.forall_mem_append, bj_]; done))
 refine .ret ⟨.inr rfl, ?_⟩
 exact Out.mem' (by simp only [Tryz.results159]; rfl) (by simp only [aw_, a3_, go_sem, seval, ar_, ao_, T2_, T1_]) (by simp only [a2_, rns, rn, go_sem, seval, ar_, ao_, T2_, T1_] <;> (simp_all)) (by simp) rfl (by decide) (by simp only [go_sem, seval, ar_, ao_, T2_, T1_]) (by simp only [aq_, go_sem, seval, ar_, ao_, T2_, T1_]) (by simp only [ak_, go_sem, seval, ar_, ao_, T2_, T1_] <;> (simp))
end
end Go.Proofs.YtpikbndepapbhabGreatDoor
