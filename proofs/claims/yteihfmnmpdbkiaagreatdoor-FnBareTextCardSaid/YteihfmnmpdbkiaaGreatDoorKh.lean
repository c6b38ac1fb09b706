/- Parts of the proof, one after another: Without types. | Nothing, plain. | The reader of codes. | What is picked lies in its range; one of a list. | Copies, without types, plain. | Without types, plain: the program's. | The program's words. Conditions: none. -/
import Derived.Test.YteihfmnmpdbkiaaGreatDoorKe
import Derived.Test.YteihfmnmpdbkiaaGreatDoorKc
import Derived.Test.YteihfmnmpdbkiaaGreatDoorKg
import Derived.Test.YteihfmnmpdbkiaaGreatDoorKf
set_option linter.unusedVariables false
set_option linter.unusedSimpArgs false
namespace Go.Proofs.YteihfmnmpdbkiaaGreatDoor
section
set_option maxRecDepth 100000
set_option maxHeartbeats 4000000

theorem eR_app (a b : List E) : eR (a ++ b) = eR a ++ eR b := by simp [eR_map]
theorem eR_snoc {l : List E} {k : Nat} (h : k < l.length) : eR (bares (l.take k)) ++ [[.i .i64 (bare (l.getD k E0)).kind, .i .i64 (bare (l.getD k E0)).n, .s (bare (l.getD k E0)).s, .sl false (eR (bare (l.getD k E0)).kids)]] = eR (bares (l.take (k + 1))) := by
  rw [bares_snoc h, eR_app, ← eC_eq]; simp only [eR]
theorem l4Bare_a (e : E) : wf e = true → sm e = true → ACall En 179 [.ag (eC e)] [] [.ag (eC (bare e))] [] := by
  induction e using E.ind' with
  | h e ih =>
  intro hw hs
  obtain ⟨a1, a2, a3⟩ := sm_open hs
  obtain ⟨w1, w2⟩ := wf_open hw
  refine acall_of_body (fn := Tryz.f179) [] Tryz.func179 rfl rfl (by simp) fun C => ?_
  rw [entry_eq]
  simp only [Tryz.ntmps179, List.length_cons, List.length_nil, Nat.reduceAdd, Nat.reduceSub, List.replicate_succ, List.replicate_zero, List.cons_append, List.nil_append, numL]
  refine AWp.seq ?_
  refine AWp.rgn [] (by simp only [go_sem, seval]; rfl) ?_ ?_
  · first | trivial | simp
  refine AWp.seq ?_
  refine AWp.seq ?_
  refine AWp.rgn [] (by simp only [go_sem, seval]; rfl) ?_ ?_
  · first | trivial | simp
  refine AWp.condB (by simp only [go_sem, seval]; rfl) (by simp only [go_sem, seval]) (fun h7 => ?_) (fun h7 => ?_)
  · refine AWp.seq ?_
    refine AWp.rgn [call0 (ih (e.kids.getD 0 E0) (getD_mem (w1 (by simpa using h7))) (wfs_mem w2 _ (getD_mem (w1 (by simpa using h7)))) (sms_mem a3 _ (getD_mem (w1 (by simpa using h7)))))] (by simp only [go_sem, seval, eR_get (w1 (by simpa using h7))]; rfl) ?_ ?_
    · have := w1 (by simpa using h7); simp; omega
    refine AWp.ret (And.intro (.inr rfl) ?_)
    exact Out.plain (by simp only [Tryz.results179]; rfl) (by simp only [resCs, resC, go_sem, seval] <;> (split <;> rfl)) (by simp only [resV, go_sem, seval] <;> (rw [bare_four (e := e) (by simpa using h7) (w1 (by simpa using h7))])) (by simp only [go_sem, seval])
  · refine AWp.skip ?_
    refine AWp.seq ?_
    refine AWp.rgn [] (by simp only [go_sem, seval]; rfl) ?_ ?_
    · first | trivial | simp
    refine AWp.seq ?_
    refine AWp.seq ?_
    refine AWp.rgn [] (by simp only [go_sem, seval]; rfl) ?_ ?_
    · first | trivial | simp
    refine AWp.block ?_
    refine AWp.loopK (fun k : Nat => ⟨[.no, .pt 11 4 0 0, .pt 12 4 0 0, .pt 13 4 0 0, .i .i64 k, .no, .no, .no, .no, .no, .no, .no, .no, .no, .no, .no, .no, .no, .no, .no, .no, .no, .no, .no, .no, .no, .no, .no, .no, .no, .no, .no, .no, .no, .no, .no, .no, .no, .no], memOf [(11, ⟨30, 4, [eC e]⟩), (12, ⟨30, 4, [[.i .i64 0, .i .i64 0, .s [], .sl true []]]⟩), (13, ⟨30, 4, [[.i .i64 e.kind, .i .i64 e.n, .s e.s, .ow 60 4 0 k]]⟩), (60, ⟨30, 4, eR (bares (e.kids.take k))⟩)], us [11, 12, 13, 60]⟩) (fun k : Nat => k ≤ e.kids.length) (fun k : Nat => e.kids.length - k) (0) ?_ ?_ (fun k hI => ?_)
    · simp
    · refine Can.trans (Can.ownCell 13 3 60 30 4 (by simp only [go_sem, seval] <;> rfl) (by simp only [go_sem, seval] <;> rfl) (by simp only [go_sem, seval] <;> rfl) (by simp only [go_sem, seval] <;> rfl) (by simp only [go_sem, seval] <;> rfl)) ?_
      exact Can.weak (Weak.lit (by simp only [go_sem, seval, subM, leV, inns, innr, V.inn, us, true_or, or_true] <;> (simp)) (by simp only [go_sem, seval, subM, leV, inns, innr, V.inn, us, true_or, or_true]) (by simp only [go_sem, seval, subM, leV, inns, innr, V.inn, us, true_or, or_true] <;> (simp [bares, eR])))
    refine AWp.seq ?_
    refine AWp.seq ?_
    refine AWp.rgn [] (by simp only [go_sem, seval]; rfl) ?_ ?_
    · first | trivial | simp
    refine AWp.condB (by simp only [go_sem, seval]; rfl) (by simp only [go_sem, seval]) (fun h24 => ?_) (fun h24 => ?_)
    · refine AWp.skip ?_
      refine AWp.seq ?_
      refine AWp.block ?_
      refine AWp.rgnD [call0 (ih (e.kids.getD k E0) (getD_mem (by simpa using h24)) (wfs_mem w2 _ (getD_mem (by simpa using h24))) (sms_mem a3 _ (getD_mem (by simpa using h24))))] enM (by simp only [go_sem, seval, eR_snoc (show k < e.kids.length by simpa using h24), eR_get (show k < e.kids.length by simpa using h24)]; rfl) (by rfl) ?_ ?_
      · simp at h24; have a4 := sm_kids hs; simp [bares_len]; omega
      refine AWp.rgn [] (by simp only [go_sem, seval]; rfl) ?_ ?_
      · first | trivial | simp
      refine Exists.intro (k + 1) ⟨?_, ?_, ?_⟩
      · simp at h24; omega
      · simp at h24; omega
      refine Can.trans (Can.swap 46 60 (by decide) (by decide) (by decide) (by decide) (by simp only [go_sem, seval, V.cl]) (by simp only [go_sem, seval, V.cl]) (by simp only [go_sem, seval, swL_get, sw, swM, rnB] <;> rfl) (by simp only [go_sem, seval, swL_get, sw, swM, rnB] <;> rfl) (by simp only [go_sem, seval, swL_get, sw, swM, rnB] <;> rfl)) ?_
      exact Can.weak (Weak.lit (by simp only [go_sem, seval, subM, leV, inns, innr, V.inn, us, true_or, or_true] <;> (rw [wrap64 (by simp at h24; omega) (by simp at h24; omega)]; simp)) (by simp only [go_sem, seval, subM, leV, inns, innr, V.inn, us, true_or, or_true]) (by simp only [go_sem, seval, subM, leV, inns, innr, V.inn, us, true_or, or_true]))
    · refine AWp.exit ?_
      refine AWp.seq ?_
      refine AWp.rgn [] (by simp only [go_sem, seval]; rfl) ?_ ?_
      · first | trivial | simp
      refine AWp.frz 60 (by simp only [go_sem, seval]; rfl) (by simp only [go_sem, seval]) (by simp only [go_sem, seval]; rfl) (by simp only [go_sem, seval]; rfl) ?_
      refine AWp.ret (And.intro (.inr rfl) ?_)
      exact Out.plain (by simp only [Tryz.results179]; rfl) (by simp only [resCs, resC, go_sem, seval] <;> (split <;> rfl)) (by simp only [resV, go_sem, seval] <;> (simp at h24; have hk : k = e.kids.length := (by omega); subst hk; rw [bare_else (e := e) (by simpa using h7)]; simp [bares_len, eR_len, E.kind, E.n, E.s, E.kids, List.take_of_length_le])) (by simp only [go_sem, seval])
end

section
set_option maxRecDepth 100000
set_option maxHeartbeats 4000000

theorem l5None_a (e : E) (hs : sm e = true) : ACall En 81 [.ag (eC e)] [] [.b (none0 e)] [] := by
  refine acall_of_body (fn := Tryz.f81) [] Tryz.func81 rfl rfl (by simp) fun C => ?_
  rw [entry_eq]
  simp only [Tryz.ntmps81, List.length_cons, List.length_nil, Nat.reduceAdd, Nat.reduceSub, List.replicate_succ, List.replicate_zero, List.cons_append, List.nil_append, numL]
  refine AWp.seq ?_
  refine AWp.rgn [] (by simp only [go_sem, seval]; rfl) ?_ ?_
  · first | trivial | simp
  refine AWp.seq ?_
  refine AWp.rgn [call0 (sExprSame_a e E0 hs rfl)] (by simp only [go_sem, seval, E0, E.kind, E.n, E.s, E.kids, eR]; rfl) ?_ ?_
  · first | trivial | simp
  refine AWp.ret (And.intro (.inr rfl) ?_)
  exact Out.plain (by simp only [Tryz.results81]; rfl) (by simp only [resCs, resC, go_sem, seval] <;> (split <;> rfl)) (by simp only [resV, go_sem, seval] <;> (rfl)) (by simp only [go_sem, seval])
theorem nothing_a (e : E) (hs : sm e = true) : ACall En 100 [.ag (eC e)] [] [.b (none0 e)] [] := by
  refine acall_of_body (fn := Tryz.f100) [] Tryz.func100 rfl rfl (by simp) fun C => ?_
  rw [entry_eq]
  simp only [Tryz.ntmps100, List.length_cons, List.length_nil, Nat.reduceAdd, Nat.reduceSub, List.replicate_succ, List.replicate_zero, List.cons_append, List.nil_append, numL]
  refine AWp.seq ?_
  refine AWp.rgn [] (by simp only [go_sem, seval]; rfl) ?_ ?_
  · first | trivial | simp
  refine AWp.seq ?_
  refine AWp.rgn [call0 (iExprSame_a e E0 hs rfl)] (by simp only [go_sem, seval, E0, E.kind, E.n, E.s, E.kids, eR]; rfl) ?_ ?_
  · first | trivial | simp
  refine AWp.ret (And.intro (.inr rfl) ?_)
  exact Out.plain (by simp only [Tryz.results100]; rfl) (by simp only [resCs, resC, go_sem, seval] <;> (split <;> rfl)) (by simp only [resV, go_sem, seval] <;> (rfl)) (by simp only [go_sem, seval])
theorem plas_step {l : List E} {k : Nat} (h : k < l.length) : plas (l.drop k) = (pla (l.getD k E0) && plas (l.drop (k + 1))) := by
  rw [List.drop_eq_getElem_cons h, getD_at h]; simp only [plas]
theorem plas_end {l : List E} {k : Nat} (h : l.length ≤ k) : plas (l.drop k) = true := by
  rw [List.drop_of_length_le h]; simp only [plas]
theorem l7Plain_a (e : E) : sm e = true → ACall En 169 [.ag (eC e)] [] [.b (pla e)] [] := by
  induction e using E.ind' with
  | h e ih =>
  intro hs
  obtain ⟨a1, a2, a3⟩ := sm_open hs
  refine acall_of_body (fn := Tryz.f169) [] Tryz.func169 rfl rfl (by simp) fun C => ?_
  rw [entry_eq]
  simp only [Tryz.ntmps169, List.length_cons, List.length_nil, Nat.reduceAdd, Nat.reduceSub, List.replicate_succ, List.replicate_zero, List.cons_append, List.nil_append, numL]
  refine AWp.seq ?_
  refine AWp.rgn [] (by simp only [go_sem, seval]; rfl) ?_ ?_
  · first | trivial | simp
  refine AWp.seq ?_
  refine AWp.seq ?_
  refine AWp.rgn [] (by simp only [go_sem, seval]; rfl) ?_ ?_
  · first | trivial | simp
  refine AWp.condB (by simp only [go_sem, seval]; rfl) (by simp only [go_sem, seval]) (fun h6 => ?_) (fun h6 => ?_)
  · refine AWp.seq ?_
    refine AWp.rgn [] (by simp only [go_sem, seval]; rfl) ?_ ?_
    · first | trivial | simp
    refine AWp.ret (And.intro (.inr rfl) ?_)
    exact Out.plain (by simp only [Tryz.results169]; rfl) (by simp only [resCs, resC, go_sem, seval] <;> (split <;> rfl)) (by simp only [resV, go_sem, seval] <;> (rw [pla_eq]; simp_all)) (by simp only [go_sem, seval])
  · refine AWp.skip ?_
    refine AWp.seq ?_
    refine AWp.seq ?_
    refine AWp.rgn [] (by simp only [go_sem, seval]; rfl) ?_ ?_
    · first | trivial | simp
    refine AWp.block ?_
    refine AWp.loopK (fun k : Nat => ⟨[.no, .pt 11 4 0 0, .b false, .i .i64 k, .no, .no, .no, .no, .no, .no, .no, .no, .no, .no, .no, .no, .no, .no, .no, .no, .no], memOf [(11, ⟨30, 4, [eC e]⟩)], us [11]⟩) (fun k : Nat => k ≤ e.kids.length ∧ plas e.kids = plas (e.kids.drop k)) (fun k : Nat => e.kids.length - k) (0) ?_ ?_ (fun k hI => ?_)
    · simp
    · exact Can.weak (Weak.lit (by simp only [go_sem, seval, subM, leV, inns, innr, V.inn, us, true_or, or_true] <;> (simp)) (by simp only [go_sem, seval, subM, leV, inns, innr, V.inn, us, true_or, or_true]) (by simp only [go_sem, seval, subM, leV, inns, innr, V.inn, us, true_or, or_true]))
    refine AWp.seq ?_
    refine AWp.seq ?_
    refine AWp.rgn [] (by simp only [go_sem, seval]; rfl) ?_ ?_
    · first | trivial | simp
    refine AWp.condB (by simp only [go_sem, seval]; rfl) (by simp only [go_sem, seval]) (fun h11 => ?_) (fun h11 => ?_)
    · refine AWp.skip ?_
      refine AWp.seq ?_
      refine AWp.block ?_
      refine AWp.seq ?_
      refine AWp.rgn [call0 (ih (e.kids.getD k E0) (getD_mem (by simpa using h11)) (sms_mem a3 _ (getD_mem (by simpa using h11))))] (by simp only [go_sem, seval, eR_get (show k < e.kids.length by simpa using h11)]; rfl) ?_ ?_
      · simp at h11; simp; omega
      refine AWp.condB (by simp only [go_sem, seval]; rfl) (by simp only [go_sem, seval]) (fun h20 => ?_) (fun h20 => ?_)
      · refine AWp.seq ?_
        refine AWp.rgn [] (by simp only [go_sem, seval]; rfl) ?_ ?_
        · first | trivial | simp
        refine AWp.ret (And.intro (.inr rfl) ?_)
        exact Out.plain (by simp only [Tryz.results169]; rfl) (by simp only [resCs, resC, go_sem, seval] <;> (split <;> rfl)) (by simp only [resV, go_sem, seval] <;> (simp at h11; rw [pla_eq, hI.2, plas_step h11]; simp_all)) (by simp only [go_sem, seval])
      · refine AWp.skip ?_
        refine AWp.rgn [] (by simp only [go_sem, seval]; rfl) ?_ ?_
        · first | trivial | simp
        refine Exists.intro (k + 1) ⟨?_, ?_, ?_⟩
        · simp at h11; refine ⟨by omega, ?_⟩; rw [hI.2, plas_step h11]; simp_all
        · simp at h11; omega
        exact Can.weak (Weak.lit (by simp only [go_sem, seval, subM, leV, inns, innr, V.inn, us, true_or, or_true] <;> (rw [wrap64 (by simp at h11; omega) (by simp at h11; omega)]; simp)) (by simp only [go_sem, seval, subM, leV, inns, innr, V.inn, us, true_or, or_true]) (by simp only [go_sem, seval, subM, leV, inns, innr, V.inn, us, true_or, or_true]))
    · refine AWp.exit ?_
      refine AWp.seq ?_
      refine AWp.rgn [] (by simp only [go_sem, seval]; rfl) ?_ ?_
      · first | trivial | simp
      refine AWp.ret (And.intro (.inr rfl) ?_)
      exact Out.plain (by simp only [Tryz.results169]; rfl) (by simp only [resCs, resC, go_sem, seval] <;> (split <;> rfl)) (by simp only [resV, go_sem, seval] <;> (simp at h11; rw [pla_eq, hI.2, plas_end h11]; simp_all)) (by simp only [go_sem, seval])
end

section
set_option maxRecDepth 100000
set_option maxHeartbeats 4000000

theorem l12Open_a (b : Str) : ACall En 77 [.sl false (byR b)] [] [.pt 0 2 0 0] [⟨147, 2, [[.sl false (byR (b.take 2000)), .i .i64 0]]⟩] := by
  refine acall_of_body (fn := Tryz.f77) [20] Tryz.func77 rfl rfl (by simp) fun C => ?_
  rw [entry_eq]
  simp only [Tryz.ntmps77, List.length_cons, List.length_nil, Nat.reduceAdd, Nat.reduceSub, List.replicate_succ, List.replicate_zero, List.cons_append, List.nil_append, numL]
  refine AWp.seq ?_
  refine AWp.rgn [] (by simp only [go_sem, seval]; rfl) ?_ ?_
  · (first | trivial | decide | (simp at h5; simp; omega) | simp)
  refine AWp.seq ?_
  refine AWp.seq ?_
  refine AWp.rgn [] (by simp only [go_sem, seval]; rfl) ?_ ?_
  · (first | trivial | decide | (simp at h5; simp; omega) | simp)
  refine AWp.condB (by simp only [go_sem, seval]; rfl) (by simp only [go_sem, seval]) (fun h5 => ?_) (fun h5 => ?_)
  · refine AWp.rgn [] (by simp only [go_sem, seval]; rfl) ?_ ?_
    · (first | trivial | decide | (simp at h5; simp; omega) | simp)
    refine AWp.seq ?_
    refine AWp.rgn [] (by simp only [go_sem, seval]; rfl) ?_ ?_
    · (first | trivial | decide | (simp at h5; simp; omega) | simp)
    refine AWp.ret (And.intro (.inr rfl) ?_)
    exact Out.mem' (by simp only [Tryz.results77]; rfl) (by simp only [resCs, resC, go_sem, seval]) (by simp only [resV, rns, rn, go_sem, seval] <;> (simp_all)) (by simp) rfl (by decide) (by simp only [go_sem, seval]) (by simp only [clrs, go_sem, seval]) (by simp only [memEq, go_sem, seval] <;> (rfl))
  · refine AWp.skip ?_
    refine AWp.seq ?_
    refine AWp.rgn [] (by simp only [go_sem, seval]; rfl) ?_ ?_
    · (first | trivial | decide | (simp at h5; simp; omega) | simp)
    refine AWp.ret (And.intro (.inr rfl) ?_)
    exact Out.mem' (by simp only [Tryz.results77]; rfl) (by simp only [resCs, resC, go_sem, seval]) (by simp only [resV, rns, rn, go_sem, seval] <;> (simp_all)) (by simp) rfl (by decide) (by simp only [go_sem, seval]) (by simp only [clrs, go_sem, seval]) (by simp only [memEq, go_sem, seval] <;> (simp at h5; rw [List.take_of_length_le (show b.length ≤ 2000 by omega)]))
abbrev wr (n : Int) : Int := IntKind.i64.wrap n
def mixI (b : Str) (k : Int) : Int := wr (wr (wr (wr ((b.getD (k.tmod b.length).toNat 0).toNat * 131) + wr ((b.getD ((k * 7 + 3).tmod b.length).toNat 0).toNat * 1117)) + wr (k * 29)) + wr (wr (k.tdiv b.length) * 53))
def mixX (b : Str) (k : Int) : Int := IntKind.i64.wrap (BitVec.ofInt IntKind.i64.bits (mixI b k) ^^^ BitVec.ofInt IntKind.i64.bits (IntKind.i64.wrap ((mixI b k).tdiv 64))).toNat
def pickI (b : Str) (p n : Int) : Int :=
  if n < 1 ∨ b.length = 0 then 0 else if p < b.length then ((b.getD p.toNat 0).toNat : Int).tmod n else (mixX b p).tmod n
theorem tmod_lt {k : Int} {n : Nat} (h : 0 ≤ k) (hn : 0 < n) : (k.tmod n).toNat < n := by
  have := Int.tmod_lt_of_pos k (show (0 : Int) < n by omega)
  have := Int.tmod_nonneg (n : Int) h
  omega
theorem wrapB (c : UInt8) : IntKind.i64.wrap (c.toNat : Int) = c.toNat := by
  have := UInt8.toNat_lt c
  exact wrap64 (by omega) (by omega)
theorem pick_a (b : Str) (p n : Int) (hb : b.length ≤ 2000) (hp : 0 ≤ p) (hp2 : p < 1099511627776) :
    ACall En 114 [.pt 0 2 0 0, .i .i64 n] [⟨147, 2, [[.sl false (byR b), .i .i64 p]]⟩] [.i .i64 (pickI b p n)] [⟨147, 2, [[.sl false (byR b), .i .i64 (p + 1)]]⟩] := by
  refine acall_of_body (fn := Tryz.f114) [0] Tryz.func114 rfl rfl (by simp) fun C => ?_
  rw [entry_eq]
  simp only [Tryz.ntmps114, List.length_cons, List.length_nil, Nat.reduceAdd, Nat.reduceSub, List.replicate_succ, List.replicate_zero, List.cons_append, List.nil_append, numL]
  refine AWp.seq ?_
  refine AWp.rgn [] (by simp only [go_sem, seval]; rfl) ?_ ?_
  · (first | trivial | (simp; done) | (simp at h24; simp; omega) | (simp at h24 h36; refine ⟨⟨hp, by omega⟩, by omega⟩) | (have hb0 : (0 : Int) < b.length := (by cases b with | nil => simp at h24 | cons c b => simp); have q1 := Int.tmod_lt_of_pos p hb0; have q2 := Int.tmod_nonneg (b.length : Int) hp; have q3 := Int.tmod_lt_of_pos (p * 7 + 3) hb0; have q4 := Int.tmod_nonneg (b.length : Int) (show 0 ≤ p * 7 + 3 by omega); refine ⟨⟨⟨⟨by omega, q2, q1⟩, by omega⟩, q4, q3⟩, by omega⟩))
  refine AWp.seq ?_
  refine AWp.rgn [] (by simp only [go_sem, seval, wrap64 (show -9223372036854775808 ≤ p + 1 by omega) (by omega)]; rfl) ?_ ?_
  · (first | trivial | (simp; done) | (simp at h24; simp; omega) | (simp at h24 h36; refine ⟨⟨hp, by omega⟩, by omega⟩) | (have hb0 : (0 : Int) < b.length := (by cases b with | nil => simp at h24 | cons c b => simp); have q1 := Int.tmod_lt_of_pos p hb0; have q2 := Int.tmod_nonneg (b.length : Int) hp; have q3 := Int.tmod_lt_of_pos (p * 7 + 3) hb0; have q4 := Int.tmod_nonneg (b.length : Int) (show 0 ≤ p * 7 + 3 by omega); refine ⟨⟨⟨⟨by omega, q2, q1⟩, by omega⟩, q4, q3⟩, by omega⟩))
  refine AWp.seq ?_
  refine AWp.seq ?_
  refine AWp.rgn [] (by simp only [go_sem, seval]; rfl) ?_ ?_
  · (first | trivial | (simp; done) | (simp at h24; simp; omega) | (simp at h24 h36; refine ⟨⟨hp, by omega⟩, by omega⟩) | (have hb0 : (0 : Int) < b.length := (by cases b with | nil => simp at h24 | cons c b => simp); have q1 := Int.tmod_lt_of_pos p hb0; have q2 := Int.tmod_nonneg (b.length : Int) hp; have q3 := Int.tmod_lt_of_pos (p * 7 + 3) hb0; have q4 := Int.tmod_nonneg (b.length : Int) (show 0 ≤ p * 7 + 3 by omega); refine ⟨⟨⟨⟨by omega, q2, q1⟩, by omega⟩, q4, q3⟩, by omega⟩))
  refine AWp.condB (by simp only [go_sem, seval]; rfl) (by simp only [go_sem, seval]) (fun h24 => ?_) (fun h24 => ?_)
  · refine AWp.seq ?_
    refine AWp.rgn [] (by simp only [go_sem, seval]; rfl) ?_ ?_
    · (first | trivial | (simp; done) | (simp at h24; simp; omega) | (simp at h24 h36; refine ⟨⟨hp, by omega⟩, by omega⟩) | (have hb0 : (0 : Int) < b.length := (by cases b with | nil => simp at h24 | cons c b => simp); have q1 := Int.tmod_lt_of_pos p hb0; have q2 := Int.tmod_nonneg (b.length : Int) hp; have q3 := Int.tmod_lt_of_pos (p * 7 + 3) hb0; have q4 := Int.tmod_nonneg (b.length : Int) (show 0 ≤ p * 7 + 3 by omega); refine ⟨⟨⟨⟨by omega, q2, q1⟩, by omega⟩, q4, q3⟩, by omega⟩))
    refine AWp.ret (And.intro (.inr rfl) ?_)
    exact Out.mem' (by simp only [Tryz.results114]; rfl) (by simp only [resCs, resC, go_sem, seval]) (by simp only [resV, rns, rn, go_sem, seval] <;> (have g : n < 1 ∨ b.length = 0 := (by simp at h24; simpa using h24); rw [pickI, if_pos g])) (by simp) rfl (by decide) (by simp only [go_sem, seval]) (by simp only [clrs, go_sem, seval]) (by simp only [memEq, go_sem, seval] <;> (simp))
  · refine AWp.skip ?_
    refine AWp.seq ?_
    refine AWp.rgn [] (by simp only [go_sem, seval, wrap64 (show -9223372036854775808 ≤ p by omega) (by omega), Int.add_sub_cancel]; rfl) ?_ ?_
    · (first | trivial | (simp; done) | (simp at h24; simp; omega) | (simp at h24 h36; refine ⟨⟨hp, by omega⟩, by omega⟩) | (have hb0 : (0 : Int) < b.length := (by cases b with | nil => simp at h24 | cons c b => simp); have q1 := Int.tmod_lt_of_pos p hb0; have q2 := Int.tmod_nonneg (b.length : Int) hp; have q3 := Int.tmod_lt_of_pos (p * 7 + 3) hb0; have q4 := Int.tmod_nonneg (b.length : Int) (show 0 ≤ p * 7 + 3 by omega); refine ⟨⟨⟨⟨by omega, q2, q1⟩, by omega⟩, q4, q3⟩, by omega⟩))
    refine AWp.seq ?_
    refine AWp.seq ?_
    refine AWp.rgn [] (by simp only [go_sem, seval]; rfl) ?_ ?_
    · (first | trivial | (simp; done) | (simp at h24; simp; omega) | (simp at h24 h36; refine ⟨⟨hp, by omega⟩, by omega⟩) | (have hb0 : (0 : Int) < b.length := (by cases b with | nil => simp at h24 | cons c b => simp); have q1 := Int.tmod_lt_of_pos p hb0; have q2 := Int.tmod_nonneg (b.length : Int) hp; have q3 := Int.tmod_lt_of_pos (p * 7 + 3) hb0; have q4 := Int.tmod_nonneg (b.length : Int) (show 0 ≤ p * 7 + 3 by omega); refine ⟨⟨⟨⟨by omega, q2, q1⟩, by omega⟩, q4, q3⟩, by omega⟩))
    refine AWp.condB (by simp only [go_sem, seval]; rfl) (by simp only [go_sem, seval]) (fun h36 => ?_) (fun h36 => ?_)
    · refine AWp.seq ?_
      refine AWp.rgn [] (by simp only [go_sem, seval, byR_get (show p.toNat < b.length by simp at h36; omega), wrapB]; rfl) ?_ ?_
      · (first | trivial | (simp; done) | (simp at h24; simp; omega) | (simp at h24 h36; refine ⟨⟨hp, by omega⟩, by omega⟩) | (have hb0 : (0 : Int) < b.length := (by cases b with | nil => simp at h24 | cons c b => simp); have q1 := Int.tmod_lt_of_pos p hb0; have q2 := Int.tmod_nonneg (b.length : Int) hp; have q3 := Int.tmod_lt_of_pos (p * 7 + 3) hb0; have q4 := Int.tmod_nonneg (b.length : Int) (show 0 ≤ p * 7 + 3 by omega); refine ⟨⟨⟨⟨by omega, q2, q1⟩, by omega⟩, q4, q3⟩, by omega⟩))
      refine AWp.ret (And.intro (.inr rfl) ?_)
      exact Out.mem' (by simp only [Tryz.results114]; rfl) (by simp only [resCs, resC, go_sem, seval]) (by simp only [resV, rns, rn, go_sem, seval] <;> (have g : ¬ (n < 1 ∨ b.length = 0) := (by simp at h24; simp; omega); rw [pickI, if_neg g, if_pos (by simpa using h36)])) (by simp) rfl (by decide) (by simp only [go_sem, seval]) (by simp only [clrs, go_sem, seval]) (by simp only [memEq, go_sem, seval] <;> (simp))
    · refine AWp.skip ?_
      refine AWp.seq ?_
      refine AWp.rgnD [] enM (by simp only [go_sem, seval, wrap64 (show -9223372036854775808 ≤ p * 7 by omega) (by omega), wrap64 (show -9223372036854775808 ≤ p * 7 + 3 by omega) (by omega), byR_get (tmod_lt (k := p) hp (show 0 < b.length by cases b <;> simp_all)), byR_get (tmod_lt (k := p * 7 + 3) (by omega) (show 0 < b.length by cases b <;> simp_all)), wrapB]; rfl) (by rfl) ?_ ?_
      · (first | trivial | (simp; done) | (simp at h24; simp; omega) | (simp at h24 h36; refine ⟨⟨hp, by omega⟩, by omega⟩) | (have hb0 : (0 : Int) < b.length := (by cases b with | nil => simp at h24 | cons c b => simp); have q1 := Int.tmod_lt_of_pos p hb0; have q2 := Int.tmod_nonneg (b.length : Int) hp; have q3 := Int.tmod_lt_of_pos (p * 7 + 3) hb0; have q4 := Int.tmod_nonneg (b.length : Int) (show 0 ≤ p * 7 + 3 by omega); refine ⟨⟨⟨⟨by omega, q2, q1⟩, by omega⟩, q4, q3⟩, by omega⟩))
      refine AWp.seq ?_
      refine AWp.rgn [] (by simp only [go_sem, seval]; rfl) ?_ ?_
      · (first | trivial | (simp; done) | (simp at h24; simp; omega) | (simp at h24 h36; refine ⟨⟨hp, by omega⟩, by omega⟩) | (have hb0 : (0 : Int) < b.length := (by cases b with | nil => simp at h24 | cons c b => simp); have q1 := Int.tmod_lt_of_pos p hb0; have q2 := Int.tmod_nonneg (b.length : Int) hp; have q3 := Int.tmod_lt_of_pos (p * 7 + 3) hb0; have q4 := Int.tmod_nonneg (b.length : Int) (show 0 ≤ p * 7 + 3 by omega); refine ⟨⟨⟨⟨by omega, q2, q1⟩, by omega⟩, q4, q3⟩, by omega⟩))
      refine AWp.seq ?_
      refine AWp.rgn [] (by simp only [go_sem, seval]; rfl) ?_ ?_
      · (first | trivial | (simp; done) | (simp at h24; simp; omega) | (simp at h24 h36; refine ⟨⟨hp, by omega⟩, by omega⟩) | (have hb0 : (0 : Int) < b.length := (by cases b with | nil => simp at h24 | cons c b => simp); have q1 := Int.tmod_lt_of_pos p hb0; have q2 := Int.tmod_nonneg (b.length : Int) hp; have q3 := Int.tmod_lt_of_pos (p * 7 + 3) hb0; have q4 := Int.tmod_nonneg (b.length : Int) (show 0 ≤ p * 7 + 3 by omega); refine ⟨⟨⟨⟨by omega, q2, q1⟩, by omega⟩, q4, q3⟩, by omega⟩))
      refine AWp.ret (And.intro (.inr rfl) ?_)
      exact Out.mem' (by simp only [Tryz.results114]; rfl) (by simp only [resCs, resC, go_sem, seval]) (by simp only [resV, rns, rn, go_sem, seval] <;> (have g : ¬ (n < 1 ∨ b.length = 0) := (by simp at h24; simp; omega); rw [pickI, if_neg g, if_neg (by simpa using h36)]; rfl)) (by simp) rfl (by decide) (by simp only [go_sem, seval]) (by simp only [clrs, go_sem, seval]) (by simp only [memEq, go_sem, seval] <;> (simp))
end

section
set_option maxRecDepth 100000
set_option maxHeartbeats 4000000

theorem mixI_le (b : Str) {p : Int} (hp : 0 ≤ p) (hp2 : p < 1099511627776) : 0 ≤ mixI b p ∧ mixI b p < 4611686018427387904 := by
  have c1 := UInt8.toNat_lt (b.getD (p.tmod b.length).toNat 0)
  have c2 := UInt8.toNat_lt (b.getD ((p * 7 + 3).tmod b.length).toNat 0)
  have d1 : 0 ≤ p.tdiv b.length := Int.tdiv_nonneg hp (Int.natCast_nonneg _)
  have d2 : p.tdiv b.length ≤ p := by rw [Int.tdiv_eq_ediv_of_nonneg hp]; exact Int.ediv_le_self _ hp
  unfold mixI wr
  generalize (b.getD (p.tmod b.length).toNat 0).toNat = x at *
  generalize (b.getD ((p * 7 + 3).tmod b.length).toNat 0).toNat = y at *
  generalize p.tdiv b.length = q at *
  rw [wrap64 (n := (x : Int) * 131) (by omega) (by omega), wrap64 (n := (y : Int) * 1117) (by omega) (by omega), wrap64 (n := p * 29) (by omega) (by omega), wrap64 (n := q) (by omega) (by omega),
    wrap64 (n := q * 53) (by omega) (by omega), wrap64 (n := (x : Int) * 131 + y * 1117) (by omega) (by omega), wrap64 (n := (x : Int) * 131 + y * 1117 + p * 29) (by omega) (by omega), wrap64 (by omega) (by omega)]
  omega
theorem mixX_pos (b : Str) {p : Int} (hp : 0 ≤ p) (hp2 : p < 1099511627776) : 0 ≤ mixX b p := by
  obtain ⟨h1, h2⟩ := mixI_le b hp hp2
  have d1 : 0 ≤ (mixI b p).tdiv 64 := Int.tdiv_nonneg h1 (by decide)
  have d2 : (mixI b p).tdiv 64 ≤ mixI b p := by rw [Int.tdiv_eq_ediv_of_nonneg h1]; exact Int.ediv_le_self _ h1
  unfold mixX
  generalize (mixI b p).tdiv 64 = q at *
  generalize mixI b p = m at *
  rw [wrap64 (n := q) (by omega) (by omega)]
  have e1 : (BitVec.ofInt IntKind.i64.bits m).toNat < 2 ^ 62 := by
    rw [BitVec.toNat_ofInt]
    have : m % ((2 ^ IntKind.i64.bits : Nat) : Int) = m := Int.emod_eq_of_lt h1 (by show m < 18446744073709551616; omega)
    rw [this]; omega
  have e2 : (BitVec.ofInt IntKind.i64.bits q).toNat < 2 ^ 62 := by
    rw [BitVec.toNat_ofInt]
    have : q % ((2 ^ IntKind.i64.bits : Nat) : Int) = q := Int.emod_eq_of_lt d1 (by show q < 18446744073709551616; omega)
    rw [this]; omega
  have e3 := Nat.xor_lt_two_pow e1 e2
  rw [← BitVec.toNat_xor] at e3
  rw [wrap64 (by omega) (by omega)]
  omega
theorem pickI_le (b : Str) {p n : Int} (hp : 0 ≤ p) (hp2 : p < 1099511627776) (hn : 1 ≤ n) : 0 ≤ pickI b p n ∧ pickI b p n < n := by
  unfold pickI
  split
  · omega
  · split
    · exact ⟨Int.tmod_nonneg _ (by omega), Int.tmod_lt_of_pos _ (by omega)⟩
    · exact ⟨Int.tmod_nonneg _ (mixX_pos b hp hp2), Int.tmod_lt_of_pos _ (by omega)⟩
def inR (l : List Int) : List (List V) := l.map fun n => [.i .i64 n]
theorem inR_len (l : List Int) : (inR l).length = l.length := by simp [inR]
theorem inR_get {l : List Int} {k : Nat} (h : k < l.length) : (inR l).getD k [] = [.i .i64 (l.getD k 0)] := by
  simp [inR, List.getD_eq_getElem?_getD, List.getElem?_eq_getElem h]
theorem inR_pure : ∀ l : List Int, purer (inR l) = true
  | [] => rfl
  | n :: l => by simp only [inR, List.map_cons, purer, pures, V.pure, Bool.true_and]; exact inR_pure l
theorem inR_nil : inR [] = [] := rfl
theorem inR_cons (n : Int) (l : List Int) : inR (n :: l) = [.i .i64 n] :: inR l := rfl
theorem strR_nil : strR [] = [] := rfl
theorem strR_cons (s : Str) (l : List Str) : strR (s :: l) = [.s s] :: strR l := rfl
def numI (b : Str) (p : Int) (l : List Int) : Int := l.getD (pickI b p l.length).toNat 0
def ofI (b : Str) (p : Int) (l : List Str) : Str := l.getD (pickI b p l.length).toNat []
theorem num_a (b : Str) (p : Int) (l : List Int) (hl : 0 < l.length) (hb : b.length ≤ 2000) (hp : 0 ≤ p) (hp2 : p < 1099511627776) :
    ACall En 147 [.pt 0 2 0 0, .sl false (inR l)] [⟨147, 2, [[.sl false (byR b), .i .i64 p]]⟩] [.i .i64 (numI b p l)] [⟨147, 2, [[.sl false (byR b), .i .i64 (p + 1)]]⟩] := by
  have hr := pickI_le b hp hp2 (show 1 ≤ (l.length : Int) by omega)
  refine acall_of_body (fn := Tryz.f147) [0] Tryz.func147 rfl rfl (by simp) fun C => ?_
  rw [entry_eq]
  simp only [Tryz.ntmps147, List.length_cons, List.length_nil, Nat.reduceAdd, Nat.reduceSub, List.replicate_succ, List.replicate_zero, List.cons_append, List.nil_append, numL]
  refine AWp.seq ?_
  refine AWp.rgn [] (by simp only [go_sem, seval]; rfl) ?_ ?_
  · first | trivial | simp
  refine AWp.seq ?_
  refine AWp.rgn [callN [0] [] (pick_a b p l.length hb hp hp2)] (by simp only [go_sem, seval, memEq, clrs, inR_len, inR_pure, inR_get (show (pickI b p l.length).toNat < l.length by omega)]; rfl) ?_ ?_
  · simp; omega
  refine AWp.ret (And.intro (.inr rfl) ?_)
  exact Out.mem' (by simp only [Tryz.results147]; rfl) (by simp only [resCs, resC, go_sem, seval]) (by simp only [resV, rns, rn, go_sem, seval] <;> (rfl)) (by simp) rfl (by decide) (by simp only [go_sem, seval]) (by simp only [clrs, go_sem, seval]) (by simp only [memEq, go_sem, seval] <;> (simp))
theorem of_a (b : Str) (p : Int) (l : List Str) (hl : 0 < l.length) (hb : b.length ≤ 2000) (hp : 0 ≤ p) (hp2 : p < 1099511627776) :
    ACall En 115 [.pt 0 2 0 0, .sl false (strR l)] [⟨147, 2, [[.sl false (byR b), .i .i64 p]]⟩] [.s (ofI b p l)] [⟨147, 2, [[.sl false (byR b), .i .i64 (p + 1)]]⟩] := by
  have hr := pickI_le b hp hp2 (show 1 ≤ (l.length : Int) by omega)
  refine acall_of_body (fn := Tryz.f115) [0] Tryz.func115 rfl rfl (by simp) fun C => ?_
  rw [entry_eq]
  simp only [Tryz.ntmps115, List.length_cons, List.length_nil, Nat.reduceAdd, Nat.reduceSub, List.replicate_succ, List.replicate_zero, List.cons_append, List.nil_append, numL]
  refine AWp.seq ?_
  refine AWp.rgn [] (by simp only [go_sem, seval]; rfl) ?_ ?_
  · first | trivial | simp
  refine AWp.seq ?_
  refine AWp.rgn [callN [0] [] (pick_a b p l.length hb hp hp2)] (by simp only [go_sem, seval, memEq, clrs, strR_len, strR_get (show (pickI b p l.length).toNat < l.length by omega)]; rfl) ?_ ?_
  · simp; omega
  refine AWp.ret (And.intro (.inr rfl) ?_)
  exact Out.mem' (by simp only [Tryz.results115]; rfl) (by simp only [resCs, resC, go_sem, seval]) (by simp only [resV, rns, rn, go_sem, seval] <;> (rfl)) (by simp) rfl (by decide) (by simp only [go_sem, seval]) (by simp only [clrs, go_sem, seval]) (by simp only [memEq, go_sem, seval] <;> (simp))
end

section
set_option maxRecDepth 100000
set_option maxHeartbeats 4000000

theorem CloneN_a : ACall En 225 [.sl false []] [] [.ow 0 4 0 0] [⟨30, 4, []⟩] := by
  refine acall_of_body (fn := Tryz.f225) [17] Tryz.func225 rfl rfl (by simp) fun C => ?_
  rw [entry_eq]
  simp only [Tryz.ntmps225, List.length_cons, List.length_nil, Nat.reduceAdd, Nat.reduceSub, List.replicate_succ, List.replicate_zero, List.cons_append, List.nil_append, numL]
  refine AWp.seq ?_
  refine AWp.rgn [] (by simp only [go_sem, seval]; rfl) ?_ ?_
  · first | trivial | simp
  refine AWp.seq ?_
  refine AWp.seq ?_
  refine AWp.rgnS [4] [nilO En] (by simp only [go_sem, seval]; rfl) ?_ ?_
  · first | trivial | simp
  refine AWp.condQ (by simp only [go_sem, seval] <;> rfl) (by simp only [go_sem, seval]) ?_ ?_
  · refine AWp.seq ?_
    refine AWp.rgn [] (by simp only [go_sem, seval]; rfl) ?_ ?_
    · first | trivial | simp
    refine AWp.can (Can.ownSlot 2 17 30 4 (by simp only [go_sem, seval] <;> rfl) (by simp only [go_sem, seval]) (by simp only [go_sem, seval] <;> rfl)) ?_
    refine AWp.ret (And.intro (.inr rfl) ?_)
    exact Out.mem' (by simp only [Tryz.results225]; rfl) (by simp only [resCs, resC, go_sem, seval]) (by simp only [resV, rns, rn, go_sem, seval] <;> (simp)) (by simp) rfl (by decide) (by simp only [go_sem, seval]) (by simp only [clrs, go_sem, seval]) (by simp only [memEq, go_sem, seval] <;> (simp))
  · refine AWp.skip ?_
    refine AWp.seq ?_
    refine AWp.rgn [] (by simp only [go_sem, seval]; rfl) ?_ ?_
    · first | trivial | simp
    refine AWp.ret (And.intro (.inr rfl) ?_)
    exact Out.mem' (by simp only [Tryz.results225]; rfl) (by simp only [resCs, resC, go_sem, seval]) (by simp only [resV, rns, rn, go_sem, seval] <;> (simp)) (by simp) rfl (by decide) (by simp only [go_sem, seval]) (by simp only [clrs, go_sem, seval]) (by simp only [memEq, go_sem, seval] <;> (simp))
theorem CloneC_a (e : E) (r : List E) (hl : r.length < 1099511627776) : ACall En 225 [.sl false (eR (e :: r))] [] [.ow 0 4 0 (r.length + 1)] [⟨30, 4, eR (e :: r)⟩] := by
  refine acall_of_body (fn := Tryz.f225) [17] Tryz.func225 rfl rfl (by simp) fun C => ?_
  rw [entry_eq]
  simp only [Tryz.ntmps225, List.length_cons, List.length_nil, Nat.reduceAdd, Nat.reduceSub, List.replicate_succ, List.replicate_zero, List.cons_append, List.nil_append, numL]
  refine AWp.seq ?_
  refine AWp.rgn [] (by simp only [go_sem, seval, eR]; rfl) ?_ ?_
  · first | trivial | simp
  refine AWp.seq ?_
  refine AWp.seq ?_
  refine AWp.rgnS [4] [nilO En] (by simp only [go_sem, seval, eR]; rfl) ?_ ?_
  · first | trivial | simp
  refine AWp.condB (by simp only [go_sem, seval]; rfl) (by simp only [go_sem, seval]) (fun h4 => ?_) (fun h4 => ?_)
  · exact absurd h4 (by simp)
  · refine AWp.skip ?_
    refine AWp.seq ?_
    refine AWp.rgn [] (by simp only [go_sem, seval, eR]; rfl) ?_ ?_
    · have := eR_len r; simp [eR_map, eC_eq]; omega
    refine AWp.ret (And.intro (.inr rfl) ?_)
    exact Out.mem' (by simp only [Tryz.results225]; rfl) (by simp only [resCs, resC, go_sem, seval]) (by simp only [resV, rns, rn, go_sem, seval] <;> (simp)) (by simp) rfl (by decide) (by simp only [go_sem, seval]) (by simp only [clrs, go_sem, seval]) (by simp only [memEq, go_sem, seval] <;> (simp [eR, rnr_pure, eR_pure, eC_eq]))
theorem Clone_a (l : List E) (hl : l.length < 1099511627776) : ACall En 225 [.sl false (eR l)] [] [.ow 0 4 0 l.length] [⟨30, 4, eR l⟩] := by
  cases l with
  | nil => simp only [eR]; exact CloneN_a
  | cons e r => exact CloneC_a e r (by simp at hl; omega)
theorem Clip_a (l : List E) (hl : l.length < 1099511627776) : ACall En 224 [.ow 0 4 0 l.length] [⟨30, 4, eR l⟩] [.ow 0 4 0 l.length] [⟨30, 4, eR l⟩] := by
  refine acall_of_body (fn := Tryz.f224) [0] Tryz.func224 rfl rfl (by simp) fun C => ?_
  rw [entry_eq]
  simp only [Tryz.ntmps224, List.length_cons, List.length_nil, Nat.reduceAdd, Nat.reduceSub, List.replicate_succ, List.replicate_zero, List.cons_append, List.nil_append, numL]
  refine AWp.seq ?_
  refine AWp.rgn [] (by simp only [go_sem, seval]; rfl) ?_ ?_
  · first | trivial | simp
  refine AWp.seq ?_
  refine AWp.rgn [] (by simp only [go_sem, seval]; rfl) ?_ ?_
  · first | trivial | simp
  refine AWp.ret (And.intro (.inr rfl) ?_)
  exact Out.mem' (by simp only [Tryz.results224]; rfl) (by simp only [resCs, resC, go_sem, seval]) (by simp only [resV, rns, rn, go_sem, seval] <;> (simp)) (by simp) rfl (by decide) (by simp only [go_sem, seval]) (by simp only [clrs, go_sem, seval]) (by simp only [memEq, go_sem, seval] <;> (simp))
theorem clone_a (l : List E) (hl : l.length < 1099511627776) : ACall En 201 [.sl false (eR l)] [] [.ow 0 4 0 l.length] [⟨30, 4, eR l⟩] := by
  refine acall_of_body (fn := Tryz.f201) [14] Tryz.func201 rfl rfl (by simp) fun C => ?_
  rw [entry_eq]
  simp only [Tryz.ntmps201, List.length_cons, List.length_nil, Nat.reduceAdd, Nat.reduceSub, List.replicate_succ, List.replicate_zero, List.cons_append, List.nil_append, numL]
  refine AWp.seq ?_
  refine AWp.rgn [] (by simp only [go_sem, seval]; rfl) ?_ ?_
  · first | trivial | simp
  refine AWp.seq ?_
  refine AWp.rgn [callN [] [14] (Clone_a l hl), callN [14] [] (Clip_a l hl)] (by simp only [go_sem, seval]; rfl) ?_ ?_
  · first | trivial | simp
  refine AWp.ret (And.intro (.inr rfl) ?_)
  exact Out.mem' (by simp only [Tryz.results201]; rfl) (by simp only [resCs, resC, go_sem, seval]) (by simp only [resV, rns, rn, go_sem, seval] <;> (simp)) (by simp) rfl (by decide) (by simp only [go_sem, seval]) (by simp only [clrs, go_sem, seval]) (by simp only [memEq, go_sem, seval] <;> (simp))
end

section
set_option maxRecDepth 100000
set_option maxHeartbeats 4000000

def mixR (l : List E) (k : Nat) : List (List V) := eR (bares (l.take k) ++ l.drop k)
theorem mixR_len (l : List E) (k : Nat) (h : k ≤ l.length) : (mixR l k).length = l.length := by simp [mixR, eR_len, bares_len]; omega
theorem mixR_pure (l : List E) (k : Nat) : purer (mixR l k) = true := eR_pure _
theorem mixR_zero (l : List E) : mixR l 0 = eR l := by simp [mixR, bares]
theorem mixR_end (l : List E) (k : Nat) (h : l.length ≤ k) : mixR l k = eR (bares l) := by simp [mixR, List.take_of_length_le h, List.drop_of_length_le h]
theorem mixR_set {l : List E} {k : Nat} (h : k < l.length) {r : List V} (hr : r = eC (bare (l.getD k E0))) : (mixR l k).set k r = mixR l (k + 1) := by
  subst hr
  unfold mixR
  rw [bares_snoc h, eR_app, eR_app, eR_app, List.set_append_right _ _ (by rw [eR_len, bares_len, List.length_take]; omega), eR_len, bares_len, List.length_take, Nat.min_eq_left (Nat.le_of_lt h), Nat.sub_self, List.drop_eq_getElem_cons h]
  simp only [eR, List.set_cons_zero, List.append_assoc, List.cons_append, List.nil_append]
theorem eR_len4 : ∀ {l : List E} (r : List V), r ∈ eR l → r.length = 4 := fun {l} r hr => by
  rw [eR_map] at hr; obtain ⟨e, _, rfl⟩ := List.mem_map.1 hr; rw [eC_eq]; rfl
theorem mixR_drop (l : List E) (k j : Nat) : ((mixR l k).getD j []).drop 4 = [] := by
  rw [List.getD_eq_getElem?_getD]
  cases h : (mixR l k)[j]? with
  | none => rfl
  | some r => have := eR_len4 r (List.mem_of_getElem? h); simp only [Option.getD_some]; exact List.drop_of_length_le (by omega)
mutual
theorem sm_bare : ∀ e : E, sm e = true → sm (bare e) = true
  | .mk k n s kids, h => by
    simp only [sm, Bool.and_eq_true] at h
    simp only [bare]
    by_cases hk : k = 4
    · rw [if_pos hk]
      cases kids with
      | nil => simp only [bare1, sm, Bool.and_eq_true]; exact ⟨⟨h.1.1, by simp⟩, rfl⟩
      | cons a r => simp only [bare1]; simp only [sms, Bool.and_eq_true] at h; exact sm_bare a h.2.1
    · rw [if_neg hk]
      simp only [sm, Bool.and_eq_true]
      exact ⟨⟨h.1.1, by rw [bares_len]; exact h.1.2⟩, sms_bares kids h.2⟩
theorem sms_bares : ∀ l : List E, sms l = true → sms (bares l) = true
  | [], _ => by simp only [bares, sms]
  | e :: r, h => by
    simp only [sms, Bool.and_eq_true] at h
    simp only [bares, sms, sm_bare e h.1, sms_bares r h.2, Bool.and_self]
end
theorem iBare_a (e : E) : wf e = true → sm e = true → ACall En 159 [.ag (eC e)] [] [.ag (eC (bare e))] [] := by
  induction e using E.ind' with
  | h e ih =>
  intro hw hs
  obtain ⟨a1, a2, a3⟩ := sm_open hs
  obtain ⟨w1, w2⟩ := wf_open hw
  have a4 := sm_kids hs
  refine acall_of_body (fn := Tryz.f159) [] Tryz.func159 rfl rfl (by simp) fun C => ?_
  rw [entry_eq]
  simp only [Tryz.ntmps159, List.length_cons, List.length_nil, Nat.reduceAdd, Nat.reduceSub, List.replicate_succ, List.replicate_zero, List.cons_append, List.nil_append, numL]
  refine AWp.seq ?_
  refine AWp.rgn [] (by simp only [go_sem, seval, mixR_pure, mixR_drop]; rfl) ?_ ?_
  · first | trivial | simp
  refine AWp.seq ?_
  refine AWp.seq ?_
  refine AWp.rgn [] (by simp only [go_sem, seval, mixR_pure, mixR_drop]; rfl) ?_ ?_
  · first | trivial | simp
  refine AWp.condB (by simp only [go_sem, seval, mixR_pure, mixR_drop]; rfl) (by simp only [go_sem, seval, mixR_pure, mixR_drop]) (fun h8 => ?_) (fun h8 => ?_)
  · refine AWp.seq ?_
    refine AWp.rgn [call0 (ih (e.kids.getD 0 E0) (getD_mem (w1 (by simpa using h8))) (wfs_mem w2 _ (getD_mem (w1 (by simpa using h8)))) (sms_mem a3 _ (getD_mem (w1 (by simpa using h8)))))] (by simp only [go_sem, seval, mixR_pure, mixR_drop, eR_get (w1 (by simpa using h8))]; rfl) ?_ ?_
    · have := w1 (by simpa using h8); simp; omega
    refine AWp.ret (And.intro (.inr rfl) ?_)
    exact Out.plain (by simp only [Tryz.results159]; rfl) (by simp only [resCs, resC, go_sem, seval, mixR_pure, mixR_drop] <;> (split <;> rfl)) (by simp only [resV, go_sem, seval, mixR_pure, mixR_drop] <;> (rw [bare_four (e := e) (by simpa using h8) (w1 (by simpa using h8))])) (by simp only [go_sem, seval, mixR_pure, mixR_drop])
  · refine AWp.skip ?_
    refine AWp.seq ?_
    refine AWp.rgnD [callN [] [32] (clone_a e.kids a4)] enM (by simp only [go_sem, seval, mixR_pure, mixR_drop]; rfl) (by rfl) ?_ ?_
    · first | trivial | simp
    refine AWp.seq ?_
    refine AWp.seq ?_
    refine AWp.rgn [] (by simp only [go_sem, seval, mixR_pure, mixR_drop]; rfl) ?_ ?_
    · first | trivial | simp
    refine AWp.block ?_
    refine AWp.loopK (fun k : Nat => ⟨[.no, .pt 11 4 0 0, .pt 12 4 0 0, .pt 13 4 0 0, .no, .no, .no, .no, .no, .no, .no, .no, .no, .no, .no, .no, .no, .no, .no, .no, .no, .no, .no, .no, .no, .sl false (eR e.kids), .i .i64 e.kids.length, .i .i64 k, .no, .no, .no, .no, .no, .no, .no, .no, .no, .no, .no, .no], memOf [(11, ⟨30, 4, [eC e]⟩), (12, ⟨30, 4, [[.i .i64 0, .i .i64 0, .s [], .sl true []]]⟩), (13, ⟨30, 4, [[.i .i64 e.kind, .i .i64 e.n, .s e.s, .ow 32 4 0 e.kids.length]]⟩), (32, ⟨30, 4, mixR e.kids k⟩)], us [11, 12, 13, 32]⟩) (fun k : Nat => k ≤ e.kids.length) (fun k : Nat => e.kids.length - k) (0) ?_ ?_ (fun k hI => ?_)
    · simp
    · exact Can.weak (Weak.lit (by simp only [go_sem, seval, mixR_pure, mixR_drop, subM, leV, inns, innr, V.inn, us, true_or, or_true] <;> (simp)) (by simp only [go_sem, seval, mixR_pure, mixR_drop, subM, leV, inns, innr, V.inn, us, true_or, or_true]) (by simp only [go_sem, seval, mixR_pure, mixR_drop, subM, leV, inns, innr, V.inn, us, true_or, or_true] <;> (simp [mixR_zero, innr_pure, eR_pure])))
    refine AWp.seq ?_
    refine AWp.rgn [] (by simp only [go_sem, seval, mixR_pure, mixR_drop]; rfl) ?_ ?_
    · first | trivial | simp
    refine AWp.seq ?_
    refine AWp.condB (by simp only [go_sem, seval, mixR_pure, mixR_drop]; rfl) (by simp only [go_sem, seval, mixR_pure, mixR_drop]) (fun h28 => ?_) (fun h28 => ?_)
    · refine AWp.skip ?_
      refine AWp.seq ?_
      refine AWp.block ?_
      refine AWp.seq ?_
      refine AWp.rgn [] (by simp only [go_sem, seval, mixR_pure, mixR_drop, eR_get (show k < e.kids.length by simpa using h28)]; rfl) ?_ ?_
      · simp at h28; simp; omega
      refine AWp.rgnD [call0 (ih (e.kids.getD k E0) (getD_mem (by simpa using h28)) (wfs_mem w2 _ (getD_mem (by simpa using h28))) (sms_mem a3 _ (getD_mem (by simpa using h28))))] enM (by simp only [go_sem, seval, mixR_pure, mixR_drop, mixR_set (show k < e.kids.length by simpa using h28) (eC_eq _).symm, mixR_len e.kids k hI, mixR_pure]; rfl) (by rfl) ?_ ?_
      · simp at h28; simp [mixR_len e.kids k hI]; omega
      refine AWp.rgn [] (by simp only [go_sem, seval, mixR_pure, mixR_drop]; rfl) ?_ ?_
      · first | trivial | simp
      refine Exists.intro (k + 1) ⟨?_, ?_, ?_⟩
      · simp at h28; omega
      · simp at h28; omega
      exact Can.weak (Weak.lit (by simp only [go_sem, seval, mixR_pure, mixR_drop, subM, leV, inns, innr, V.inn, us, true_or, or_true] <;> (rw [wrap64 (by simp at h28; omega) (by simp at h28; omega)]; simp)) (by simp only [go_sem, seval, mixR_pure, mixR_drop, subM, leV, inns, innr, V.inn, us, true_or, or_true]) (by simp only [go_sem, seval, mixR_pure, mixR_drop, subM, leV, inns, innr, V.inn, us, true_or, or_true]))
    · refine AWp.exit ?_
      refine AWp.seq ?_
      refine AWp.rgn [] (by simp only [go_sem, seval, mixR_pure, mixR_drop]; rfl) ?_ ?_
      · first | trivial | simp
      refine AWp.frz 32 (by simp only [go_sem, seval, mixR_pure, mixR_drop]; rfl) (by simp only [go_sem, seval, mixR_pure, mixR_drop]) (by simp only [go_sem, seval, mixR_pure, mixR_drop]; rfl) (by simp only [go_sem, seval, mixR_pure, mixR_drop]; rfl) ?_
      refine AWp.ret (And.intro (.inr rfl) ?_)
      exact Out.plain (by simp only [Tryz.results159]; rfl) (by simp only [resCs, resC, go_sem, seval, mixR_pure, mixR_drop] <;> (split <;> rfl)) (by simp only [resV, go_sem, seval, mixR_pure, mixR_drop] <;> (simp at h28; rw [bare_else (e := e) (by simpa using h8), mixR_end _ _ h28]; simp [eC_eq, bares_len, eR_len, E.kind, E.n, E.s, E.kids, List.take_of_length_le])) (by simp only [go_sem, seval, mixR_pure, mixR_drop])
theorem plain_a (e : E) (hs : sm e = true) : ACall En 102 [.ag (eC e)] [] [.b (pe e)] [] := by
  refine acall_of_body (fn := Tryz.f102) [] Tryz.func102 rfl rfl (by simp) fun C => ?_
  rw [entry_eq]
  simp only [Tryz.ntmps102, List.length_cons, List.length_nil, Nat.reduceAdd, Nat.reduceSub, List.replicate_succ, List.replicate_zero, List.cons_append, List.nil_append, numL]
  refine AWp.seq ?_
  refine AWp.rgn [] (by simp only [go_sem, seval]; rfl) ?_ ?_
  · first | trivial | simp
  refine AWp.seq ?_
  refine AWp.rgnD [call0 (iExprOk_a e hs), callI (eok e = true) (fun h => iBare_a e (eok_wf h) hs), call0 (iExprSame_a (bare e) e (sm_bare e hs) hs)] enM (by simp only [go_sem, seval]; rfl) (by rfl) ?_ ?_
  · simp
  refine AWp.ret (And.intro (.inr rfl) ?_)
  exact Out.plain (by simp only [Tryz.results102]; rfl) (by simp only [resCs, resC, go_sem, seval] <;> (split <;> rfl)) (by simp only [resV, go_sem, seval] <;> (rw [← plain_eq])) (by simp only [go_sem, seval])
end

section
set_option maxRecDepth 100000
set_option maxHeartbeats 1000000

def wdR (l : Wd) : List (List V) := l.map fun p => [.s p.1, .i .i64 p.2]
theorem wdR_len (l : Wd) : (wdR l).length = l.length := by simp [wdR]
theorem wdR_app (a b : Wd) : wdR (a ++ b) = wdR a ++ wdR b := by simp [wdR]
theorem wdR_pure : ∀ l : Wd, purer (wdR l) = true
  | [] => rfl
  | p :: l => by simp only [wdR, List.map_cons, purer, pures, V.pure, Bool.true_and]; exact wdR_pure l
theorem wdR_row (l : Wd) : ∀ r ∈ wdR l, r.length = 2 := fun r hr => by
  obtain ⟨p, _, rfl⟩ := List.mem_map.1 hr; rfl
theorem wdR_get {l : Wd} {k : Nat} (h : k < l.length) : (wdR l).getD k [] = [.s (l.getD k ([], 0)).1, .i .i64 (l.getD k ([], 0)).2] := by
  simp [wdR, List.getD_eq_getElem?_getD, List.getElem?_eq_getElem h]
theorem wdR_rows (l : Wd) : (∀ r, r ∈ wdR l → r.length = 2) = True := eq_true (wdR_row l)
theorem src_le {e : E} {d : Nat} (h : form e d = true) (hm : many e d ≤ 1000) (must nx : Int) : (src e must nx).length ≤ 3000 := by
  rw [← List.length_map (f := (·.1)), src_wds]
  have := wds_le d e must h; omega
theorem src_len (e : E) (must nx : Int) : (src e must nx).length = (wds e must).length := by
  rw [← src_wds e must nx, List.length_map]
theorem itoa_dec {n : Int} (h : 0 ≤ n) : Lib.itoa n = Lib.decDigits n.toNat := by unfold Lib.itoa; rw [if_neg (by omega)]
theorem src_brk {e : E} {d : Int} (h : form e d = true) (must nx : Int) : src e must nx = brk (decide (e.kind = 3) && decide (tight e.s < must)) (src e 0 nx) := by
  rcases (form_open h).2 with ⟨k1, _⟩ | ⟨k1, _⟩ | ⟨k1, h1, h2, h3, h4, h5⟩ | ⟨k1, h1, h2, h3, h4⟩
  · rw [show (decide (e.kind = 3)) = false by simp [k1]]; cases e; simp only [E.kind] at k1; subst k1; simp [src, brk]
  · rw [show (decide (e.kind = 3)) = false by simp [k1]]; cases e; simp only [E.kind] at k1; subst k1; simp [src, brk]
  · have := isOp_tight h2
    rw [src_two k1 h3, src_two k1 h3, show decide (tight e.s < 0) = false by simp; omega]
    simp [k1, brk]
  · rw [src_as k1 h3, src_as k1 h3]; simp [k1, brk]
def mx2 (t : Int) : Int := if t > 2 then t else 2
theorem mx2_eq (t : Int) : mx2 t = max 2 t := by unfold mx2; split <;> omega
theorem words_a (d : Nat) : ∀ (e : E) (must nx : Int), form e d = true → sm e = true → many e d ≤ 1000 → 0 ≤ nx → nx + cnt e ≤ 1000000 → must ≤ 1000 → 
    ACall En 181 [.ag (eC e), .i .i64 must, .pt 0 1 0 0] [⟨3, 1, [[.i .i64 nx]]⟩] [.ow 1 2 0 (src e must nx).length] [⟨3, 1, [[.i .i64 (nx + cnt e)]]⟩, ⟨139, 2, wdR (src e must nx)⟩] := by
  induction d with
  | zero => intro e must nx h; have := (form_open h).1; omega
  | succ d ih =>
  intro e must nx h hs hm hx hx2 hmu
  obtain ⟨a1, a2, a3⟩ := sm_open hs
  have e1 : ((d + 1 : Nat) : Int) - 1 = (d : Int) := by omega
  have hd1 : (1 : Int) ≤ ((d + 1 : Nat) : Int) := by omega
  have hc := (wds_le (d + 1) e must h).2.2.2
  have g12 : (e.kind = 1 ∨ e.kind = 2) → cnt e = 1 ∧ src e must nx = [(if e.kind = 1 then Lib.decDigits e.n.toNat else e.s, nx)] ∧ (e.kind = 1 → 0 ≤ e.n ∧ e.n ≤ 1000000) := fun hk => by
    rcases (form_open h).2 with ⟨k1, h1, h2, h3, h4⟩ | ⟨k1, h1, h2, h3⟩ | ⟨k1, _⟩ | ⟨k1, _⟩ <;> try omega
    · cases e; simp only [E.kind, E.kids] at k1 h4; subst k1 h4; simp [cnt, cnts, src, E.n, E.kind] at *; omega
    · cases e; simp only [E.kind, E.kids] at k1 h3; subst k1 h3; simp [cnt, cnts, src, E.s, E.kind]
  have g3 : e.kind = 3 → e.kids.length = 2 ∧ 1 ≤ tight e.s ∧ tight e.s ≤ 3 ∧ form (e.kids.getD 0 E0) d = true ∧ form (e.kids.getD 1 E0) d = true ∧ many (e.kids.getD 0 E0) d ≤ 1000 ∧ many (e.kids.getD 1 E0) d ≤ 1000 ∧ 0 ≤ cnt (e.kids.getD 0 E0) ∧ cnt (e.kids.getD 0 E0) ≤ 1000 ∧ nx + cnt e = nx + 1 + cnt (e.kids.getD 0 E0) + cnt (e.kids.getD 1 E0) ∧ 0 ≤ cnt (e.kids.getD 1 E0) := fun hk => by
    rcases (form_open h).2 with ⟨k1, _⟩ | ⟨k1, _⟩ | ⟨k1, h1, h2, h3, h4, h5⟩ | ⟨k1, _⟩ <;> try omega
    rw [e1] at h4 h5
    have := isOp_tight h2
    have hm2 := many_two hd1 h3
    rw [e1] at hm2
    have q1 := wds_le d _ 0 h4
    have q2 := wds_le d _ 0 h5
    exact ⟨h3, this.1, this.2, h4, h5, by omega, by omega, by omega, by omega, by rw [cnt_two k1 h3]; omega, by omega⟩
  have g4 : e.kind = 4 → e.kids.length = 1 ∧ form (e.kids.getD 0 E0) d = true ∧ many (e.kids.getD 0 E0) d ≤ 1000 ∧ cnt e = cnt (e.kids.getD 0 E0) := fun hk => by
    rcases (form_open h).2 with ⟨k1, _⟩ | ⟨k1, _⟩ | ⟨k1, _⟩ | ⟨k1, h1, h2, h3, h4⟩ <;> try omega
    rw [e1] at h4
    have hm2 := many_one hd1 h3
    rw [e1] at hm2
    have q1 := wds_le d _ 0 h4
    exact ⟨h3, h4, by omega, cnt_as k1 h3⟩
  have g0 : e.kind = 1 ∨ e.kind = 2 ∨ e.kind = 3 ∨ e.kind = 4 := by
    rcases (form_open h).2 with ⟨k1, _⟩ | ⟨k1, _⟩ | ⟨k1, _⟩ | ⟨k1, _⟩ <;> omega
  have hT : e.kind = 3 → src e must nx = brk (decide (tight e.s < must)) (src (e.kids.getD 0 E0) (mx2 (tight e.s)) (nx + 1) ++ (e.s, nx) :: src (e.kids.getD 1 E0) (tight e.s + 1) (nx + 1 + cnt (e.kids.getD 0 E0))) ∧ nx + cnt e = nx + 1 + cnt (e.kids.getD 0 E0) + cnt (e.kids.getD 1 E0) := fun hk => ⟨by rw [mx2_eq]; exact src_two hk (g3 hk).1 _ _, (g3 hk).2.2.2.2.2.2.2.2.2.1⟩
  have hA : e.kind = 4 → src e must nx = src (e.kids.getD 0 E0) 4 nx ++ [([97, 115], -1), (e.s, -1)] ∧ cnt e = cnt (e.kids.getD 0 E0) := fun hk => ⟨src_as hk (g4 hk).1 _ _, (g4 hk).2.2.2⟩
  have hL : ∀ k, k < e.kids.length → ∀ m n, (src (e.kids.getD k E0) m n).length ≤ 3000 := fun k hk m n => by
    rcases g0 with hk4 | hk4 | hk4 | hk4
    · rcases (form_open h).2 with ⟨k1, h1, h2, h3, h4⟩ | ⟨k1, _⟩ | ⟨k1, _⟩ | ⟨k1, _⟩ <;> try omega
      rw [h4] at hk; simp at hk
    · rcases (form_open h).2 with ⟨k1, _⟩ | ⟨k1, h1, h2, h3⟩ | ⟨k1, _⟩ | ⟨k1, _⟩ <;> try omega
      rw [h3] at hk; simp at hk
    · have := g3 hk4
      have hk2 : k = 0 ∨ k = 1 := by omega
      rcases hk2 with rfl | rfl
      · exact src_le this.2.2.2.1 this.2.2.2.2.2.1 _ _
      · exact src_le this.2.2.2.2.1 this.2.2.2.2.2.2.1 _ _
    · have := g4 hk4
      have hk2 : k = 0 := by omega
      subst hk2
      exact src_le this.2.1 this.2.2.1 _ _
  refine acall_of_body (fn := Tryz.f181) [0, 150] Tryz.func181 rfl rfl (by simp) fun C => ?_
  rw [entry_eq]
  simp only [Tryz.ntmps181, List.length_cons, List.length_nil, Nat.reduceAdd, Nat.reduceSub, List.replicate_succ, List.replicate_zero, List.cons_append, List.nil_append, numL]
  refine AWp.seq ?_
  refine AWp.rgn [] (by simp only [go_sem, seval, wdR_len, wdR_pure, List.length_append, List.take_of_length_le]; rfl) ?_ ?_
  · (first | trivial | (simp; done) | (simp [fsOk, List.forall_mem_append, wdR_rows]; done))
  refine AWp.seq ?_
  refine AWp.rgn [] (by simp only [go_sem, seval, wdR_len, wdR_pure, List.length_append, List.take_of_length_le]; rfl) ?_ ?_
  · (first | trivial | (simp; done) | (simp [fsOk, List.forall_mem_append, wdR_rows]; done))
  refine AWp.seqJ (fun u : Unit => ⟨[.no, .no, .no, .no, .no, .no, .no, .ow 150 2 0 (src e must nx).length, .no, .no, .no, .no, .no, .no, .no, .no, .no, .no, .no, .no, .no, .no, .no, .no, .no, .no, .no, .no, .no, .no, .no, .no, .no, .no, .no, .no, .no, .no, .no, .no, .no, .no, .no, .no, .no, .no, .no, .no, .no, .no, .no, .no, .no, .no, .no, .no, .no, .no, .no, .no, .no, .no, .no, .no, .no, .no, .no, .no, .no, .no, .no, .no, .no, .no, .no, .no, .no, .no, .no, .no, .no, .no, .no, .no, .no, .no, .no, .no, .no, .no, .no, .no, .no, .no, .no, .no, .no], memOf [(0, ⟨3, 1, [[.i .i64 (nx + cnt e)]]⟩), (150, ⟨139, 2, wdR (src e must nx)⟩)], us [150]⟩) (fun u : Unit => True) ?_ (fun u hJ => ?_)
  · refine AWp.seq ?_
    refine AWp.rgn [] (by simp only [go_sem, seval, wdR_len, wdR_pure, List.length_append, List.take_of_length_le]; rfl) ?_ ?_
    · (first | trivial | (simp; done) | (simp [fsOk, List.forall_mem_append, wdR_rows]; done))
    refine AWp.block ?_
    refine AWp.seqJ (fun q : Bool => ⟨[.no, .i .i64 must, .pt 0 1 0 0, .pt 13 4 0 0, .no, .no, .no, .no, .no, .no, .no, .no, .i .i64 e.kind, .b q, .no, .no, .no, .no, .no, .no, .no, .no, .no, .no, .no, .no, .no, .no, .no, .no, .no, .no, .no, .no, .no, .no, .no, .no, .no, .no, .no, .no, .no, .no, .no, .no, .no, .no, .no, .no, .no, .no, .no, .no, .no, .no, .no, .no, .no, .no, .no, .no, .no, .no, .no, .no, .no, .no, .no, .no, .no, .no, .no, .no, .no, .no, .no, .no, .no, .no, .no, .no, .no, .no, .no, .no, .no, .no, .no, .no, .no, .no, .no, .no, .no, .no, .no], memOf [(0, ⟨3, 1, [[.i .i64 nx]]⟩), (13, ⟨30, 4, [eC e]⟩)], us [13]⟩) (fun q : Bool => q = (e.kind == 1 || e.kind == 2)) ?_ (fun q hJ => ?_)
    · refine AWp.seq ?_
      refine AWp.rgn [] (by simp only [go_sem, seval, wdR_len, wdR_pure, List.length_append, List.take_of_length_le]; rfl) ?_ ?_
      · (first | trivial | (simp; done) | (simp [fsOk, List.forall_mem_append, wdR_rows]; done))
      refine AWp.condB (by simp only [go_sem, seval, wdR_len, wdR_pure, List.length_append, List.take_of_length_le]; rfl) (by simp only [go_sem, seval, wdR_len, wdR_pure, List.length_append, List.take_of_length_le]) (fun h13 => ?_) (fun h13 => ?_)
      · refine AWp.skip ?_
        refine Exists.intro ((e.kind == 1 || e.kind == 2)) ⟨?_, ?_⟩
        · rfl
        exact Can.weak (Weak.lit (by simp only [go_sem, seval, wdR_len, wdR_pure, List.length_append, List.take_of_length_le, subM, leV, inns, innr, V.inn, us, true_or, or_true] <;> (simp_all)) (by simp only [go_sem, seval, wdR_len, wdR_pure, List.length_append, List.take_of_length_le, subM, leV, inns, innr, V.inn, us, true_or, or_true]) (by simp only [go_sem, seval, wdR_len, wdR_pure, List.length_append, List.take_of_length_le, subM, leV, inns, innr, V.inn, us, true_or, or_true]))
      · refine AWp.rgn [] (by simp only [go_sem, seval, wdR_len, wdR_pure, List.length_append, List.take_of_length_le]; rfl) ?_ ?_
        · (first | trivial | (simp; done) | (simp [fsOk, List.forall_mem_append, wdR_rows]; done))
        refine Exists.intro ((e.kind == 1 || e.kind == 2)) ⟨?_, ?_⟩
        · rfl
        exact Can.weak (Weak.lit (by simp only [go_sem, seval, wdR_len, wdR_pure, List.length_append, List.take_of_length_le, subM, leV, inns, innr, V.inn, us, true_or, or_true] <;> (simp_all)) (by simp only [go_sem, seval, wdR_len, wdR_pure, List.length_append, List.take_of_length_le, subM, leV, inns, innr, V.inn, us, true_or, or_true]) (by simp only [go_sem, seval, wdR_len, wdR_pure, List.length_append, List.take_of_length_le, subM, leV, inns, innr, V.inn, us, true_or, or_true]))
    refine AWp.condB (by simp only [go_sem, seval, wdR_len, wdR_pure, List.length_append, List.take_of_length_le]; rfl) (by simp only [go_sem, seval, wdR_len, wdR_pure, List.length_append, List.take_of_length_le]) (fun h13 => ?_) (fun h13 => ?_)
    · refine AWp.seq ?_
      refine AWp.rgn [] (by simp only [go_sem, seval, wdR_len, wdR_pure, List.length_append, List.take_of_length_le]; rfl) ?_ ?_
      · (first | trivial | (simp; done) | (simp [fsOk, List.forall_mem_append, wdR_rows]; done))
      refine AWp.seqJ (fun s : Str => ⟨[.no, .no, .pt 0 1 0 0, .pt 13 4 0 0, .no, .no, .no, .no, .s s, .no, .no, .no, .no, .no, .no, .no, .no, .no, .no, .no, .no, .no, .no, .no, .no, .no, .no, .no, .no, .no, .no, .no, .no, .no, .no, .no, .no, .no, .no, .no, .no, .no, .no, .no, .no, .no, .no, .no, .no, .no, .no, .no, .no, .no, .no, .no, .no, .no, .no, .no, .no, .no, .no, .no, .no, .no, .no, .no, .no, .no, .no, .no, .no, .no, .no, .no, .no, .no, .no, .no, .no, .no, .no, .no, .no, .no, .no, .no, .no, .no, .no, .no, .no, .no, .no, .no, .no], memOf [(0, ⟨3, 1, [[.i .i64 nx]]⟩), (13, ⟨30, 4, [eC e]⟩)], us [13]⟩) (fun s : Str => s = if e.kind = 1 then Lib.decDigits e.n.toNat else e.s) ?_ (fun s hJ => ?_)
      · refine AWp.seq ?_
        refine AWp.rgn [] (by simp only [go_sem, seval, wdR_len, wdR_pure, List.length_append, List.take_of_length_le]; rfl) ?_ ?_
        · (first | trivial | (simp; done) | (simp [fsOk, List.forall_mem_append, wdR_rows]; done))
        refine AWp.condB (by simp only [go_sem, seval, wdR_len, wdR_pure, List.length_append, List.take_of_length_le]; rfl) (by simp only [go_sem, seval, wdR_len, wdR_pure, List.length_append, List.take_of_length_le]) (fun h20 => ?_) (fun h20 => ?_)
        · refine AWp.rgn [call0 (itoa_a e.n (by have := (g12 (.inl (by simpa using h20))).2.2 (by simpa using h20); omega) (by have := (g12 (.inl (by simpa using h20))).2.2 (by simpa using h20); omega))] (by simp only [go_sem, seval, wdR_len, wdR_pure, List.length_append, List.take_of_length_le]; rfl) ?_ ?_
          · (first | trivial | (simp; done) | (simp [fsOk, List.forall_mem_append, wdR_rows]; done))
          refine Exists.intro (Lib.itoa e.n) ⟨?_, ?_⟩
          · simp_all [itoa_dec]
          exact Can.weak (Weak.lit (by simp only [go_sem, seval, wdR_len, wdR_pure, List.length_append, List.take_of_length_le, subM, leV, inns, innr, V.inn, us, true_or, or_true] <;> (simp_all)) (by simp only [go_sem, seval, wdR_len, wdR_pure, List.length_append, List.take_of_length_le, subM, leV, inns, innr, V.inn, us, true_or, or_true]) (by simp only [go_sem, seval, wdR_len, wdR_pure, List.length_append, List.take_of_length_le, subM, leV, inns, innr, V.inn, us, true_or, or_true]))
        · refine AWp.skip ?_
          refine Exists.intro (e.s) ⟨?_, ?_⟩
          · simp_all [itoa_dec]
          exact Can.weak (Weak.lit (by simp only [go_sem, seval, wdR_len, wdR_pure, List.length_append, List.take_of_length_le, subM, leV, inns, innr, V.inn, us, true_or, or_true] <;> (simp_all)) (by simp only [go_sem, seval, wdR_len, wdR_pure, List.length_append, List.take_of_length_le, subM, leV, inns, innr, V.inn, us, true_or, or_true]) (by simp only [go_sem, seval, wdR_len, wdR_pure, List.length_append, List.take_of_length_le, subM, leV, inns, innr, V.inn, us, true_or, or_true]))
      refine AWp.seq ?_
      refine AWp.rgnS [29] [bsO En] (by simp only [go_sem, seval, wdR_len, wdR_pure, List.length_append, List.take_of_length_le]; rfl) ?_ ?_
      · (first | trivial | (simp; done) | (simp [fsOk, List.forall_mem_append, wdR_rows]; done))
      refine AWp.rgn [] (by simp only [go_sem, seval, wdR_len, wdR_pure, List.length_append, List.take_of_length_le, wrap64 (show -9223372036854775808 ≤ nx + 1 by omega) (by omega)]; rfl) ?_ ?_
      · (first | trivial | (simp; done) | (simp [fsOk, List.forall_mem_append, wdR_rows]; done))
      refine Exists.intro (()) ⟨?_, ?_⟩
      · trivial
      refine Can.trans (Can.swap 39 150 (by decide) (by decide) (by decide) (by decide) (by simp only [go_sem, seval, wdR_len, wdR_pure, List.length_append, List.take_of_length_le, V.cl]) (by simp only [go_sem, seval, wdR_len, wdR_pure, List.length_append, List.take_of_length_le, V.cl]) (by simp only [go_sem, seval, wdR_len, wdR_pure, List.length_append, List.take_of_length_le, swL_get, sw, swM, rnB] <;> rfl) (by simp only [go_sem, seval, wdR_len, wdR_pure, List.length_append, List.take_of_length_le, swL_get, sw, swM, rnB] <;> rfl) (by simp only [go_sem, seval, wdR_len, wdR_pure, List.length_append, List.take_of_length_le, swL_get, sw, swM, rnB] <;> rfl)) ?_
      exact Can.weak (Weak.lit (by simp only [go_sem, seval, wdR_len, wdR_pure, List.length_append, List.take_of_length_le, subM, leV, inns, innr, V.inn, us, true_or, or_true] <;> (first | (rw [(hT (by simpa using h35)).1, h74]; simp [brk]; (first | done | omega)) | (rw [(hA (by simpa using h82)).1]; simp) | (rw [(g12 (by simp_all)).2.1]; rfl))) (by simp only [go_sem, seval, wdR_len, wdR_pure, List.length_append, List.take_of_length_le, subM, leV, inns, innr, V.inn, us, true_or, or_true]) (by simp only [go_sem, seval, wdR_len, wdR_pure, List.length_append, List.take_of_length_le, subM, leV, inns, innr, V.inn, us, true_or, or_true] <;> (first | (rw [(hT (by simpa using h35)).1, (hT (by simpa using h35)).2, h74]; simp [brk, wdR, rnr_pure, wdR_app]) | (rw [(hA (by simpa using h82)).1, (hA (by simpa using h82)).2]; simp [wdR]) | (rw [(g12 (by simp_all)).2.1, (g12 (by simp_all)).1, hJ]; simp [wdR]))))
    · refine AWp.seq ?_
      refine AWp.rgn [] (by simp only [go_sem, seval, wdR_len, wdR_pure, List.length_append, List.take_of_length_le]; rfl) ?_ ?_
      · (first | trivial | (simp; done) | (simp [fsOk, List.forall_mem_append, wdR_rows]; done))
      refine AWp.condB (by simp only [go_sem, seval, wdR_len, wdR_pure, List.length_append, List.take_of_length_le]; rfl) (by simp only [go_sem, seval, wdR_len, wdR_pure, List.length_append, List.take_of_length_le]) (fun h35 => ?_) (fun h35 => ?_)
      · refine AWp.seq ?_
        refine AWp.rgnD [call0 (tightness_a e.s)] enM (by simp only [go_sem, seval, wdR_len, wdR_pure, List.length_append, List.take_of_length_le]; rfl) (by rfl) ?_ ?_
        · (first | trivial | (simp; done) | (simp [fsOk, List.forall_mem_append, wdR_rows]; done))
        refine AWp.seq ?_
        refine AWp.rgn [] (by simp only [go_sem, seval, wdR_len, wdR_pure, List.length_append, List.take_of_length_le, wrap64 (show -9223372036854775808 ≤ nx + 1 by omega) (by omega)]; rfl) ?_ ?_
        · (first | trivial | (simp; done) | (simp [fsOk, List.forall_mem_append, wdR_rows]; done))
        refine AWp.seq ?_
        refine AWp.rgnD [callN [0] [65] (ih (e.kids.getD 0 E0) (mx2 (tight e.s)) (nx + 1) (g3 (by simpa using h35)).2.2.2.1 (sms_mem a3 _ (getD_mem (by have := g3 (by simpa using h35); omega))) (g3 (by simpa using h35)).2.2.2.2.2.1 (by omega) (by have := g3 (by simpa using h35); omega) (by have := g3 (by simpa using h35); rw [mx2_eq]; omega))] enM (by simp only [go_sem, seval, wdR_len, wdR_pure, List.length_append, List.take_of_length_le, eR_get (show 0 < e.kids.length by have := g3 (by simpa using h35); omega), memEq, clrs]; rfl) (by rfl) ?_ ?_
        · have q := g3 (by simpa using h35); have q1 := hL 0 (by omega) (mx2 (tight e.s)) (nx + 1); have q2 : 0 < e.kids.length := (by omega); simp only [mx2, gt_iff_lt] at q1 ⊢; simp [-List.getD_eq_getElem?_getD, fsOk, q2]; omega
        refine AWp.seq ?_
        refine AWp.rgn [callN [0] [80] (ih (e.kids.getD 1 E0) (tight e.s + 1) (nx + 1 + cnt (e.kids.getD 0 E0)) (g3 (by simpa using h35)).2.2.2.2.1 (sms_mem a3 _ (getD_mem (by have := g3 (by simpa using h35); omega))) (g3 (by simpa using h35)).2.2.2.2.2.2.1 (by have := g3 (by simpa using h35); omega) (by have := g3 (by simpa using h35); omega) (by have := g3 (by simpa using h35); omega))] (by simp only [go_sem, seval, wdR_len, wdR_pure, List.length_append, List.take_of_length_le, eR_get (show 1 < e.kids.length by have := g3 (by simpa using h35); omega), memEq, clrs, wrap64 (show -9223372036854775808 ≤ tight e.s + 1 by have := g3 (by simpa using h35); omega) (by have := g3 (by simpa using h35); omega)]; rfl) ?_ ?_
        · have q := g3 (by simpa using h35); have q1 := hL 0 (by omega) (mx2 (tight e.s)) (nx + 1); have q2 : 1 < e.kids.length := (by omega); have q3 := hL 1 (by omega) (tight e.s + 1) (nx + 1 + cnt (e.kids.getD 0 E0)); simp [-List.getD_eq_getElem?_getD, fsOk, q2, wdR_rows]; omega
        refine AWp.seq ?_
        refine AWp.rgn [] (by simp only [go_sem, seval, wdR_len, wdR_pure, List.length_append, List.take_of_length_le]; rfl) ?_ ?_
        · (first | trivial | (simp; done) | (simp [fsOk, List.forall_mem_append, wdR_rows]; done))
        refine AWp.condB (by simp only [go_sem, seval, wdR_len, wdR_pure, List.length_append, List.take_of_length_le]; rfl) (by simp only [go_sem, seval, wdR_len, wdR_pure, List.length_append, List.take_of_length_le]) (fun h74 => ?_) (fun h74 => ?_)
        · refine AWp.rgn [] (by simp only [go_sem, seval, wdR_len, wdR_pure, List.length_append, List.take_of_length_le]; rfl) ?_ ?_
          · have q := g3 (by simpa using h35); have q1 := hL 0 (by omega) (mx2 (tight e.s)) (nx + 1); have q3 := hL 1 (by omega) (tight e.s + 1) (nx + 1 + cnt (e.kids.getD 0 E0)); simp [-List.getD_eq_getElem?_getD, fsOk, wdR_rows, or_imp, forall_and]; (first | omega)
          refine Exists.intro (()) ⟨?_, ?_⟩
          · trivial
          refine Can.trans (Can.swap 91 150 (by decide) (by decide) (by decide) (by decide) (by simp only [go_sem, seval, wdR_len, wdR_pure, List.length_append, List.take_of_length_le, V.cl]) (by simp only [go_sem, seval, wdR_len, wdR_pure, List.length_append, List.take_of_length_le, V.cl]) (by simp only [go_sem, seval, wdR_len, wdR_pure, List.length_append, List.take_of_length_le, swL_get, sw, swM, rnB] <;> rfl) (by simp only [go_sem, seval, wdR_len, wdR_pure, List.length_append, List.take_of_length_le, swL_get, sw, swM, rnB] <;> rfl) (by simp only [go_sem, seval, wdR_len, wdR_pure, List.length_append, List.take_of_length_le, swL_get, sw, swM, rnB] <;> rfl)) ?_
          exact Can.weak (Weak.lit (by simp only [go_sem, seval, wdR_len, wdR_pure, List.length_append, List.take_of_length_le, subM, leV, inns, innr, V.inn, us, true_or, or_true] <;> (first | (rw [(hT (by simpa using h35)).1, h74]; simp [brk]; (first | done | omega)) | (rw [(hA (by simpa using h82)).1]; simp) | (rw [(g12 (by simp_all)).2.1]; rfl))) (by simp only [go_sem, seval, wdR_len, wdR_pure, List.length_append, List.take_of_length_le, subM, leV, inns, innr, V.inn, us, true_or, or_true]) (by simp only [go_sem, seval, wdR_len, wdR_pure, List.length_append, List.take_of_length_le, subM, leV, inns, innr, V.inn, us, true_or, or_true] <;> (first | (rw [(hT (by simpa using h35)).1, (hT (by simpa using h35)).2, h74]; simp [brk, wdR, rnr_pure, wdR_app]) | (rw [(hA (by simpa using h82)).1, (hA (by simpa using h82)).2]; simp [wdR]) | (rw [(g12 (by simp_all)).2.1, (g12 (by simp_all)).1, hJ]; simp [wdR]))))
        · refine AWp.skip ?_
          refine Exists.intro (()) ⟨?_, ?_⟩
          · trivial
          refine Can.trans (Can.swap 81 150 (by decide) (by decide) (by decide) (by decide) (by simp only [go_sem, seval, wdR_len, wdR_pure, List.length_append, List.take_of_length_le, V.cl]) (by simp only [go_sem, seval, wdR_len, wdR_pure, List.length_append, List.take_of_length_le, V.cl]) (by simp only [go_sem, seval, wdR_len, wdR_pure, List.length_append, List.take_of_length_le, swL_get, sw, swM, rnB] <;> rfl) (by simp only [go_sem, seval, wdR_len, wdR_pure, List.length_append, List.take_of_length_le, swL_get, sw, swM, rnB] <;> rfl) (by simp only [go_sem, seval, wdR_len, wdR_pure, List.length_append, List.take_of_length_le, swL_get, sw, swM, rnB] <;> rfl)) ?_
          exact Can.weak (Weak.lit (by simp only [go_sem, seval, wdR_len, wdR_pure, List.length_append, List.take_of_length_le, subM, leV, inns, innr, V.inn, us, true_or, or_true] <;> (first | (rw [(hT (by simpa using h35)).1, h74]; simp [brk]; (first | done | omega)) | (rw [(hA (by simpa using h82)).1]; simp) | (rw [(g12 (by simp_all)).2.1]; rfl))) (by simp only [go_sem, seval, wdR_len, wdR_pure, List.length_append, List.take_of_length_le, subM, leV, inns, innr, V.inn, us, true_or, or_true]) (by simp only [go_sem, seval, wdR_len, wdR_pure, List.length_append, List.take_of_length_le, subM, leV, inns, innr, V.inn, us, true_or, or_true] <;> (first | (rw [(hT (by simpa using h35)).1, (hT (by simpa using h35)).2, h74]; simp [brk, wdR, rnr_pure, wdR_app]) | (rw [(hA (by simpa using h82)).1, (hA (by simpa using h82)).2]; simp [wdR]) | (rw [(g12 (by simp_all)).2.1, (g12 (by simp_all)).1, hJ]; simp [wdR]))))
      · refine AWp.seq ?_
        refine AWp.rgn [] (by simp only [go_sem, seval, wdR_len, wdR_pure, List.length_append, List.take_of_length_le]; rfl) ?_ ?_
        · (first | trivial | (simp; done) | (simp [fsOk, List.forall_mem_append, wdR_rows]; done))
        refine AWp.condB (by simp only [go_sem, seval, wdR_len, wdR_pure, List.length_append, List.take_of_length_le]; rfl) (by simp only [go_sem, seval, wdR_len, wdR_pure, List.length_append, List.take_of_length_le]) (fun h82 => ?_) (fun h82 => ?_)
        · refine AWp.rgnD [callN [0] [99] (ih (e.kids.getD 0 E0) 4 nx (g4 (by simpa using h82)).2.1 (sms_mem a3 _ (getD_mem (by have := g4 (by simpa using h82); omega))) (g4 (by simpa using h82)).2.2.1 hx (by have := g4 (by simpa using h82); omega) (by decide))] enM (by simp only [go_sem, seval, wdR_len, wdR_pure, List.length_append, List.take_of_length_le, eR_get (show 0 < e.kids.length by have := g4 (by simpa using h82); omega), memEq, clrs]; rfl) (by rfl) ?_ ?_
          · have q := g4 (by simpa using h82); have q1 := hL 0 (by omega) 4 nx; have q2 : 0 < e.kids.length := (by omega); simp [-List.getD_eq_getElem?_getD, fsOk, q2]; omega
          refine Exists.intro (()) ⟨?_, ?_⟩
          · trivial
          refine Can.trans (Can.swap 105 150 (by decide) (by decide) (by decide) (by decide) (by simp only [go_sem, seval, wdR_len, wdR_pure, List.length_append, List.take_of_length_le, V.cl]) (by simp only [go_sem, seval, wdR_len, wdR_pure, List.length_append, List.take_of_length_le, V.cl]) (by simp only [go_sem, seval, wdR_len, wdR_pure, List.length_append, List.take_of_length_le, swL_get, sw, swM, rnB] <;> rfl) (by simp only [go_sem, seval, wdR_len, wdR_pure, List.length_append, List.take_of_length_le, swL_get, sw, swM, rnB] <;> rfl) (by simp only [go_sem, seval, wdR_len, wdR_pure, List.length_append, List.take_of_length_le, swL_get, sw, swM, rnB] <;> rfl)) ?_
          exact Can.weak (Weak.lit (by simp only [go_sem, seval, wdR_len, wdR_pure, List.length_append, List.take_of_length_le, subM, leV, inns, innr, V.inn, us, true_or, or_true] <;> (first | (rw [(hT (by simpa using h35)).1, h74]; simp [brk]; (first | done | omega)) | (rw [(hA (by simpa using h82)).1]; simp) | (rw [(g12 (by simp_all)).2.1]; rfl))) (by simp only [go_sem, seval, wdR_len, wdR_pure, List.length_append, List.take_of_length_le, subM, leV, inns, innr, V.inn, us, true_or, or_true]) (by simp only [go_sem, seval, wdR_len, wdR_pure, List.length_append, List.take_of_length_le, subM, leV, inns, innr, V.inn, us, true_or, or_true] <;> (first | (rw [(hT (by simpa using h35)).1, (hT (by simpa using h35)).2, h74]; simp [brk, wdR, rnr_pure, wdR_app]) | (rw [(hA (by simpa using h82)).1, (hA (by simpa using h82)).2]; simp [wdR]) | (rw [(g12 (by simp_all)).2.1, (g12 (by simp_all)).1, hJ]; simp [wdR]))))
        · simp_all
  refine AWp.seq ?_
  refine AWp.rgn [] (by simp only [go_sem, seval, wdR_len, wdR_pure, List.length_append, List.take_of_length_le]; rfl) ?_ ?_
  · (first | trivial | (simp; done) | (simp [fsOk, List.forall_mem_append, wdR_rows]; done))
  refine AWp.ret (And.intro (.inr rfl) ?_)
  exact Out.mem' (by simp only [Tryz.results181]; rfl) (by simp only [resCs, resC, go_sem, seval, wdR_len, wdR_pure, List.length_append, List.take_of_length_le]) (by simp only [resV, rns, rn, go_sem, seval, wdR_len, wdR_pure, List.length_append, List.take_of_length_le] <;> (simp_all)) (by simp) rfl (by decide) (by simp only [go_sem, seval, wdR_len, wdR_pure, List.length_append, List.take_of_length_le]) (by simp only [clrs, go_sem, seval, wdR_len, wdR_pure, List.length_append, List.take_of_length_le]) (by simp only [memEq, go_sem, seval, wdR_len, wdR_pure, List.length_append, List.take_of_length_le] <;> (simp))
end
end Go.Proofs.YteihfmnmpdbkiaaGreatDoor
