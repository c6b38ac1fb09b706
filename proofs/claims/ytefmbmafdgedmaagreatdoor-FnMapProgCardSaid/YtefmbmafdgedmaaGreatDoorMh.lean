/- Without types. Conditions: none. -/
import Derived.Test.YtefmbmafdgedmaaGreatDoorMe
import Derived.Test.YtefmbmafdgedmaaGreatDoorMc
import Derived.Test.YtefmbmafdgedmaaGreatDoorMg
import Derived.Test.YtefmbmafdgedmaaGreatDoorMf
set_option linter.unusedVariables false
set_option linter.unusedSimpArgs false
namespace Go.Proofs.YtefmbmafdgedmaaGreatDoor
section
set_option maxRecDepth 100000
set_option maxHeartbeats 4000000
theorem ti_ (a b : List E) : eR (a ++ b) = eR a ++ eR b := by simp [j8_]
end
section
set_option maxRecDepth 100000
set_option maxHeartbeats 4000000
theorem il_ (e : E) (hs : sm e = true) : ACall En 99 [.ag (eC e)] [] [.b (gz_ e)] [] := by
 refine ap_ (fn := Tryz.f99) [] Tryz.func99 rfl rfl (by simp) fun C => ?_
 rw [a0_]
 simp only [Tryz.ntmps99, List.length_cons, List.length_nil, Nat.reduceAdd, Nat.reduceSub, List.replicate_succ, List.replicate_zero, List.cons_append, List.nil_append, bq_]
 refine .seq (.rgn [] (by simp only [go_sem, seval]; rfl) ?_ ?_)
 ·first | trivial | simp
 refine .seq (.rgn [a5_ (sh_ e E0 hs rfl)] (by simp only [go_sem, seval, E0, E.kind, E.n, E.s, E.kids, eR]; rfl) ?_ ?_)
 ·first | trivial | simp
 refine .ret ⟨.inr rfl, ?_⟩
 exact Out.plain (by simp only [Tryz.results99]; rfl) (by simp only [a1_, bc_, go_sem, seval] <;> (split <;> rfl)) (by simp only [ba_, go_sem, seval] <;> (rfl)) (by simp only [go_sem, seval])
theorem hp_ (e : E) (hs : sm e = true) : ACall En 115 [.ag (eC e)] [] [.b (gz_ e)] [] := by
 refine ap_ (fn := Tryz.f115) [] Tryz.func115 rfl rfl (by simp) fun C => ?_
 rw [a0_]
 simp only [Tryz.ntmps115, List.length_cons, List.length_nil, Nat.reduceAdd, Nat.reduceSub, List.replicate_succ, List.replicate_zero, List.cons_append, List.nil_append, bq_]
 refine .seq (.rgn [] (by simp only [go_sem, seval]; rfl) ?_ ?_)
 ·first | trivial | simp
 refine .seq (.rgn [a5_ (qv_ e E0 hs rfl)] (by simp only [go_sem, seval, E0, E.kind, E.n, E.s, E.kids, eR]; rfl) ?_ ?_)
 ·first | trivial | simp
 refine .ret ⟨.inr rfl, ?_⟩
 exact Out.plain (by simp only [Tryz.results115]; rfl) (by simp only [a1_, bc_, go_sem, seval] <;> (split <;> rfl)) (by simp only [ba_, go_sem, seval] <;> (rfl)) (by simp only [go_sem, seval])
end
section
set_option maxRecDepth 100000
set_option maxHeartbeats 4000000
theorem vb_ (b : Str) : ACall En 38 [.sl false (byR b)] [] [.pt 0 2 0 0] [⟨113, 2, [[.sl false (byR (b.take 2000)), .i .i64 0]]⟩] := by
 refine ap_ (fn := Tryz.f38) [20] Tryz.func38 rfl rfl (by simp) fun C => ?_
 rw [a0_]
 simp only [Tryz.ntmps38, List.length_cons, List.length_nil, Nat.reduceAdd, Nat.reduceSub, List.replicate_succ, List.replicate_zero, List.cons_append, List.nil_append, bq_]
 refine .seq (.rgn [] (by simp only [go_sem, seval]; rfl) ?_ ?_)
 ·(first | trivial | decide | (simp at h5; simp; omega) | simp)
 refine .seq (.seq (.rgn [] (by simp only [go_sem, seval]; rfl) ?_ ?_))
 ·(first | trivial | decide | (simp at h5; simp; omega) | simp)
 refine .condB (by simp only [go_sem, seval]; rfl) (by simp only [go_sem, seval]) (fun h5 => ?_) (fun h5 => ?_)
 ·refine .rgn [] (by simp only [go_sem, seval]; rfl) ?_ ?_
  ·(first | trivial | decide | (simp at h5; simp; omega) | simp)
  refine .seq (.rgn [] (by simp only [go_sem, seval]; rfl) ?_ ?_)
  ·(first | trivial | decide | (simp at h5; simp; omega) | simp)
  refine .ret ⟨.inr rfl, ?_⟩
  exact Out.mem' (by simp only [Tryz.results38]; rfl) (by simp only [a1_, bc_, go_sem, seval]) (by simp only [ba_, rns, rn, go_sem, seval] <;> (simp_all)) (by simp) rfl (by decide) (by simp only [go_sem, seval]) (by simp only [ar_, go_sem, seval]) (by simp only [al_, go_sem, seval] <;> (rfl))
 ·refine .skip (.seq (.rgn [] (by simp only [go_sem, seval]; rfl) ?_ ?_))
  ·(first | trivial | decide | (simp at h5; simp; omega) | simp)
  refine .ret ⟨.inr rfl, ?_⟩
  exact Out.mem' (by simp only [Tryz.results38]; rfl) (by simp only [a1_, bc_, go_sem, seval]) (by simp only [ba_, rns, rn, go_sem, seval] <;> (simp_all)) (by simp) rfl (by decide) (by simp only [go_sem, seval]) (by simp only [ar_, go_sem, seval]) (by simp only [al_, go_sem, seval] <;> (simp at h5; rw [List.take_of_length_le (show b.length ≤ 2000 by omega)]))
abbrev wr (n : Int) : Int := IntKind.i64.wrap n
def nd_ (b : Str) (k : Int) : Int := wr (wr (wr (wr ((b.getD (k.tmod b.length).toNat 0).toNat * 131) + wr ((b.getD ((k * 7 + 3).tmod b.length).toNat 0).toNat * 1117)) + wr (k * 29)) + wr (wr (k.tdiv b.length) * 53))
def mixX (b : Str) (k : Int) : Int := IntKind.i64.wrap (BitVec.ofInt IntKind.i64.bits (nd_ b k) ^^^ BitVec.ofInt IntKind.i64.bits (IntKind.i64.wrap ((nd_ b k).tdiv 64))).toNat
def b9_ (b : Str) (p n : Int) : Int :=
 if n < 1 ∨ b.length = 0 then 0 else if p < b.length then ((b.getD p.toNat 0).toNat : Int).tmod n else (mixX b p).tmod n
theorem tr_ {k : Int} {n : Nat} (h : 0 ≤ k) (hn : 0 < n) : (k.tmod n).toNat < n := by
 have := Int.tmod_lt_of_pos k (show (0 : Int) < n by omega)
 have := Int.tmod_nonneg (n : Int) h
 omega
theorem ac1_ (c : UInt8) : IntKind.i64.wrap (c.toNat : Int) = c.toNat := by
 have := UInt8.toNat_lt c
 exact a7_ (by omega) (by omega)
theorem ec_ (b : Str) (p n : Int) (hb : b.length ≤ 2000) (hp : 0 ≤ p) (hp2 : p < 1099511627776) :
  ACall En 84 [.pt 0 2 0 0, .i .i64 n] [⟨113, 2, [[.sl false (byR b), .i .i64 p]]⟩] [.i .i64 (b9_ b p n)] [⟨113, 2, [[.sl false (byR b), .i .i64 (p + 1)]]⟩] := by
 refine ap_ (fn := Tryz.f84) [0] Tryz.func84 rfl rfl (by simp) fun C => ?_
 rw [a0_]
 simp only [Tryz.ntmps84, List.length_cons, List.length_nil, Nat.reduceAdd, Nat.reduceSub, List.replicate_succ, List.replicate_zero, List.cons_append, List.nil_append, bq_]
 refine .seq (.rgn [] (by simp only [go_sem, seval]; rfl) ?_ ?_)
 ·(first | trivial | (simp; done) | (simp at h24; simp; omega) | (simp at h24 h36; refine ⟨⟨hp, by omega⟩, by omega⟩) | (have hb0 : (0 : Int) < b.length := (by cases b with | nil => simp at h24 | cons c b => simp); have q1 := Int.tmod_lt_of_pos p hb0; have q2 := Int.tmod_nonneg (b.length : Int) hp; have q3 := Int.tmod_lt_of_pos (p * 7 + 3) hb0; have q4 := Int.tmod_nonneg (b.length : Int) (show 0 ≤ p * 7 + 3 by omega); refine ⟨⟨⟨⟨by omega, q2, q1⟩, by omega⟩, q4, q3⟩, by omega⟩))
 refine .seq (.rgn [] (by simp only [go_sem, seval, a7_ (show -9223372036854775808 ≤ p + 1 by omega) (by omega)]; rfl) ?_ ?_)
 ·(first | trivial | (simp; done) | (simp at h24; simp; omega) | (simp at h24 h36; refine ⟨⟨hp, by omega⟩, by omega⟩) | (have hb0 : (0 : Int) < b.length := (by cases b with | nil => simp at h24 | cons c b => simp); have q1 := Int.tmod_lt_of_pos p hb0; have q2 := Int.tmod_nonneg (b.length : Int) hp; have q3 := Int.tmod_lt_of_pos (p * 7 + 3) hb0; have q4 := Int.tmod_nonneg (b.length : Int) (show 0 ≤ p * 7 + 3 by omega); refine ⟨⟨⟨⟨by omega, q2, q1⟩, by omega⟩, q4, q3⟩, by omega⟩))
 refine .seq (.seq (.rgn [] (by simp only [go_sem, seval]; rfl) ?_ ?_))
 ·(first | trivial | (simp; done) | (simp at h24; simp; omega) | (simp at h24 h36; refine ⟨⟨hp, by omega⟩, by omega⟩) | (have hb0 : (0 : Int) < b.length := (by cases b with | nil => simp at h24 | cons c b => simp); have q1 := Int.tmod_lt_of_pos p hb0; have q2 := Int.tmod_nonneg (b.length : Int) hp; have q3 := Int.tmod_lt_of_pos (p * 7 + 3) hb0; have q4 := Int.tmod_nonneg (b.length : Int) (show 0 ≤ p * 7 + 3 by omega); refine ⟨⟨⟨⟨by omega, q2, q1⟩, by omega⟩, q4, q3⟩, by omega⟩))
 refine .condB (by simp only [go_sem, seval]; rfl) (by simp only [go_sem, seval]) (fun h24 => ?_) (fun h24 => ?_)
 ·refine .seq (.rgn [] (by simp only [go_sem, seval]; rfl) ?_ ?_)
  ·(first | trivial | (simp; done) | (simp at h24; simp; omega) | (simp at h24 h36; refine ⟨⟨hp, by omega⟩, by omega⟩) | (have hb0 : (0 : Int) < b.length := (by cases b with | nil => simp at h24 | cons c b => simp); have q1 := Int.tmod_lt_of_pos p hb0; have q2 := Int.tmod_nonneg (b.length : Int) hp; have q3 := Int.tmod_lt_of_pos (p * 7 + 3) hb0; have q4 := Int.tmod_nonneg (b.length : Int) (show 0 ≤ p * 7 + 3 by omega); refine ⟨⟨⟨⟨by omega, q2, q1⟩, by omega⟩, q4, q3⟩, by omega⟩))
  refine .ret ⟨.inr rfl, ?_⟩
  exact Out.mem' (by simp only [Tryz.results84]; rfl) (by simp only [a1_, bc_, go_sem, seval]) (by simp only [ba_, rns, rn, go_sem, seval] <;> (have g : n < 1 ∨ b.length = 0 := (by simp at h24; simpa using h24); rw [b9_, if_pos g])) (by simp) rfl (by decide) (by simp only [go_sem, seval]) (by simp only [ar_, go_sem, seval]) (by simp only [al_, go_sem, seval] <;> (simp))
 ·refine .skip (.seq (.rgn [] (by simp only [go_sem, seval, a7_ (show -9223372036854775808 ≤ p by omega) (by omega), Int.add_sub_cancel]; rfl) ?_ ?_))
  ·(first | trivial | (simp; done) | (simp at h24; simp; omega) | (simp at h24 h36; refine ⟨⟨hp, by omega⟩, by omega⟩) | (have hb0 : (0 : Int) < b.length := (by cases b with | nil => simp at h24 | cons c b => simp); have q1 := Int.tmod_lt_of_pos p hb0; have q2 := Int.tmod_nonneg (b.length : Int) hp; have q3 := Int.tmod_lt_of_pos (p * 7 + 3) hb0; have q4 := Int.tmod_nonneg (b.length : Int) (show 0 ≤ p * 7 + 3 by omega); refine ⟨⟨⟨⟨by omega, q2, q1⟩, by omega⟩, q4, q3⟩, by omega⟩))
  refine .seq (.seq (.rgn [] (by simp only [go_sem, seval]; rfl) ?_ ?_))
  ·(first | trivial | (simp; done) | (simp at h24; simp; omega) | (simp at h24 h36; refine ⟨⟨hp, by omega⟩, by omega⟩) | (have hb0 : (0 : Int) < b.length := (by cases b with | nil => simp at h24 | cons c b => simp); have q1 := Int.tmod_lt_of_pos p hb0; have q2 := Int.tmod_nonneg (b.length : Int) hp; have q3 := Int.tmod_lt_of_pos (p * 7 + 3) hb0; have q4 := Int.tmod_nonneg (b.length : Int) (show 0 ≤ p * 7 + 3 by omega); refine ⟨⟨⟨⟨by omega, q2, q1⟩, by omega⟩, q4, q3⟩, by omega⟩))
  refine .condB (by simp only [go_sem, seval]; rfl) (by simp only [go_sem, seval]) (fun h36 => ?_) (fun h36 => ?_)
  ·refine .seq (.rgn [] (by simp only [go_sem, seval, pm_ (show p.toNat < b.length by simp at h36; omega), ac1_]; rfl) ?_ ?_)
   ·(first | trivial | (simp; done) | (simp at h24; simp; omega) | (simp at h24 h36; refine ⟨⟨hp, by omega⟩, by omega⟩) | (have hb0 : (0 : Int) < b.length := (by cases b with | nil => simp at h24 | cons c b => simp); have q1 := Int.tmod_lt_of_pos p hb0; have q2 := Int.tmod_nonneg (b.length : Int) hp; have q3 := Int.tmod_lt_of_pos (p * 7 + 3) hb0; have q4 := Int.tmod_nonneg (b.length : Int) (show 0 ≤ p * 7 + 3 by omega); refine ⟨⟨⟨⟨by omega, q2, q1⟩, by omega⟩, q4, q3⟩, by omega⟩))
   refine .ret ⟨.inr rfl, ?_⟩
   exact Out.mem' (by simp only [Tryz.results84]; rfl) (by simp only [a1_, bc_, go_sem, seval]) (by simp only [ba_, rns, rn, go_sem, seval] <;> (have g : ¬ (n < 1 ∨ b.length = 0) := (by simp at h24; simp; omega); rw [b9_, if_neg g, if_pos (by simpa using h36)])) (by simp) rfl (by decide) (by simp only [go_sem, seval]) (by simp only [ar_, go_sem, seval]) (by simp only [al_, go_sem, seval] <;> (simp))
  ·refine .skip (.seq (.rgnD [] enM (by simp only [go_sem, seval, a7_ (show -9223372036854775808 ≤ p * 7 by omega) (by omega), a7_ (show -9223372036854775808 ≤ p * 7 + 3 by omega) (by omega), pm_ (tr_ (k := p) hp (show 0 < b.length by cases b <;> simp_all)), pm_ (tr_ (k := p * 7 + 3) (by omega) (show 0 < b.length by cases b <;> simp_all)), ac1_]; rfl) (by rfl) ?_ ?_))
   ·(first | trivial | (simp; done) | (simp at h24; simp; omega) | (simp at h24 h36; refine ⟨⟨hp, by omega⟩, by omega⟩) | (have hb0 : (0 : Int) < b.length := (by cases b with | nil => simp at h24 | cons c b => simp); have q1 := Int.tmod_lt_of_pos p hb0; have q2 := Int.tmod_nonneg (b.length : Int) hp; have q3 := Int.tmod_lt_of_pos (p * 7 + 3) hb0; have q4 := Int.tmod_nonneg (b.length : Int) (show 0 ≤ p * 7 + 3 by omega); refine ⟨⟨⟨⟨by omega, q2, q1⟩, by omega⟩, q4, q3⟩, by omega⟩))
   refine .seq (.rgn [] (by simp only [go_sem, seval]; rfl) ?_ ?_)
   ·(first | trivial | (simp; done) | (simp at h24; simp; omega) | (simp at h24 h36; refine ⟨⟨hp, by omega⟩, by omega⟩) | (have hb0 : (0 : Int) < b.length := (by cases b with | nil => simp at h24 | cons c b => simp); have q1 := Int.tmod_lt_of_pos p hb0; have q2 := Int.tmod_nonneg (b.length : Int) hp; have q3 := Int.tmod_lt_of_pos (p * 7 + 3) hb0; have q4 := Int.tmod_nonneg (b.length : Int) (show 0 ≤ p * 7 + 3 by omega); refine ⟨⟨⟨⟨by omega, q2, q1⟩, by omega⟩, q4, q3⟩, by omega⟩))
   refine .seq (.rgn [] (by simp only [go_sem, seval]; rfl) ?_ ?_)
   ·(first | trivial | (simp; done) | (simp at h24; simp; omega) | (simp at h24 h36; refine ⟨⟨hp, by omega⟩, by omega⟩) | (have hb0 : (0 : Int) < b.length := (by cases b with | nil => simp at h24 | cons c b => simp); have q1 := Int.tmod_lt_of_pos p hb0; have q2 := Int.tmod_nonneg (b.length : Int) hp; have q3 := Int.tmod_lt_of_pos (p * 7 + 3) hb0; have q4 := Int.tmod_nonneg (b.length : Int) (show 0 ≤ p * 7 + 3 by omega); refine ⟨⟨⟨⟨by omega, q2, q1⟩, by omega⟩, q4, q3⟩, by omega⟩))
   refine .ret ⟨.inr rfl, ?_⟩
   exact Out.mem' (by simp only [Tryz.results84]; rfl) (by simp only [a1_, bc_, go_sem, seval]) (by simp only [ba_, rns, rn, go_sem, seval] <;> (have g : ¬ (n < 1 ∨ b.length = 0) := (by simp at h24; simp; omega); rw [b9_, if_neg g, if_neg (by simpa using h36)]; rfl)) (by simp) rfl (by decide) (by simp only [go_sem, seval]) (by simp only [ar_, go_sem, seval]) (by simp only [al_, go_sem, seval] <;> (simp))
end
section
set_option maxRecDepth 100000
set_option maxHeartbeats 4000000
theorem abp_ (b : Str) {p : Int} (hp : 0 ≤ p) (hp2 : p < 1099511627776) : 0 ≤ nd_ b p ∧ nd_ b p < 4611686018427387904 := by
 have c1 := UInt8.toNat_lt (b.getD (p.tmod b.length).toNat 0)
 have c2 := UInt8.toNat_lt (b.getD ((p * 7 + 3).tmod b.length).toNat 0)
 have d1 : 0 ≤ p.tdiv b.length := Int.tdiv_nonneg hp (Int.natCast_nonneg _)
 have d2 : p.tdiv b.length ≤ p := by rw [Int.tdiv_eq_ediv_of_nonneg hp]; exact Int.ediv_le_self _ hp
 unfold nd_ wr
 generalize (b.getD (p.tmod b.length).toNat 0).toNat = x at *
 generalize (b.getD ((p * 7 + 3).tmod b.length).toNat 0).toNat = y at *
 generalize p.tdiv b.length = q at *
 rw [a7_ (n := (x : Int) * 131) (by omega) (by omega), a7_ (n := (y : Int) * 1117) (by omega) (by omega), a7_ (n := p * 29) (by omega) (by omega), a7_ (n := q) (by omega) (by omega),
  a7_ (n := q * 53) (by omega) (by omega), a7_ (n := (x : Int) * 131 + y * 1117) (by omega) (by omega), a7_ (n := (x : Int) * 131 + y * 1117 + p * 29) (by omega) (by omega), a7_ (by omega) (by omega)]
 omega
theorem yy_ (b : Str) {p : Int} (hp : 0 ≤ p) (hp2 : p < 1099511627776) : 0 ≤ mixX b p := by
 obtain ⟨h1, h2⟩ := abp_ b hp hp2
 have d1 : 0 ≤ (nd_ b p).tdiv 64 := Int.tdiv_nonneg h1 (by decide)
 have d2 : (nd_ b p).tdiv 64 ≤ nd_ b p := by rw [Int.tdiv_eq_ediv_of_nonneg h1]; exact Int.ediv_le_self _ h1
 unfold mixX
 generalize (nd_ b p).tdiv 64 = q at *
 generalize nd_ b p = m at *
 rw [a7_ (n := q) (by omega) (by omega)]
 have e1 : (BitVec.ofInt IntKind.i64.bits m).toNat < 2 ^ 62 := by
  rw [BitVec.toNat_ofInt]
  have : m % ((2 ^ IntKind.i64.bits : Nat) : Int) = m := Int.emod_eq_of_lt h1 (by show m < 18446744073709551616; omega)
  rw [this]; omega
 have e2 : (BitVec.ofInt IntKind.i64.bits q).toNat < 2 ^ 62 := by
  rw [BitVec.toNat_ofInt]
  have : q % ((2 ^ IntKind.i64.bits : Nat) : Int) = q := Int.emod_eq_of_lt d1 (by show q < 18446744073709551616; omega)
  rw [this]; omega
 have e3 := Nat.xor_lt_two_pow e1 e2
 rw [← BitVec.toNat_xor] at e3
 rw [a7_ (by omega) (by omega)]
 omega
theorem fj_ (b : Str) {p n : Int} (hp : 0 ≤ p) (hp2 : p < 1099511627776) (hn : 1 ≤ n) : 0 ≤ b9_ b p n ∧ b9_ b p n < n := by
 unfold b9_
 split
 ·omega
 ·split
  ·exact ⟨Int.tmod_nonneg _ (by omega), Int.tmod_lt_of_pos _ (by omega)⟩
  ·exact ⟨Int.tmod_nonneg _ (yy_ b hp hp2), Int.tmod_lt_of_pos _ (by omega)⟩
def inR (l : List Int) : List (List V) := l.map fun n => [.i .i64 n]
theorem as_ (l : List Int) : (inR l).length = l.length := by simp [inR]
theorem e8_ {l : List Int} {k : Nat} (h : k < l.length) : (inR l).getD k [] = [.i .i64 (l.getD k 0)] := by
 simp [inR, List.getD_eq_getElem?_getD, List.getElem?_eq_getElem h]
theorem ag_ : ∀ l : List Int, b4_ (inR l) = true
 | [] => rfl
 | n :: l => by simp only [inR, List.map_cons, b4_, cr_, V.pure, Bool.true_and]; exact ag_ l
theorem av_ : inR [] = [] := rfl
theorem aq_ (n : Int) (l : List Int) : inR (n :: l) = [.i .i64 n] :: inR l := rfl
theorem ak_ : b1_ [] = [] := rfl
theorem ah_ (s : Str) (l : List Str) : b1_ (s :: l) = [.s s] :: b1_ l := rfl
def q7_ (b : Str) (p : Int) (l : List Int) : Int := l.getD (b9_ b p l.length).toNat 0
def ofI (b : Str) (p : Int) (l : List Str) : Str := l.getD (b9_ b p l.length).toNat []
theorem ok_ (b : Str) (p : Int) (l : List Int) (hl : 0 < l.length) (hb : b.length ≤ 2000) (hp : 0 ≤ p) (hp2 : p < 1099511627776) :
  ACall En 137 [.pt 0 2 0 0, .sl false (inR l)] [⟨113, 2, [[.sl false (byR b), .i .i64 p]]⟩] [.i .i64 (q7_ b p l)] [⟨113, 2, [[.sl false (byR b), .i .i64 (p + 1)]]⟩] := by
 have hr := fj_ b hp hp2 (show 1 ≤ (l.length : Int) by omega)
 refine ap_ (fn := Tryz.f137) [0] Tryz.func137 rfl rfl (by simp) fun C => ?_
 rw [a0_]
 simp only [Tryz.ntmps137, List.length_cons, List.length_nil, Nat.reduceAdd, Nat.reduceSub, List.replicate_succ, List.replicate_zero, List.cons_append, List.nil_append, bq_]
 refine .seq (.rgn [] (by simp only [go_sem, seval]; rfl) ?_ ?_)
 ·first | trivial | simp
 refine .seq (.rgn [bv_ [0] [] (ec_ b p l.length hb hp hp2)] (by simp only [go_sem, seval, al_, ar_, as_, ag_, e8_ (show (b9_ b p l.length).toNat < l.length by omega)]; rfl) ?_ ?_)
 ·simp; omega
 refine .ret ⟨.inr rfl, ?_⟩
 exact Out.mem' (by simp only [Tryz.results137]; rfl) (by simp only [a1_, bc_, go_sem, seval]) (by simp only [ba_, rns, rn, go_sem, seval] <;> (rfl)) (by simp) rfl (by decide) (by simp only [go_sem, seval]) (by simp only [ar_, go_sem, seval]) (by simp only [al_, go_sem, seval] <;> (simp))
theorem pa_ (b : Str) (p : Int) (l : List Str) (hl : 0 < l.length) (hb : b.length ≤ 2000) (hp : 0 ≤ p) (hp2 : p < 1099511627776) :
  ACall En 138 [.pt 0 2 0 0, .sl false (b1_ l)] [⟨113, 2, [[.sl false (byR b), .i .i64 p]]⟩] [.s (ofI b p l)] [⟨113, 2, [[.sl false (byR b), .i .i64 (p + 1)]]⟩] := by
 have hr := fj_ b hp hp2 (show 1 ≤ (l.length : Int) by omega)
 refine ap_ (fn := Tryz.f138) [0] Tryz.func138 rfl rfl (by simp) fun C => ?_
 rw [a0_]
 simp only [Tryz.ntmps138, List.length_cons, List.length_nil, Nat.reduceAdd, Nat.reduceSub, List.replicate_succ, List.replicate_zero, List.cons_append, List.nil_append, bq_]
 refine .seq (.rgn [] (by simp only [go_sem, seval]; rfl) ?_ ?_)
 ·first | trivial | simp
 refine .seq (.rgn [bv_ [0] [] (ec_ b p l.length hb hp hp2)] (by simp only [go_sem, seval, al_, ar_, ac_, gh_ (show (b9_ b p l.length).toNat < l.length by omega)]; rfl) ?_ ?_)
 ·simp; omega
 refine .ret ⟨.inr rfl, ?_⟩
 exact Out.mem' (by simp only [Tryz.results138]; rfl) (by simp only [a1_, bc_, go_sem, seval]) (by simp only [ba_, rns, rn, go_sem, seval] <;> (rfl)) (by simp) rfl (by decide) (by simp only [go_sem, seval]) (by simp only [ar_, go_sem, seval]) (by simp only [al_, go_sem, seval] <;> (simp))
end
section
set_option maxRecDepth 100000
set_option maxHeartbeats 4000000
theorem zz_ : ACall En 218 [.sl false []] [] [.ow 0 4 0 0] [⟨48, 4, []⟩] := by
 refine ap_ (fn := Tryz.f218) [17] Tryz.func218 rfl rfl (by simp) fun C => ?_
 rw [a0_]
 simp only [Tryz.ntmps218, List.length_cons, List.length_nil, Nat.reduceAdd, Nat.reduceSub, List.replicate_succ, List.replicate_zero, List.cons_append, List.nil_append, bq_]
 refine .seq (.rgn [] (by simp only [go_sem, seval]; rfl) ?_ ?_)
 ·first | trivial | simp
 refine .seq (.seq (.rgnS [4] [nilO En] (by simp only [go_sem, seval]; rfl) ?_ ?_))
 ·first | trivial | simp
 refine .condQ (by simp only [go_sem, seval] <;> rfl) (by simp only [go_sem, seval]) ?_ ?_
 ·refine .seq (.rgn [] (by simp only [go_sem, seval]; rfl) ?_ ?_)
  ·first | trivial | simp
  refine .can (Can.ownSlot 2 17 48 4 (by simp only [go_sem, seval] <;> rfl) (by simp only [go_sem, seval]) (by simp only [go_sem, seval] <;> rfl)) ?_
  refine .ret ⟨.inr rfl, ?_⟩
  exact Out.mem' (by simp only [Tryz.results218]; rfl) (by simp only [a1_, bc_, go_sem, seval]) (by simp only [ba_, rns, rn, go_sem, seval] <;> (simp)) (by simp) rfl (by decide) (by simp only [go_sem, seval]) (by simp only [ar_, go_sem, seval]) (by simp only [al_, go_sem, seval] <;> (simp))
 ·refine .skip (.seq (.rgn [] (by simp only [go_sem, seval]; rfl) ?_ ?_))
  ·first | trivial | simp
  refine .ret ⟨.inr rfl, ?_⟩
  exact Out.mem' (by simp only [Tryz.results218]; rfl) (by simp only [a1_, bc_, go_sem, seval]) (by simp only [ba_, rns, rn, go_sem, seval] <;> (simp)) (by simp) rfl (by decide) (by simp only [go_sem, seval]) (by simp only [ar_, go_sem, seval]) (by simp only [al_, go_sem, seval] <;> (simp))
theorem zm_ (e : E) (r : List E) (hl : r.length < 1099511627776) : ACall En 218 [.sl false (eR (e :: r))] [] [.ow 0 4 0 (r.length + 1)] [⟨48, 4, eR (e :: r)⟩] := by
 refine ap_ (fn := Tryz.f218) [17] Tryz.func218 rfl rfl (by simp) fun C => ?_
 rw [a0_]
 simp only [Tryz.ntmps218, List.length_cons, List.length_nil, Nat.reduceAdd, Nat.reduceSub, List.replicate_succ, List.replicate_zero, List.cons_append, List.nil_append, bq_]
 refine .seq (.rgn [] (by simp only [go_sem, seval, eR]; rfl) ?_ ?_)
 ·first | trivial | simp
 refine .seq (.seq (.rgnS [4] [nilO En] (by simp only [go_sem, seval, eR]; rfl) ?_ ?_))
 ·first | trivial | simp
 refine .condB (by simp only [go_sem, seval]; rfl) (by simp only [go_sem, seval]) (fun h4 => ?_) (fun h4 => ?_)
 ·exact absurd h4 (by simp)
 ·refine .skip (.seq (.rgn [] (by simp only [go_sem, seval, eR]; rfl) ?_ ?_))
  ·have := js_ r; simp [j8_, eg_]; omega
  refine .ret ⟨.inr rfl, ?_⟩
  exact Out.mem' (by simp only [Tryz.results218]; rfl) (by simp only [a1_, bc_, go_sem, seval]) (by simp only [ba_, rns, rn, go_sem, seval] <;> (simp)) (by simp) rfl (by decide) (by simp only [go_sem, seval]) (by simp only [ar_, go_sem, seval]) (by simp only [al_, go_sem, seval] <;> (simp [eR, cv_, go_, eg_]))
theorem abm_ (l : List E) (hl : l.length < 1099511627776) : ACall En 218 [.sl false (eR l)] [] [.ow 0 4 0 l.length] [⟨48, 4, eR l⟩] := by
 cases l with
 | nil => simp only [eR]; exact zz_
 | cons e r => exact zm_ e r (by simp at hl; omega)
theorem ad4_ (l : List E) (hl : l.length < 1099511627776) : ACall En 217 [.ow 0 4 0 l.length] [⟨48, 4, eR l⟩] [.ow 0 4 0 l.length] [⟨48, 4, eR l⟩] := by
 refine ap_ (fn := Tryz.f217) [0] Tryz.func217 rfl rfl (by simp) fun C => ?_
 rw [a0_]
 simp only [Tryz.ntmps217, List.length_cons, List.length_nil, Nat.reduceAdd, Nat.reduceSub, List.replicate_succ, List.replicate_zero, List.cons_append, List.nil_append, bq_]
 refine .seq (.rgn [] (by simp only [go_sem, seval]; rfl) ?_ ?_)
 ·first | trivial | simp
 refine .seq (.rgn [] (by simp only [go_sem, seval]; rfl) ?_ ?_)
 ·first | trivial | simp
 refine .ret ⟨.inr rfl, ?_⟩
 exact Out.mem' (by simp only [Tryz.results217]; rfl) (by simp only [a1_, bc_, go_sem, seval]) (by simp only [ba_, rns, rn, go_sem, seval] <;> (simp)) (by simp) rfl (by decide) (by simp only [go_sem, seval]) (by simp only [ar_, go_sem, seval]) (by simp only [al_, go_sem, seval] <;> (simp))
theorem abq_ (l : List E) (hl : l.length < 1099511627776) : ACall En 192 [.sl false (eR l)] [] [.ow 0 4 0 l.length] [⟨48, 4, eR l⟩] := by
 refine ap_ (fn := Tryz.f192) [14] Tryz.func192 rfl rfl (by simp) fun C => ?_
 rw [a0_]
 simp only [Tryz.ntmps192, List.length_cons, List.length_nil, Nat.reduceAdd, Nat.reduceSub, List.replicate_succ, List.replicate_zero, List.cons_append, List.nil_append, bq_]
 refine .seq (.rgn [] (by simp only [go_sem, seval]; rfl) ?_ ?_)
 ·first | trivial | simp
 refine .seq (.rgn [bv_ [] [14] (abm_ l hl), bv_ [14] [] (ad4_ l hl)] (by simp only [go_sem, seval]; rfl) ?_ ?_)
 ·first | trivial | simp
 refine .ret ⟨.inr rfl, ?_⟩
 exact Out.mem' (by simp only [Tryz.results192]; rfl) (by simp only [a1_, bc_, go_sem, seval]) (by simp only [ba_, rns, rn, go_sem, seval] <;> (simp)) (by simp) rfl (by decide) (by simp only [go_sem, seval]) (by simp only [ar_, go_sem, seval]) (by simp only [al_, go_sem, seval] <;> (simp))
end
section
set_option maxRecDepth 100000
set_option maxHeartbeats 4000000
def j7_ (l : List E) (k : Nat) : List (List V) := eR (dp_ (l.take k) ++ l.drop k)
theorem rh_ (l : List E) (k : Nat) (h : k ≤ l.length) : (j7_ l k).length = l.length := by simp [j7_, js_, fe_]; omega
theorem bs_ (l : List E) (k : Nat) : b4_ (j7_ l k) = true := go_ _
theorem wo_ (l : List E) : j7_ l 0 = eR l := by simp [j7_, dp_]
theorem ye_ (l : List E) (k : Nat) (h : l.length ≤ k) : j7_ l k = eR (dp_ l) := by simp [j7_, List.take_of_length_le h, List.drop_of_length_le h]
theorem yh_ {l : List E} {k : Nat} (h : k < l.length) {r : List V} (hr : r = eC (bare (l.getD k E0))) : (j7_ l k).set k r = j7_ l (k + 1) := by
 subst hr
 unfold j7_
 rw [s2_ h, ti_, ti_, ti_, List.set_append_right _ _ (by rw [js_, fe_, List.length_take]; omega), js_, fe_, List.length_take, Nat.min_eq_left (Nat.le_of_lt h), Nat.sub_self, List.drop_eq_getElem_cons h]
 simp only [eR, List.set_cons_zero, List.append_assoc, List.cons_append, List.nil_append]
theorem aav_ : ∀ {l : List E} (r : List V), r ∈ eR l → r.length = 4 := fun {l} r hr => by
 rw [j8_] at hr; obtain ⟨e, _, rfl⟩ := List.mem_map.1 hr; rw [eg_]; rfl
theorem bu_ (l : List E) (k j : Nat) : ((j7_ l k).getD j []).drop 4 = [] := by
 rw [List.getD_eq_getElem?_getD]
 cases h : (j7_ l k)[j]? with
 | none => rfl
 | some r => have := aav_ r (List.mem_of_getElem? h); simp only [Option.getD_some]; exact List.drop_of_length_le (by omega)
mutual
theorem op_ : ∀ e : E, sm e = true → sm (bare e) = true
 | .mk k n s kids, h => by
  simp only [sm, Bool.and_eq_true] at h
  simp only [bare]
  by_cases hk : k = 4
  ·rw [if_pos hk]
   cases kids with
   | nil => simp only [rg_, sm, Bool.and_eq_true]; exact ⟨⟨h.1.1, by simp⟩, rfl⟩
   | cons a r => simp only [rg_]; simp only [sms, Bool.and_eq_true] at h; exact op_ a h.2.1
  ·rw [if_neg hk]
   simp only [sm, Bool.and_eq_true]
   exact ⟨⟨h.1.1, by rw [fe_]; exact h.1.2⟩, n9_ kids h.2⟩
theorem n9_ : ∀ l : List E, sms l = true → sms (dp_ l) = true
 | [], _ => by simp only [dp_, sms]
 | e :: r, h => by
  simp only [sms, Bool.and_eq_true] at h
  simp only [dp_, sms, op_ e h.1, n9_ r h.2, Bool.and_self]
end
theorem ow_ (e : E) : wf e = true → sm e = true → ACall En 145 [.ag (eC e)] [] [.ag (eC (bare e))] [] := by
 induction e using E.ind' with
 | h e ih =>
 intro hw hs
 obtain ⟨a1, a2, a3⟩ := dx_ hs
 obtain ⟨w1, w2⟩ := abg_ hw
 have a4 := tt_ hs
 refine ap_ (fn := Tryz.f145) [] Tryz.func145 rfl rfl (by simp) fun C => ?_
 rw [a0_]
 simp only [Tryz.ntmps145, List.length_cons, List.length_nil, Nat.reduceAdd, Nat.reduceSub, List.replicate_succ, List.replicate_zero, List.cons_append, List.nil_append, bq_]
 refine .seq (.rgn [] (by simp only [go_sem, seval, bs_, bu_]; rfl) ?_ ?_)
 ·first | trivial | simp
 refine .seq (.seq (.rgn [] (by simp only [go_sem, seval, bs_, bu_]; rfl) ?_ ?_))
 ·first | trivial | simp
 refine .condB (by simp only [go_sem, seval, bs_, bu_]; rfl) (by simp only [go_sem, seval, bs_, bu_]) (fun h8 => ?_) (fun h8 => ?_)
 ·refine .seq (.rgn [a5_ (ih (e.kids.getD 0 E0) (bh_ (w1 (by simpa using h8))) (o0_ w2 _ (bh_ (w1 (by simpa using h8)))) (ch_ a3 _ (bh_ (w1 (by simpa using h8)))))] (by simp only [go_sem, seval, bs_, bu_, c8_ (w1 (by simpa using h8))]; rfl) ?_ ?_)
  ·have := w1 (by simpa using h8); simp; omega
  refine .ret ⟨.inr rfl, ?_⟩
  exact Out.plain (by simp only [Tryz.results145]; rfl) (by simp only [a1_, bc_, go_sem, seval, bs_, bu_] <;> (split <;> rfl)) (by simp only [ba_, go_sem, seval, bs_, bu_] <;> (rw [n0_ (e := e) (by simpa using h8) (w1 (by simpa using h8))])) (by simp only [go_sem, seval, bs_, bu_])
 ·refine .skip (.seq (.rgnD [bv_ [] [32] (abq_ e.kids a4)] enM (by simp only [go_sem, seval, bs_, bu_]; rfl) (by rfl) ?_ ?_))
  ·first | trivial | simp
  refine .seq (.seq (.rgn [] (by simp only [go_sem, seval, bs_, bu_]; rfl) ?_ ?_))
  ·first | trivial | simp
  refine .block (.loopK (fun k : Nat => ⟨[.no, .pt 11 4 0 0, .pt 12 4 0 0, .pt 13 4 0 0, .no, .no, .no, .no, .no, .no, .no, .no, .no, .no, .no, .no, .no, .no, .no, .no, .no, .no, .no, .no, .no, .sl false (eR e.kids), .i .i64 e.kids.length, .i .i64 k, .no, .no, .no, .no, .no, .no, .no, .no, .no, .no, .no, .no], a6_ [(11, ⟨48, 4, [eC e]⟩), (12, ⟨48, 4, [[.i .i64 0, .i .i64 0, .s [], .sl true []]]⟩), (13, ⟨48, 4, [[.i .i64 e.kind, .i .i64 e.n, .s e.s, .ow 32 4 0 e.kids.length]]⟩), (32, ⟨48, 4, j7_ e.kids k⟩)], us [11, 12, 13, 32]⟩) (fun k : Nat => k ≤ e.kids.length) (fun k : Nat => e.kids.length - k) (0) ?_ ?_ (fun k hI => ?_))
  ·simp
  ·exact Can.weak (Weak.lit (by simp only [go_sem, seval, bs_, bu_, aw_, leV, at_, au_, V.inn, us, true_or, or_true] <;> (simp)) (by simp only [go_sem, seval, bs_, bu_, aw_, leV, at_, au_, V.inn, us, true_or, or_true]) (by simp only [go_sem, seval, bs_, bu_, aw_, leV, at_, au_, V.inn, us, true_or, or_true] <;> (simp [wo_, hq_, go_])))
  refine .seq (.rgn [] (by simp only [go_sem, seval, bs_, bu_]; rfl) ?_ ?_)
  ·first | trivial | simp
  refine .seq (.condB (by simp only [go_sem, seval, bs_, bu_]; rfl) (by simp only [go_sem, seval, bs_, bu_]) (fun h28 => ?_) (fun h28 => ?_))
  ·refine .skip (.seq (.block (.seq (.rgn [] (by simp only [go_sem, seval, bs_, bu_, c8_ (show k < e.kids.length by simpa using h28)]; rfl) ?_ ?_))))
   ·simp at h28; simp; omega
   refine .rgnD [a5_ (ih (e.kids.getD k E0) (bh_ (by simpa using h28)) (o0_ w2 _ (bh_ (by simpa using h28))) (ch_ a3 _ (bh_ (by simpa using h28))))] enM (by simp only [go_sem, seval, bs_, bu_, yh_ (show k < e.kids.length by simpa using h28) (eg_ _).symm, rh_ e.kids k hI, bs_]; rfl) (by rfl) ?_ ?_
   ·simp at h28; simp [rh_ e.kids k hI]; omega
   refine .rgn [] (by simp only [go_sem, seval, bs_, bu_]; rfl) ?_ ?_
   ·first | trivial | simp
   refine Exists.intro (k + 1) ⟨?_, ?_, ?_⟩
   ·simp at h28; omega
   ·simp at h28; omega
   exact Can.weak (Weak.lit (by simp only [go_sem, seval, bs_, bu_, aw_, leV, at_, au_, V.inn, us, true_or, or_true] <;> (rw [a7_ (by simp at h28; omega) (by simp at h28; omega)]; simp)) (by simp only [go_sem, seval, bs_, bu_, aw_, leV, at_, au_, V.inn, us, true_or, or_true]) (by simp only [go_sem, seval, bs_, bu_, aw_, leV, at_, au_, V.inn, us, true_or, or_true]))
  ·refine .exit (.seq (.rgn [] (by simp only [go_sem, seval, bs_, bu_]; rfl) ?_ ?_))
   ·first | trivial | simp
   refine .frz 32 (by simp only [go_sem, seval, bs_, bu_]; rfl) (by simp only [go_sem, seval, bs_, bu_]) (by simp only [go_sem, seval, bs_, bu_]; rfl) (by simp only [go_sem, seval, bs_, bu_]; rfl) ?_
   refine .ret ⟨.inr rfl, ?_⟩
   exact Out.plain (by simp only [Tryz.results145]; rfl) (by simp only [a1_, bc_, go_sem, seval, bs_, bu_] <;> (split <;> rfl)) (by simp only [ba_, go_sem, seval, bs_, bu_] <;> (simp at h28; rw [jv_ (e := e) (by simpa using h8), ye_ _ _ h28]; simp [eg_, fe_, js_, E.kind, E.n, E.s, E.kids, List.take_of_length_le])) (by simp only [go_sem, seval, bs_, bu_])
end
section
set_option maxRecDepth 100000
set_option maxHeartbeats 1000000
def wdR (l : Wd) : List (List V) := l.map fun p => [.s p.1, .i .i64 p.2]
theorem ad_ (l : Wd) : (wdR l).length = l.length := by simp [wdR]
theorem is_ (a b : Wd) : wdR (a ++ b) = wdR a ++ wdR b := by simp [wdR]
theorem ab_ : ∀ l : Wd, b4_ (wdR l) = true
 | [] => rfl
 | p :: l => by simp only [wdR, List.map_cons, b4_, cr_, V.pure, Bool.true_and]; exact ab_ l
theorem aap_ (l : Wd) : ∀ r ∈ wdR l, r.length = 2 := fun r hr => by
 obtain ⟨p, _, rfl⟩ := List.mem_map.1 hr; rfl
theorem fr_ {l : Wd} {k : Nat} (h : k < l.length) : (wdR l).getD k [] = [.s (l.getD k ([], 0)).1, .i .i64 (l.getD k ([], 0)).2] := by
 simp [wdR, List.getD_eq_getElem?_getD, List.getElem?_eq_getElem h]
theorem a8_ (l : Wd) : (∀ r, r ∈ wdR l → r.length = 2) = True := eq_true (aap_ l)
theorem tl_ {e : E} {d : Nat} (h : form e d = true) (hm : many e d ≤ 1000) (must nx : Int) : (src e must nx).length ≤ 3000 := by
 rw [← List.length_map (f := (·.1)), dw_]
 have := cl_ d e must h; omega
theorem gs_ (e : E) (must nx : Int) : (src e must nx).length = (wds e must).length := by
 rw [← dw_ e must nx, List.length_map]
theorem ds_ {n : Int} (h : 0 ≤ n) : Lib.itoa n = Lib.decDigits n.toNat := by unfold Lib.itoa; rw [if_neg (by omega)]
theorem um_ {e : E} {d : Int} (h : form e d = true) (must nx : Int) : src e must nx = brk (decide (e.kind = 3) && decide (bb_ e.s < must)) (src e 0 nx) := by
 rcases (bj_ h).2 with ⟨k1, _⟩ | ⟨k1, _⟩ | ⟨k1, h1, h2, h3, h4, h5⟩ | ⟨k1, h1, h2, h3, h4⟩
 ·rw [show (decide (e.kind = 3)) = false by simp [k1]]; cases e; simp only [E.kind] at k1; subst k1; simp [src, brk]
 ·rw [show (decide (e.kind = 3)) = false by simp [k1]]; cases e; simp only [E.kind] at k1; subst k1; simp [src, brk]
 ·have := di_ h2
  rw [fx_ k1 h3, fx_ k1 h3, show decide (bb_ e.s < 0) = false by simp; omega]
  simp [k1, brk]
 ·rw [jm_ k1 h3, jm_ k1 h3]; simp [k1, brk]
def mx2 (t : Int) : Int := if t > 2 then t else 2
theorem zv_ (t : Int) : mx2 t = max 2 t := by unfold mx2; split <;> omega
theorem k6_ (d : Nat) : ∀ (e : E) (must nx : Int), form e d = true → sm e = true → many e d ≤ 1000 → 0 ≤ nx → nx + cnt e ≤ 1000000 → must ≤ 1000 → 
  ACall En 144 [.ag (eC e), .i .i64 must, .pt 0 1 0 0] [⟨3, 1, [[.i .i64 nx]]⟩] [.ow 1 2 0 (src e must nx).length] [⟨3, 1, [[.i .i64 (nx + cnt e)]]⟩, ⟨121, 2, wdR (src e must nx)⟩] := by
 induction d with
 | zero => intro e must nx h; have := (bj_ h).1; omega
 | succ d ih =>
 intro e must nx h hs hm hx hx2 hmu
 obtain ⟨a1, a2, a3⟩ := dx_ hs
 have e1 : ((d + 1 : Nat) : Int) - 1 = (d : Int) := by omega
 have hd1 : (1 : Int) ≤ ((d + 1 : Nat) : Int) := by omega
 have hc := (cl_ (d + 1) e must h).2.2.2
 have g12 : (e.kind = 1 ∨ e.kind = 2) → cnt e = 1 ∧ src e must nx = [(if e.kind = 1 then Lib.decDigits e.n.toNat else e.s, nx)] ∧ (e.kind = 1 → 0 ≤ e.n ∧ e.n ≤ 1000000) := fun hk => by
  rcases (bj_ h).2 with ⟨k1, h1, h2, h3, h4⟩ | ⟨k1, h1, h2, h3⟩ | ⟨k1, _⟩ | ⟨k1, _⟩ <;> try omega
  ·cases e; simp only [E.kind, E.kids] at k1 h4; subst k1 h4; simp [cnt, m6_, src, E.n, E.kind] at *; omega
  ·cases e; simp only [E.kind, E.kids] at k1 h3; subst k1 h3; simp [cnt, m6_, src, E.s, E.kind]
 have g3 : e.kind = 3 → e.kids.length = 2 ∧ 1 ≤ bb_ e.s ∧ bb_ e.s ≤ 3 ∧ form (e.kids.getD 0 E0) d = true ∧ form (e.kids.getD 1 E0) d = true ∧ many (e.kids.getD 0 E0) d ≤ 1000 ∧ many (e.kids.getD 1 E0) d ≤ 1000 ∧ 0 ≤ cnt (e.kids.getD 0 E0) ∧ cnt (e.kids.getD 0 E0) ≤ 1000 ∧ nx + cnt e = nx + 1 + cnt (e.kids.getD 0 E0) + cnt (e.kids.getD 1 E0) ∧ 0 ≤ cnt (e.kids.getD 1 E0) := fun hk => by
  rcases (bj_ h).2 with ⟨k1, _⟩ | ⟨k1, _⟩ | ⟨k1, h1, h2, h3, h4, h5⟩ | ⟨k1, _⟩ <;> try omega
  rw [e1] at h4 h5
  have := di_ h2
  have hm2 := f8_ hd1 h3
  rw [e1] at hm2
  have q1 := cl_ d _ 0 h4
  have q2 := cl_ d _ 0 h5
  exact ⟨h3, this.1, this.2, h4, h5, by omega, by omega, by omega, by omega, by rw [in_ k1 h3]; omega, by omega⟩
 have g4 : e.kind = 4 → e.kids.length = 1 ∧ form (e.kids.getD 0 E0) d = true ∧ many (e.kids.getD 0 E0) d ≤ 1000 ∧ cnt e = cnt (e.kids.getD 0 E0) := fun hk => by
  rcases (bj_ h).2 with ⟨k1, _⟩ | ⟨k1, _⟩ | ⟨k1, _⟩ | ⟨k1, h1, h2, h3, h4⟩ <;> try omega
  rw [e1] at h4
  have hm2 := hf_ hd1 h3
  rw [e1] at hm2
  have q1 := cl_ d _ 0 h4
  exact ⟨h3, h4, by omega, oq_ k1 h3⟩
 have g0 : e.kind = 1 ∨ e.kind = 2 ∨ e.kind = 3 ∨ e.kind = 4 := by
  rcases (bj_ h).2 with ⟨k1, _⟩ | ⟨k1, _⟩ | ⟨k1, _⟩ | ⟨k1, _⟩ <;> omega
 have hT : e.kind = 3 → src e must nx = brk (decide (bb_ e.s < must)) (src (e.kids.getD 0 E0) (mx2 (bb_ e.s)) (nx + 1) ++ (e.s, nx) :: src (e.kids.getD 1 E0) (bb_ e.s + 1) (nx + 1 + cnt (e.kids.getD 0 E0))) ∧ nx + cnt e = nx + 1 + cnt (e.kids.getD 0 E0) + cnt (e.kids.getD 1 E0) := fun hk => ⟨by rw [zv_]; exact fx_ hk (g3 hk).1 _ _, (g3 hk).2.2.2.2.2.2.2.2.2.1⟩
 have hA : e.kind = 4 → src e must nx = src (e.kids.getD 0 E0) 4 nx ++ [([97, 115], -1), (e.s, -1)] ∧ cnt e = cnt (e.kids.getD 0 E0) := fun hk => ⟨jm_ hk (g4 hk).1 _ _, (g4 hk).2.2.2⟩
 have hL : ∀ k, k < e.kids.length → ∀ m n, (src (e.kids.getD k E0) m n).length ≤ 3000 := fun k hk m n => by
  rcases g0 with hk4 | hk4 | hk4 | hk4
  ·rcases (bj_ h).2 with ⟨k1, h1, h2, h3, h4⟩ | ⟨k1, _⟩ | ⟨k1, _⟩ | ⟨k1, _⟩ <;> try omega
   rw [h4] at hk; simp at hk
  ·rcases (bj_ h).2 with ⟨k1, _⟩ | ⟨k1, h1, h2, h3⟩ | ⟨k1, _⟩ | ⟨k1, _⟩ <;> try omega
   rw [h3] at hk; simp at hk
  ·have := g3 hk4
   have hk2 : k = 0 ∨ k = 1 := by omega
   rcases hk2 with rfl | rfl
   ·exact tl_ this.2.2.2.1 this.2.2.2.2.2.1 _ _
   ·exact tl_ this.2.2.2.2.1 this.2.2.2.2.2.2.1 _ _
  ·have := g4 hk4
   have hk2 : k = 0 := by omega
   subst hk2
   exact tl_ this.2.1 this.2.2.1 _ _
 refine ap_ (fn := Tryz.f144) [0, 150] Tryz.func144 rfl rfl (by simp) fun C => ?_
 rw [a0_]
 simp only [Tryz.ntmps144, List.length_cons, List.length_nil, Nat.reduceAdd, Nat.reduceSub, List.replicate_succ, List.replicate_zero, List.cons_append, List.nil_append, bq_]
 refine .seq (.rgn [] (by simp only [go_sem, seval, ad_, ab_, List.length_append, List.take_of_length_le]; rfl) ?_ ?_)
 ·(first | trivial | (simp; done) | (simp [bt_, List.forall_mem_append, a8_]; done))
 refine .seq (.rgn [] (by simp only [go_sem, seval, ad_, ab_, List.length_append, List.take_of_length_le]; rfl) ?_ ?_)
 ·(first | trivial | (simp; done) | (simp [bt_, List.forall_mem_append, a8_]; done))
 refine .seqJ (fun u : Unit => ⟨[.no, .no, .no, .no, .no, .no, .no, .ow 150 2 0 (src e must nx).length, .no, .no, .no, .no, .no, .no, .no, .no, .no, .no, .no, .no, .no, .no, .no, .no, .no, .no, .no, .no, .no, .no, .no, .no, .no, .no, .no, .no, .no, .no, .no, .no, .no, .no, .no, .no, .no, .no, .no, .no, .no, .no, .no, .no, .no, .no, .no, .no, .no, .no, .no, .no, .no, .no, .no, .no, .no, .no, .no, .no, .no, .no, .no, .no, .no, .no, .no, .no, .no, .no, .no, .no, .no, .no, .no, .no, .no, .no, .no, .no, .no, .no, .no, .no, .no, .no, .no, .no, .no], a6_ [(0, ⟨3, 1, [[.i .i64 (nx + cnt e)]]⟩), (150, ⟨121, 2, wdR (src e must nx)⟩)], us [150]⟩) (fun u : Unit => True) ?_ (fun u hJ => ?_)
 ·refine .seq (.rgn [] (by simp only [go_sem, seval, ad_, ab_, List.length_append, List.take_of_length_le]; rfl) ?_ ?_)
  ·(first | trivial | (simp; done) | (simp [bt_, List.forall_mem_append, a8_]; done))
  refine .block (.seqJ (fun q : Bool => ⟨[.no, .i .i64 must, .pt 0 1 0 0, .pt 13 4 0 0, .no, .no, .no, .no, .no, .no, .no, .no, .i .i64 e.kind, .b q, .no, .no, .no, .no, .no, .no, .no, .no, .no, .no, .no, .no, .no, .no, .no, .no, .no, .no, .no, .no, .no, .no, .no, .no, .no, .no, .no, .no, .no, .no, .no, .no, .no, .no, .no, .no, .no, .no, .no, .no, .no, .no, .no, .no, .no, .no, .no, .no, .no, .no, .no, .no, .no, .no, .no, .no, .no, .no, .no, .no, .no, .no, .no, .no, .no, .no, .no, .no, .no, .no, .no, .no, .no, .no, .no, .no, .no, .no, .no, .no, .no, .no, .no], a6_ [(0, ⟨3, 1, [[.i .i64 nx]]⟩), (13, ⟨48, 4, [eC e]⟩)], us [13]⟩) (fun q : Bool => q = (e.kind == 1 || e.kind == 2)) ?_ (fun q hJ => ?_))
  ·refine .seq (.rgn [] (by simp only [go_sem, seval, ad_, ab_, List.length_append, List.take_of_length_le]; rfl) ?_ ?_)
   ·(first | trivial | (simp; done) | (simp [bt_, List.forall_mem_append, a8_]; done))
   refine .condB (by simp only [go_sem, seval, ad_, ab_, List.length_append, List.take_of_length_le]; rfl) (by simp only [go_sem, seval, ad_, ab_, List.length_append, List.take_of_length_le]) (fun h13 => ?_) (fun h13 => ?_)
   ·refine .skip ?_
    refine Exists.intro ((e.kind == 1 || e.kind == 2)) ⟨?_, ?_⟩
    ·rfl
    exact Can.weak (Weak.lit (by simp only [go_sem, seval, ad_, ab_, List.length_append, List.take_of_length_le, aw_, leV, at_, au_, V.inn, us, true_or, or_true] <;> (simp_all)) (by simp only [go_sem, seval, ad_, ab_, List.length_append, List.take_of_length_le, aw_, leV, at_, au_, V.inn, us, true_or, or_true]) (by simp only [go_sem, seval, ad_, ab_, List.length_append, List.take_of_length_le, aw_, leV, at_, au_, V.inn, us, true_or, or_true]))
   ·refine .rgn [] (by simp only [go_sem, seval, ad_, ab_, List.length_append, List.take_of_length_le]; rfl) ?_ ?_
    ·(first | trivial | (simp; done) | (simp [bt_, List.forall_mem_append, a8_]; done))
    refine Exists.intro ((e.kind == 1 || e.kind == 2)) ⟨?_, ?_⟩
    ·rfl
    exact Can.weak (Weak.lit (by simp only [go_sem, seval, ad_, ab_, List.length_append, List.take_of_length_le, aw_, leV, at_, au_, V.inn, us, true_or, or_true] <;> (simp_all)) (by simp only [go_sem, seval, ad_, ab_, List.length_append, List.take_of_length_le, aw_, leV, at_, au_, V.inn, us, true_or, or_true]) (by simp only [go_sem, seval, ad_, ab_, List.length_append, List.take_of_length_le, aw_, leV, at_, au_, V.inn, us, true_or, or_true]))
  refine .condB (by simp only [go_sem, seval, ad_, ab_, List.length_append, List.take_of_length_le]; rfl) (by simp only [go_sem, seval, ad_, ab_, List.length_append, List.take_of_length_le]) (fun h13 => ?_) (fun h13 => ?_)
  ·refine .seq (.rgn [] (by simp only [go_sem, seval, ad_, ab_, List.length_append, List.take_of_length_le]; rfl) ?_ ?_)
   ·(first | trivial | (simp; done) | (simp [bt_, List.forall_mem_append, a8_]; done))
   refine .seqJ (fun s : Str => ⟨[.no, .no, .pt 0 1 0 0, .pt 13 4 0 0, .no, .no, .no, .no, .s s, .no, .no, .no, .no, .no, .no, .no, .no, .no, .no, .no, .no, .no, .no, .no, .no, .no, .no, .no, .no, .no, .no, .no, .no, .no, .no, .no, .no, .no, .no, .no, .no, .no, .no, .no, .no, .no, .no, .no, .no, .no, .no, .no, .no, .no, .no, .no, .no, .no, .no, .no, .no, .no, .no, .no, .no, .no, .no, .no, .no, .no, .no, .no, .no, .no, .no, .no, .no, .no, .no, .no, .no, .no, .no, .no, .no, .no, .no, .no, .no, .no, .no, .no, .no, .no, .no, .no, .no], a6_ [(0, ⟨3, 1, [[.i .i64 nx]]⟩), (13, ⟨48, 4, [eC e]⟩)], us [13]⟩) (fun s : Str => s = if e.kind = 1 then Lib.decDigits e.n.toNat else e.s) ?_ (fun s hJ => ?_)
   ·refine .seq (.rgn [] (by simp only [go_sem, seval, ad_, ab_, List.length_append, List.take_of_length_le]; rfl) ?_ ?_)
    ·(first | trivial | (simp; done) | (simp [bt_, List.forall_mem_append, a8_]; done))
    refine .condB (by simp only [go_sem, seval, ad_, ab_, List.length_append, List.take_of_length_le]; rfl) (by simp only [go_sem, seval, ad_, ab_, List.length_append, List.take_of_length_le]) (fun h20 => ?_) (fun h20 => ?_)
    ·refine .rgn [a5_ (te_ e.n (by have := (g12 (.inl (by simpa using h20))).2.2 (by simpa using h20); omega) (by have := (g12 (.inl (by simpa using h20))).2.2 (by simpa using h20); omega))] (by simp only [go_sem, seval, ad_, ab_, List.length_append, List.take_of_length_le]; rfl) ?_ ?_
     ·(first | trivial | (simp; done) | (simp [bt_, List.forall_mem_append, a8_]; done))
     refine Exists.intro (Lib.itoa e.n) ⟨?_, ?_⟩
     ·simp_all [ds_]
     exact Can.weak (Weak.lit (by simp only [go_sem, seval, ad_, ab_, List.length_append, List.take_of_length_le, aw_, leV, at_, au_, V.inn, us, true_or, or_true] <;> (simp_all)) (by simp only [go_sem, seval, ad_, ab_, List.length_append, List.take_of_length_le, aw_, leV, at_, au_, V.inn, us, true_or, or_true]) (by simp only [go_sem, seval, ad_, ab_, List.length_append, List.take_of_length_le, aw_, leV, at_, au_, V.inn, us, true_or, or_true]))
    ·refine .skip ?_
     refine Exists.intro (e.s) ⟨?_, ?_⟩
     ·simp_all [ds_]
     exact Can.weak (Weak.lit (by simp only [go_sem, seval, ad_, ab_, List.length_append, List.take_of_length_le, aw_, leV, at_, au_, V.inn, us, true_or, or_true] <;> (simp_all)) (by simp only [go_sem, seval, ad_, ab_, List.length_append, List.take_of_length_le, aw_, leV, at_, au_, V.inn, us, true_or, or_true]) (by simp only [go_sem, seval, ad_, ab_, List.length_append, List.take_of_length_le, aw_, leV, at_, au_, V.inn, us, true_or, or_true]))
   refine .seq (.rgnS [29] [bsO En] (by simp only [go_sem, seval, ad_, ab_, List.length_append, List.take_of_length_le]; rfl) ?_ ?_)
   ·(first | trivial | (simp; done) | (simp [bt_, List.forall_mem_append, a8_]; done))
   refine .rgn [] (by simp only [go_sem, seval, ad_, ab_, List.length_append, List.take_of_length_le, a7_ (show -9223372036854775808 ≤ nx + 1 by omega) (by omega)]; rfl) ?_ ?_
   ·(first | trivial | (simp; done) | (simp [bt_, List.forall_mem_append, a8_]; done))
   refine Exists.intro (()) ⟨?_, ?_⟩
   ·trivial
   refine Can.trans (Can.swap 39 150 (by decide) (by decide) (by decide) (by decide) (by simp only [go_sem, seval, ad_, ab_, List.length_append, List.take_of_length_le, V.cl]) (by simp only [go_sem, seval, ad_, ab_, List.length_append, List.take_of_length_le, V.cl]) (by simp only [go_sem, seval, ad_, ab_, List.length_append, List.take_of_length_le, be_, sw, swM, rnB] <;> rfl) (by simp only [go_sem, seval, ad_, ab_, List.length_append, List.take_of_length_le, be_, sw, swM, rnB] <;> rfl) (by simp only [go_sem, seval, ad_, ab_, List.length_append, List.take_of_length_le, be_, sw, swM, rnB] <;> rfl)) ?_
   exact Can.weak (Weak.lit (by simp only [go_sem, seval, ad_, ab_, List.length_append, List.take_of_length_le, aw_, leV, at_, au_, V.inn, us, true_or, or_true] <;> (first | (rw [(hT (by simpa using h35)).1, h74]; simp [brk]; (first | done | omega)) | (rw [(hA (by simpa using h82)).1]; simp) | (rw [(g12 (by simp_all)).2.1]; rfl))) (by simp only [go_sem, seval, ad_, ab_, List.length_append, List.take_of_length_le, aw_, leV, at_, au_, V.inn, us, true_or, or_true]) (by simp only [go_sem, seval, ad_, ab_, List.length_append, List.take_of_length_le, aw_, leV, at_, au_, V.inn, us, true_or, or_true] <;> (first | (rw [(hT (by simpa using h35)).1, (hT (by simpa using h35)).2, h74]; simp [brk, wdR, cv_, is_]) | (rw [(hA (by simpa using h82)).1, (hA (by simpa using h82)).2]; simp [wdR]) | (rw [(g12 (by simp_all)).2.1, (g12 (by simp_all)).1, hJ]; simp [wdR]))))
  ·refine .seq (.rgn [] (by simp only [go_sem, seval, ad_, ab_, List.length_append, List.take_of_length_le]; rfl) ?_ ?_)
   ·(first | trivial | (simp; done) | (simp [bt_, List.forall_mem_append, a8_]; done))
   refine .condB (by simp only [go_sem, seval, ad_, ab_, List.length_append, List.take_of_length_le]; rfl) (by simp only [go_sem, seval, ad_, ab_, List.length_append, List.take_of_length_le]) (fun h35 => ?_) (fun h35 => ?_)
   ·refine .seq (.rgnD [a5_ (ko_ e.s)] enM (by simp only [go_sem, seval, ad_, ab_, List.length_append, List.take_of_length_le]; rfl) (by rfl) ?_ ?_)
    ·(first | trivial | (simp; done) | (simp [bt_, List.forall_mem_append, a8_]; done))
    refine .seq (.rgn [] (by simp only [go_sem, seval, ad_, ab_, List.length_append, List.take_of_length_le, a7_ (show -9223372036854775808 ≤ nx + 1 by omega) (by omega)]; rfl) ?_ ?_)
    ·(first | trivial | (simp; done) | (simp [bt_, List.forall_mem_append, a8_]; done))
    refine .seq (.rgnD [bv_ [0] [65] (ih (e.kids.getD 0 E0) (mx2 (bb_ e.s)) (nx + 1) (g3 (by simpa using h35)).2.2.2.1 (ch_ a3 _ (bh_ (by have := g3 (by simpa using h35); omega))) (g3 (by simpa using h35)).2.2.2.2.2.1 (by omega) (by have := g3 (by simpa using h35); omega) (by have := g3 (by simpa using h35); rw [zv_]; omega))] enM (by simp only [go_sem, seval, ad_, ab_, List.length_append, List.take_of_length_le, c8_ (show 0 < e.kids.length by have := g3 (by simpa using h35); omega), al_, ar_]; rfl) (by rfl) ?_ ?_)
    ·have q := g3 (by simpa using h35); have q1 := hL 0 (by omega) (mx2 (bb_ e.s)) (nx + 1); have q2 : 0 < e.kids.length := (by omega); simp only [mx2, gt_iff_lt] at q1 ⊢; simp [-List.getD_eq_getElem?_getD, bt_, q2]; omega
    refine .seq (.rgn [bv_ [0] [80] (ih (e.kids.getD 1 E0) (bb_ e.s + 1) (nx + 1 + cnt (e.kids.getD 0 E0)) (g3 (by simpa using h35)).2.2.2.2.1 (ch_ a3 _ (bh_ (by have := g3 (by simpa using h35); omega))) (g3 (by simpa using h35)).2.2.2.2.2.2.1 (by have := g3 (by simpa using h35); omega) (by have := g3 (by simpa using h35); omega) (by have := g3 (by simpa using h35); omega))] (by simp only [go_sem, seval, ad_, ab_, List.length_append, List.take_of_length_le, c8_ (show 1 < e.kids.length by have := g3 (by simpa using h35); omega), al_, ar_, a7_ (show -9223372036854775808 ≤ bb_ e.s + 1 by have := g3 (by simpa using h35); omega) (by have := g3 (by simpa using h35); omega)]; rfl) ?_ ?_)
    ·have q := g3 (by simpa using h35); have q1 := hL 0 (by omega) (mx2 (bb_ e.s)) (nx + 1); have q2 : 1 < e.kids.length := (by omega); have q3 := hL 1 (by omega) (bb_ e.s + 1) (nx + 1 + cnt (e.kids.getD 0 E0)); simp [-List.getD_eq_getElem?_getD, bt_, q2, a8_]; omega
    refine .seq (.rgn [] (by simp only [go_sem, seval, ad_, ab_, List.length_append, List.take_of_length_le]; rfl) ?_ ?_)
    ·(first | trivial | (simp; done) | (simp [bt_, List.forall_mem_append, a8_]; done))
    refine .condB (by simp only [go_sem, seval, ad_, ab_, List.length_append, List.take_of_length_le]; rfl) (by simp only [go_sem, seval, ad_, ab_, List.length_append, List.take_of_length_le]) (fun h74 => ?_) (fun h74 => ?_)
    ·refine .rgn [] (by simp only [go_sem, seval, ad_, ab_, List.length_append, List.take_of_length_le]; rfl) ?_ ?_
     ·have q := g3 (by simpa using h35); have q1 := hL 0 (by omega) (mx2 (bb_ e.s)) (nx + 1); have q3 := hL 1 (by omega) (bb_ e.s + 1) (nx + 1 + cnt (e.kids.getD 0 E0)); simp [-List.getD_eq_getElem?_getD, bt_, a8_, or_imp, forall_and]; (first | omega)
     refine Exists.intro (()) ⟨?_, ?_⟩
     ·trivial
     refine Can.trans (Can.swap 91 150 (by decide) (by decide) (by decide) (by decide) (by simp only [go_sem, seval, ad_, ab_, List.length_append, List.take_of_length_le, V.cl]) (by simp only [go_sem, seval, ad_, ab_, List.length_append, List.take_of_length_le, V.cl]) (by simp only [go_sem, seval, ad_, ab_, List.length_append, List.take_of_length_le, be_, sw, swM, rnB] <;> rfl) (by simp only [go_sem, seval, ad_, ab_, List.length_append, List.take_of_length_le, be_, sw, swM, rnB] <;> rfl) (by simp only [go_sem, seval, ad_, ab_, List.length_append, List.take_of_length_le, be_, sw, swM, rnB] <;> rfl)) ?_
     exact Can.weak (Weak.lit (by simp only [go_sem, seval, ad_, ab_, List.length_append, List.take_of_length_le, aw_, leV, at_, au_, V.inn, us, true_or, or_true] <;> (first | (rw [(hT (by simpa using h35)).1, h74]; simp [brk]; (first | done | omega)) | (rw [(hA (by simpa using h82)).1]; simp) | (rw [(g12 (by simp_all)).2.1]; rfl))) (by simp only [go_sem, seval, ad_, ab_, List.length_append, List.take_of_length_le, aw_, leV, at_, au_, V.inn, us, true_or, or_true]) (by simp only [go_sem, seval, ad_, ab_, List.length_append, List.take_of_length_le, aw_, leV, at_, au_, V.inn, us, true_or, or_true] <;> (first | (rw [(hT (by simpa using h35)).1, (hT (by simpa using h35)).2, h74]; simp [brk, wdR, cv_, is_]) | (rw [(hA (by simpa using h82)).1, (hA (by simpa using h82)).2]; simp [wdR]) | (rw [(g12 (by simp_all)).2.1, (g12 (by simp_all)).1, hJ]; simp [wdR]))))
    ·refine .skip ?_
     refine Exists.intro (()) ⟨?_, ?_⟩
     ·trivial
     refine Can.trans (Can.swap 81 150 (by decide) (by decide) (by decide) (by decide) (by simp only [go_sem, seval, ad_, ab_, List.length_append, List.take_of_length_le, V.cl]) (by simp only [go_sem, seval, ad_, ab_, List.length_append, List.take_of_length_le, V.cl]) (by simp only [go_sem, seval, ad_, ab_, List.length_append, List.take_of_length_le, be_, sw, swM, rnB] <;> rfl) (by simp only [go_sem, seval, ad_, ab_, List.length_append, List.take_of_length_le, be_, sw, swM, rnB] <;> rfl) (by simp only [go_sem, seval, ad_, ab_, List.length_append, List.take_of_length_le, be_, sw, swM, rnB] <;> rfl)) ?_
     exact Can.weak (Weak.lit (by simp only [go_sem, seval, ad_, ab_, List.length_append, List.take_of_length_le, aw_, leV, at_, au_, V.inn, us, true_or, or_true] <;> (first | (rw [(hT (by simpa using h35)).1, h74]; simp [brk]; (first | done | omega)) | (rw [(hA (by simpa using h82)).1]; simp) | (rw [(g12 (by simp_all)).2.1]; rfl))) (by simp only [go_sem, seval, ad_, ab_, List.length_append, List.take_of_length_le, aw_, leV, at_, au_, V.inn, us, true_or, or_true]) (by simp only [go_sem, seval, ad_, ab_, List.length_append, List.take_of_length_le, aw_, leV, at_, au_, V.inn, us, true_or, or_true] <;> (first | (rw [(hT (by simpa using h35)).1, (hT (by simpa using h35)).2, h74]; simp [brk, wdR, cv_, is_]) | (rw [(hA (by simpa using h82)).1, (hA (by simpa using h82)).2]; simp [wdR]) | (rw [(g12 (by simp_all)).2.1, (g12 (by simp_all)).1, hJ]; simp [wdR]))))
   ·refine .seq (.rgn [] (by simp only [go_sem, seval, ad_, ab_, List.length_append, List.take_of_length_le]; rfl) ?_ ?_)
    ·(first | trivial | (simp; done) | (simp [bt_, List.forall_mem_append, a8_]; done))
    refine .condB (by simp only [go_sem, seval, ad_, ab_, List.length_append, List.take_of_length_le]; rfl) (by simp only [go_sem, seval, ad_, ab_, List.length_append, List.take_of_length_le]) (fun h82 => ?_) (fun h82 => ?_)
    ·refine .rgnD [bv_ [0] [99] (ih (e.kids.getD 0 E0) 4 nx (g4 (by simpa using h82)).2.1 (ch_ a3 _ (bh_ (by have := g4 (by simpa using h82); omega))) (g4 (by simpa using h82)).2.2.1 hx (by have := g4 (by simpa using h82); omega) (by decide))] enM (by simp only [go_sem, seval, ad_, ab_, List.length_append, List.take_of_length_le, c8_ (show 0 < e.kids.length by have := g4 (by simpa using h82); omega), al_, ar_]; rfl) (by rfl) ?_ ?_
     ·have q := g4 (by simpa using h82); have q1 := hL 0 (by omega) 4 nx; have q2 : 0 < e.kids.length := (by omega); simp [-List.getD_eq_getElem?_getD, bt_, q2]; omega
     refine Exists.intro (()) ⟨?_, ?_⟩
     ·trivial
     refine Can.trans (Can.swap 105 150 (by decide) (by decide) (by decide) (by decide) (by simp only [go_sem, seval, ad_, ab_, List.length_append, List.take_of_length_le, V.cl]) (by simp only [go_sem, seval, ad_, ab_, List.length_append, List.take_of_length_le, V.cl]) (by simp only [go_sem, seval, ad_, ab_, List.length_append, List.take_of_length_le, be_, sw, swM, rnB] <;> rfl) (by simp only [go_sem, seval, ad_, ab_, List.length_append, List.take_of_length_le, be_, sw, swM, rnB] <;> rfl) (by simp only [go_sem, seval, ad_, ab_, List.length_append, List.take_of_length_le, be_, sw, swM, rnB] <;> rfl)) ?_
     exact Can.weak (Weak.lit (by simp only [go_sem, seval, ad_, ab_, List.length_append, List.take_of_length_le, aw_, leV, at_, au_, V.inn, us, true_or, or_true] <;> (first | (rw [(hT (by simpa using h35)).1, h74]; simp [brk]; (first | done | omega)) | (rw [(hA (by simpa using h82)).1]; simp) | (rw [(g12 (by simp_all)).2.1]; rfl))) (by simp only [go_sem, seval, ad_, ab_, List.length_append, List.take_of_length_le, aw_, leV, at_, au_, V.inn, us, true_or, or_true]) (by simp only [go_sem, seval, ad_, ab_, List.length_append, List.take_of_length_le, aw_, leV, at_, au_, V.inn, us, true_or, or_true] <;> (first | (rw [(hT (by simpa using h35)).1, (hT (by simpa using h35)).2, h74]; simp [brk, wdR, cv_, is_]) | (rw [(hA (by simpa using h82)).1, (hA (by simpa using h82)).2]; simp [wdR]) | (rw [(g12 (by simp_all)).2.1, (g12 (by simp_all)).1, hJ]; simp [wdR]))))
    ·simp_all
 refine .seq (.rgn [] (by simp only [go_sem, seval, ad_, ab_, List.length_append, List.take_of_length_le]; rfl) ?_ ?_)
 ·(first | trivial | (simp; done) | (simp [bt_, List.forall_mem_append, a8_]; done))
 refine .ret ⟨.inr rfl, ?_⟩
 exact Out.mem' (by simp only [Tryz.results144]; rfl) (by simp only [a1_, bc_, go_sem, seval, ad_, ab_, List.length_append, List.take_of_length_le]) (by simp only [ba_, rns, rn, go_sem, seval, ad_, ab_, List.length_append, List.take_of_length_le] <;> (simp_all)) (by simp) rfl (by decide) (by simp only [go_sem, seval, ad_, ab_, List.length_append, List.take_of_length_le]) (by simp only [ar_, go_sem, seval, ad_, ab_, List.length_append, List.take_of_length_le]) (by simp only [al_, go_sem, seval, ad_, ab_, List.length_append, List.take_of_length_le] <;> (simp))
end
end Go.Proofs.YtefmbmafdgedmaaGreatDoor
