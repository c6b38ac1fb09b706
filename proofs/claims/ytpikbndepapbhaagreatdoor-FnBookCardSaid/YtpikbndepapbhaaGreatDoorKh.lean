/- Without types. Conditions: none. -/
import Derived.Test.YtpikbndepapbhaaGreatDoorKe
import Derived.Test.YtpikbndepapbhaaGreatDoorKc
import Derived.Test.YtpikbndepapbhaaGreatDoorKg
import Derived.Test.YtpikbndepapbhaaGreatDoorKf
set_option linter.unusedVariables false
set_option linter.unusedSimpArgs false
namespace Go.Proofs.YtpikbndepapbhaaGreatDoor
section
set_option maxRecDepth 100000
set_option maxHeartbeats 4000000
theorem xq_ (a b : List E) : eR (a ++ b) = eR a ++ eR b := by simp [my_]
end
section
set_option maxRecDepth 100000
set_option maxHeartbeats 4000000
theorem k7_ (e : E) (hs : sm e = true) : ACall En 145 [.ag (eC e)] [] [.b (i8_ e)] [] := by
 refine al_ (fn := Tryz.f145) [] Tryz.func145 rfl rfl (by simp) fun C => ?_
 rw [av_]
 simp only [Tryz.ntmps145, T7_, List.length_nil, Nat.reduceAdd, Nat.reduceSub, List.replicate_succ, List.replicate_zero, List.cons_append, List.nil_append, bt_]
 refine .seq (.rgn [] (by simp only [go_sem, seval]; rfl) ?_ ?_)
 ·first | trivial | simp
 refine .seq (.rgn [a3_ (ut_ e E0 hs rfl)] (by simp only [go_sem, seval, E0, E.kind, E.n, E.s, E.kids, eR]; rfl) ?_ ?_)
 ·first | trivial | simp
 refine .ret ⟨.inr rfl, ?_⟩
 exact Out.plain (by simp only [Tryz.results145]; rfl) (by simp only [ax_, a6_, go_sem, seval] <;> (split <;> rfl)) (by simp only [a4_, go_sem, seval] <;> (rfl)) (by simp only [go_sem, seval])
theorem ke_ (e : E) (hs : sm e = true) : ACall En 114 [.ag (eC e)] [] [.b (i8_ e)] [] := by
 refine al_ (fn := Tryz.f114) [] Tryz.func114 rfl rfl (by simp) fun C => ?_
 rw [av_]
 simp only [Tryz.ntmps114, T7_, List.length_nil, Nat.reduceAdd, Nat.reduceSub, List.replicate_succ, List.replicate_zero, List.cons_append, List.nil_append, bt_]
 refine .seq (.rgn [] (by simp only [go_sem, seval]; rfl) ?_ ?_)
 ·first | trivial | simp
 refine .seq (.rgn [a3_ (vq_ e E0 hs rfl)] (by simp only [go_sem, seval, E0, E.kind, E.n, E.s, E.kids, eR]; rfl) ?_ ?_)
 ·first | trivial | simp
 refine .ret ⟨.inr rfl, ?_⟩
 exact Out.plain (by simp only [Tryz.results114]; rfl) (by simp only [ax_, a6_, go_sem, seval] <;> (split <;> rfl)) (by simp only [a4_, go_sem, seval] <;> (rfl)) (by simp only [go_sem, seval])
end
section
set_option maxRecDepth 100000
set_option maxHeartbeats 4000000
theorem abl_ (b : Str) : ACall En 41 [.sl false (byR b)] [] [.pt 0 2 0 0] [⟨92, 2, [[.sl false (byR (b.take 2000)), .i .i64 0]]⟩] := by
 refine al_ (fn := Tryz.f41) [20] Tryz.func41 rfl rfl (by simp) fun C => ?_
 rw [av_]
 simp only [Tryz.ntmps41, T7_, List.length_nil, Nat.reduceAdd, Nat.reduceSub, List.replicate_succ, List.replicate_zero, List.cons_append, List.nil_append, bt_]
 refine .seq (.rgn [] (by simp only [go_sem, seval]; rfl) ?_ ?_)
 ·(first | trivial | decide | (simp at h5; simp; omega) | simp)
 refine .seq (.seq (.rgn [] (by simp only [go_sem, seval]; rfl) ?_ ?_))
 ·(first | trivial | decide | (simp at h5; simp; omega) | simp)
 refine .condB (by simp only [go_sem, seval]; rfl) (by simp only [go_sem, seval]) (fun h5 => ?_) (fun h5 => ?_)
 ·refine .rgn [] (by simp only [go_sem, seval]; rfl) ?_ ?_
  ·(first | trivial | decide | (simp at h5; simp; omega) | simp)
  refine .seq (.rgn [] (by simp only [go_sem, seval]; rfl) ?_ ?_)
  ·(first | trivial | decide | (simp at h5; simp; omega) | simp)
  refine .ret ⟨.inr rfl, ?_⟩
  exact Out.mem' (by simp only [Tryz.results41]; rfl) (by simp only [ax_, a6_, go_sem, seval]) (by simp only [a4_, rns, rn, go_sem, seval] <;> (simp_all)) (by simp) rfl (by decide) (by simp only [go_sem, seval]) (by simp only [ak_, go_sem, seval]) (by simp only [ag_, go_sem, seval] <;> (rfl))
 ·refine .skip (.seq (.rgn [] (by simp only [go_sem, seval]; rfl) ?_ ?_))
  ·(first | trivial | decide | (simp at h5; simp; omega) | simp)
  refine .ret ⟨.inr rfl, ?_⟩
  exact Out.mem' (by simp only [Tryz.results41]; rfl) (by simp only [ax_, a6_, go_sem, seval]) (by simp only [a4_, rns, rn, go_sem, seval] <;> (simp_all)) (by simp) rfl (by decide) (by simp only [go_sem, seval]) (by simp only [ak_, go_sem, seval]) (by simp only [ag_, go_sem, seval] <;> (simp at h5; rw [T1_ (show b.length ≤ 2000 by omega)]))
abbrev wr (n : Int) : Int := IntKind.i64.wrap n
def qq_ (b : Str) (k : Int) : Int := wr (wr (wr (wr ((b.getD (k.tmod b.length).toNat 0).toNat * 131) + wr ((b.getD ((k * 7 + 3).tmod b.length).toNat 0).toNat * 1117)) + wr (k * 29)) + wr (wr (k.tdiv b.length) * 53))
def mixX (b : Str) (k : Int) : Int := IntKind.i64.wrap (BitVec.ofInt IntKind.i64.bits (qq_ b k) ^^^ BitVec.ofInt IntKind.i64.bits (IntKind.i64.wrap ((qq_ b k).tdiv 64))).toNat
def br_ (b : Str) (p n : Int) : Int :=
 if n < 1 ∨ b.length = 0 then 0 else if p < b.length then ((b.getD p.toNat 0).toNat : Int).tmod n else (mixX b p).tmod n
theorem zf_ {k : Int} {n : Nat} (h : 0 ≤ k) (hn : 0 < n) : (k.tmod n).toNat < n := by
 have := Int.tmod_lt_of_pos k (show (0 : Int) < n by omega)
 have := Int.tmod_nonneg (n : Int) h
 omega
theorem ajd_ (c : UInt8) : IntKind.i64.wrap (c.toNat : Int) = c.toNat := by
 have := UInt8.toNat_lt c
 exact bd_ (by omega) (by omega)
theorem dv_ (b : Str) (p n : Int) (hb : b.length ≤ 2000) (hp : 0 ≤ p) (hp2 : p < 1099511627776) :
  ACall En 62 [.pt 0 2 0 0, .i .i64 n] [⟨92, 2, [[.sl false (byR b), .i .i64 p]]⟩] [.i .i64 (br_ b p n)] [⟨92, 2, [[.sl false (byR b), .i .i64 (p + 1)]]⟩] := by
 refine al_ (fn := Tryz.f62) [0] Tryz.func62 rfl rfl (by simp) fun C => ?_
 rw [av_]
 simp only [Tryz.ntmps62, T7_, List.length_nil, Nat.reduceAdd, Nat.reduceSub, List.replicate_succ, List.replicate_zero, List.cons_append, List.nil_append, bt_]
 refine .seq (.rgn [] (by simp only [go_sem, seval]; rfl) ?_ ?_)
 ·(first | trivial | (simp; done) | (simp at h24; simp; omega) | (simp at h24 h36; refine ⟨⟨hp, by omega⟩, by omega⟩) | (have hb0 : (0 : Int) < b.length := (by cases b with | nil => simp at h24 | cons c b => simp); have q1 := Int.tmod_lt_of_pos p hb0; have q2 := Int.tmod_nonneg (b.length : Int) hp; have q3 := Int.tmod_lt_of_pos (p * 7 + 3) hb0; have q4 := Int.tmod_nonneg (b.length : Int) (show 0 ≤ p * 7 + 3 by omega); refine ⟨⟨⟨⟨by omega, q2, q1⟩, by omega⟩, q4, q3⟩, by omega⟩))
 refine .seq (.rgn [] (by simp only [go_sem, seval, bd_ (show -9223372036854775808 ≤ p + 1 by omega) (by omega)]; rfl) ?_ ?_)
 ·(first | trivial | (simp; done) | (simp at h24; simp; omega) | (simp at h24 h36; refine ⟨⟨hp, by omega⟩, by omega⟩) | (have hb0 : (0 : Int) < b.length := (by cases b with | nil => simp at h24 | cons c b => simp); have q1 := Int.tmod_lt_of_pos p hb0; have q2 := Int.tmod_nonneg (b.length : Int) hp; have q3 := Int.tmod_lt_of_pos (p * 7 + 3) hb0; have q4 := Int.tmod_nonneg (b.length : Int) (show 0 ≤ p * 7 + 3 by omega); refine ⟨⟨⟨⟨by omega, q2, q1⟩, by omega⟩, q4, q3⟩, by omega⟩))
 refine .seq (.seq (.rgn [] (by simp only [go_sem, seval]; rfl) ?_ ?_))
 ·(first | trivial | (simp; done) | (simp at h24; simp; omega) | (simp at h24 h36; refine ⟨⟨hp, by omega⟩, by omega⟩) | (have hb0 : (0 : Int) < b.length := (by cases b with | nil => simp at h24 | cons c b => simp); have q1 := Int.tmod_lt_of_pos p hb0; have q2 := Int.tmod_nonneg (b.length : Int) hp; have q3 := Int.tmod_lt_of_pos (p * 7 + 3) hb0; have q4 := Int.tmod_nonneg (b.length : Int) (show 0 ≤ p * 7 + 3 by omega); refine ⟨⟨⟨⟨by omega, q2, q1⟩, by omega⟩, q4, q3⟩, by omega⟩))
 refine .condB (by simp only [go_sem, seval]; rfl) (by simp only [go_sem, seval]) (fun h24 => ?_) (fun h24 => ?_)
 ·refine .seq (.rgn [] (by simp only [go_sem, seval]; rfl) ?_ ?_)
  ·(first | trivial | (simp; done) | (simp at h24; simp; omega) | (simp at h24 h36; refine ⟨⟨hp, by omega⟩, by omega⟩) | (have hb0 : (0 : Int) < b.length := (by cases b with | nil => simp at h24 | cons c b => simp); have q1 := Int.tmod_lt_of_pos p hb0; have q2 := Int.tmod_nonneg (b.length : Int) hp; have q3 := Int.tmod_lt_of_pos (p * 7 + 3) hb0; have q4 := Int.tmod_nonneg (b.length : Int) (show 0 ≤ p * 7 + 3 by omega); refine ⟨⟨⟨⟨by omega, q2, q1⟩, by omega⟩, q4, q3⟩, by omega⟩))
  refine .ret ⟨.inr rfl, ?_⟩
  exact Out.mem' (by simp only [Tryz.results62]; rfl) (by simp only [ax_, a6_, go_sem, seval]) (by simp only [a4_, rns, rn, go_sem, seval] <;> (have g : n < 1 ∨ b.length = 0 := (by simp at h24; simpa using h24); rw [br_, if_pos g])) (by simp) rfl (by decide) (by simp only [go_sem, seval]) (by simp only [ak_, go_sem, seval]) (by simp only [ag_, go_sem, seval] <;> (simp))
 ·refine .skip (.seq (.rgn [] (by simp only [go_sem, seval, bd_ (show -9223372036854775808 ≤ p by omega) (by omega), Int.add_sub_cancel]; rfl) ?_ ?_))
  ·(first | trivial | (simp; done) | (simp at h24; simp; omega) | (simp at h24 h36; refine ⟨⟨hp, by omega⟩, by omega⟩) | (have hb0 : (0 : Int) < b.length := (by cases b with | nil => simp at h24 | cons c b => simp); have q1 := Int.tmod_lt_of_pos p hb0; have q2 := Int.tmod_nonneg (b.length : Int) hp; have q3 := Int.tmod_lt_of_pos (p * 7 + 3) hb0; have q4 := Int.tmod_nonneg (b.length : Int) (show 0 ≤ p * 7 + 3 by omega); refine ⟨⟨⟨⟨by omega, q2, q1⟩, by omega⟩, q4, q3⟩, by omega⟩))
  refine .seq (.seq (.rgn [] (by simp only [go_sem, seval]; rfl) ?_ ?_))
  ·(first | trivial | (simp; done) | (simp at h24; simp; omega) | (simp at h24 h36; refine ⟨⟨hp, by omega⟩, by omega⟩) | (have hb0 : (0 : Int) < b.length := (by cases b with | nil => simp at h24 | cons c b => simp); have q1 := Int.tmod_lt_of_pos p hb0; have q2 := Int.tmod_nonneg (b.length : Int) hp; have q3 := Int.tmod_lt_of_pos (p * 7 + 3) hb0; have q4 := Int.tmod_nonneg (b.length : Int) (show 0 ≤ p * 7 + 3 by omega); refine ⟨⟨⟨⟨by omega, q2, q1⟩, by omega⟩, q4, q3⟩, by omega⟩))
  refine .condB (by simp only [go_sem, seval]; rfl) (by simp only [go_sem, seval]) (fun h36 => ?_) (fun h36 => ?_)
  ·refine .seq (.rgn [] (by simp only [go_sem, seval, tb_ (show p.toNat < b.length by simp at h36; omega), ajd_]; rfl) ?_ ?_)
   ·(first | trivial | (simp; done) | (simp at h24; simp; omega) | (simp at h24 h36; refine ⟨⟨hp, by omega⟩, by omega⟩) | (have hb0 : (0 : Int) < b.length := (by cases b with | nil => simp at h24 | cons c b => simp); have q1 := Int.tmod_lt_of_pos p hb0; have q2 := Int.tmod_nonneg (b.length : Int) hp; have q3 := Int.tmod_lt_of_pos (p * 7 + 3) hb0; have q4 := Int.tmod_nonneg (b.length : Int) (show 0 ≤ p * 7 + 3 by omega); refine ⟨⟨⟨⟨by omega, q2, q1⟩, by omega⟩, q4, q3⟩, by omega⟩))
   refine .ret ⟨.inr rfl, ?_⟩
   exact Out.mem' (by simp only [Tryz.results62]; rfl) (by simp only [ax_, a6_, go_sem, seval]) (by simp only [a4_, rns, rn, go_sem, seval] <;> (have g : ¬ (n < 1 ∨ b.length = 0) := (by simp at h24; simp; omega); rw [br_, if_neg g, if_pos (by simpa using h36)])) (by simp) rfl (by decide) (by simp only [go_sem, seval]) (by simp only [ak_, go_sem, seval]) (by simp only [ag_, go_sem, seval] <;> (simp))
  ·refine .skip (.seq (.rgnD [] enM (by simp only [go_sem, seval, bd_ (show -9223372036854775808 ≤ p * 7 by omega) (by omega), bd_ (show -9223372036854775808 ≤ p * 7 + 3 by omega) (by omega), tb_ (zf_ (k := p) hp (show 0 < b.length by cases b <;> simp_all)), tb_ (zf_ (k := p * 7 + 3) (by omega) (show 0 < b.length by cases b <;> simp_all)), ajd_]; rfl) (by rfl) ?_ ?_))
   ·(first | trivial | (simp; done) | (simp at h24; simp; omega) | (simp at h24 h36; refine ⟨⟨hp, by omega⟩, by omega⟩) | (have hb0 : (0 : Int) < b.length := (by cases b with | nil => simp at h24 | cons c b => simp); have q1 := Int.tmod_lt_of_pos p hb0; have q2 := Int.tmod_nonneg (b.length : Int) hp; have q3 := Int.tmod_lt_of_pos (p * 7 + 3) hb0; have q4 := Int.tmod_nonneg (b.length : Int) (show 0 ≤ p * 7 + 3 by omega); refine ⟨⟨⟨⟨by omega, q2, q1⟩, by omega⟩, q4, q3⟩, by omega⟩))
   refine .seq (.rgn [] (by simp only [go_sem, seval]; rfl) ?_ ?_)
   ·(first | trivial | (simp; done) | (simp at h24; simp; omega) | (simp at h24 h36; refine ⟨⟨hp, by omega⟩, by omega⟩) | (have hb0 : (0 : Int) < b.length := (by cases b with | nil => simp at h24 | cons c b => simp); have q1 := Int.tmod_lt_of_pos p hb0; have q2 := Int.tmod_nonneg (b.length : Int) hp; have q3 := Int.tmod_lt_of_pos (p * 7 + 3) hb0; have q4 := Int.tmod_nonneg (b.length : Int) (show 0 ≤ p * 7 + 3 by omega); refine ⟨⟨⟨⟨by omega, q2, q1⟩, by omega⟩, q4, q3⟩, by omega⟩))
   refine .seq (.rgn [] (by simp only [go_sem, seval]; rfl) ?_ ?_)
   ·(first | trivial | (simp; done) | (simp at h24; simp; omega) | (simp at h24 h36; refine ⟨⟨hp, by omega⟩, by omega⟩) | (have hb0 : (0 : Int) < b.length := (by cases b with | nil => simp at h24 | cons c b => simp); have q1 := Int.tmod_lt_of_pos p hb0; have q2 := Int.tmod_nonneg (b.length : Int) hp; have q3 := Int.tmod_lt_of_pos (p * 7 + 3) hb0; have q4 := Int.tmod_nonneg (b.length : Int) (show 0 ≤ p * 7 + 3 by omega); refine ⟨⟨⟨⟨by omega, q2, q1⟩, by omega⟩, q4, q3⟩, by omega⟩))
   refine .ret ⟨.inr rfl, ?_⟩
   exact Out.mem' (by simp only [Tryz.results62]; rfl) (by simp only [ax_, a6_, go_sem, seval]) (by simp only [a4_, rns, rn, go_sem, seval] <;> (have g : ¬ (n < 1 ∨ b.length = 0) := (by simp at h24; simp; omega); rw [br_, if_neg g, if_neg (by simpa using h36)]; rfl)) (by simp) rfl (by decide) (by simp only [go_sem, seval]) (by simp only [ak_, go_sem, seval]) (by simp only [ag_, go_sem, seval] <;> (simp))
end
section
set_option maxRecDepth 100000
set_option maxHeartbeats 4000000
theorem agr_ (b : Str) {p : Int} (hp : 0 ≤ p) (hp2 : p < 1099511627776) : 0 ≤ qq_ b p ∧ qq_ b p < 4611686018427387904 := by
 have c1 := UInt8.toNat_lt (b.getD (p.tmod b.length).toNat 0)
 have c2 := UInt8.toNat_lt (b.getD ((p * 7 + 3).tmod b.length).toNat 0)
 have d1 : 0 ≤ p.tdiv b.length := Int.tdiv_nonneg hp (Int.natCast_nonneg _)
 have d2 : p.tdiv b.length ≤ p := by rw [Int.tdiv_eq_ediv_of_nonneg hp]; exact Int.ediv_le_self _ hp
 unfold qq_ wr
 generalize (b.getD (p.tmod b.length).toNat 0).toNat = x at *
 generalize (b.getD ((p * 7 + 3).tmod b.length).toNat 0).toNat = y at *
 generalize p.tdiv b.length = q at *
 rw [bd_ (n := (x : Int) * 131) (by omega) (by omega), bd_ (n := (y : Int) * 1117) (by omega) (by omega), bd_ (n := p * 29) (by omega) (by omega), bd_ (n := q) (by omega) (by omega),
  bd_ (n := q * 53) (by omega) (by omega), bd_ (n := (x : Int) * 131 + y * 1117) (by omega) (by omega), bd_ (n := (x : Int) * 131 + y * 1117 + p * 29) (by omega) (by omega), bd_ (by omega) (by omega)]
 omega
theorem acx_ (b : Str) {p : Int} (hp : 0 ≤ p) (hp2 : p < 1099511627776) : 0 ≤ mixX b p := by
 obtain ⟨h1, h2⟩ := agr_ b hp hp2
 have d1 : 0 ≤ (qq_ b p).tdiv 64 := Int.tdiv_nonneg h1 (by decide)
 have d2 : (qq_ b p).tdiv 64 ≤ qq_ b p := by rw [Int.tdiv_eq_ediv_of_nonneg h1]; exact Int.ediv_le_self _ h1
 unfold mixX
 generalize (qq_ b p).tdiv 64 = q at *
 generalize qq_ b p = m at *
 rw [bd_ (n := q) (by omega) (by omega)]
 have e1 : (BitVec.ofInt IntKind.i64.bits m).toNat < 2 ^ 62 := by
  rw [BitVec.toNat_ofInt]
  have : m % ((2 ^ IntKind.i64.bits : Nat) : Int) = m := Int.emod_eq_of_lt h1 (by show m < 18446744073709551616; omega)
  rw [this]; omega
 have e2 : (BitVec.ofInt IntKind.i64.bits q).toNat < 2 ^ 62 := by
  rw [BitVec.toNat_ofInt]
  have : q % ((2 ^ IntKind.i64.bits : Nat) : Int) = q := Int.emod_eq_of_lt d1 (by show q < 18446744073709551616; omega)
  rw [this]; omega
 have e3 := Nat.xor_lt_two_pow e1 e2
 rw [← BitVec.toNat_xor] at e3
 rw [bd_ (by omega) (by omega)]
 omega
theorem d3_ (b : Str) {p n : Int} (hp : 0 ≤ p) (hp2 : p < 1099511627776) (hn : 1 ≤ n) : 0 ≤ br_ b p n ∧ br_ b p n < n := by
 unfold br_
 split
 ·omega
 ·split
  ·exact ⟨Int.tmod_nonneg _ (by omega), Int.tmod_lt_of_pos _ (by omega)⟩
  ·exact ⟨Int.tmod_nonneg _ (acx_ b hp hp2), Int.tmod_lt_of_pos _ (by omega)⟩
def inR (l : List Int) : List (List V) := l.map fun n => [.i .i64 n]
theorem an_ (l : List Int) : (inR l).length = l.length := by simp [inR]
theorem fy_ {l : List Int} {k : Nat} (h : k < l.length) : (inR l).getD k [] = [.i .i64 (l.getD k 0)] := by
 simp [inR, T8_, T6_ h]
theorem ac_ : ∀ l : List Int, ch_ (inR l) = true
 | [] => rfl
 | n :: l => by simp only [inR, List.map_cons, ch_, cs_, V.pure, Bool.true_and]; exact ac_ l
theorem aw_ : inR [] = [] := rfl
theorem ap_ (n : Int) (l : List Int) : inR (n :: l) = [.i .i64 n] :: inR l := rfl
theorem ao_ : bm_ [] = [] := rfl
theorem am_ (s : Str) (l : List Str) : bm_ (s :: l) = [.s s] :: bm_ l := rfl
def u2_ (b : Str) (p : Int) (l : List Int) : Int := l.getD (br_ b p l.length).toNat 0
def ofI (b : Str) (p : Int) (l : List Str) : Str := l.getD (br_ b p l.length).toNat []
theorem qr_ (b : Str) (p : Int) (l : List Int) (hl : 0 < l.length) (hb : b.length ≤ 2000) (hp : 0 ≤ p) (hp2 : p < 1099511627776) :
  ACall En 132 [.pt 0 2 0 0, .sl false (inR l)] [⟨92, 2, [[.sl false (byR b), .i .i64 p]]⟩] [.i .i64 (u2_ b p l)] [⟨92, 2, [[.sl false (byR b), .i .i64 (p + 1)]]⟩] := by
 have hr := d3_ b hp hp2 (show 1 ≤ (l.length : Int) by omega)
 refine al_ (fn := Tryz.f132) [0] Tryz.func132 rfl rfl (by simp) fun C => ?_
 rw [av_]
 simp only [Tryz.ntmps132, T7_, List.length_nil, Nat.reduceAdd, Nat.reduceSub, List.replicate_succ, List.replicate_zero, List.cons_append, List.nil_append, bt_]
 refine .seq (.rgn [] (by simp only [go_sem, seval]; rfl) ?_ ?_)
 ·first | trivial | simp
 refine .seq (.rgn [bw_ [0] [] (dv_ b p l.length hb hp hp2)] (by simp only [go_sem, seval, ag_, ak_, an_, ac_, fy_ (show (br_ b p l.length).toNat < l.length by omega)]; rfl) ?_ ?_)
 ·simp; omega
 refine .ret ⟨.inr rfl, ?_⟩
 exact Out.mem' (by simp only [Tryz.results132]; rfl) (by simp only [ax_, a6_, go_sem, seval]) (by simp only [a4_, rns, rn, go_sem, seval] <;> (rfl)) (by simp) rfl (by decide) (by simp only [go_sem, seval]) (by simp only [ak_, go_sem, seval]) (by simp only [ag_, go_sem, seval] <;> (simp))
theorem qo_ (b : Str) (p : Int) (l : List Str) (hl : 0 < l.length) (hb : b.length ≤ 2000) (hp : 0 ≤ p) (hp2 : p < 1099511627776) :
  ACall En 131 [.pt 0 2 0 0, .sl false (bm_ l)] [⟨92, 2, [[.sl false (byR b), .i .i64 p]]⟩] [.s (ofI b p l)] [⟨92, 2, [[.sl false (byR b), .i .i64 (p + 1)]]⟩] := by
 have hr := d3_ b hp hp2 (show 1 ≤ (l.length : Int) by omega)
 refine al_ (fn := Tryz.f131) [0] Tryz.func131 rfl rfl (by simp) fun C => ?_
 rw [av_]
 simp only [Tryz.ntmps131, T7_, List.length_nil, Nat.reduceAdd, Nat.reduceSub, List.replicate_succ, List.replicate_zero, List.cons_append, List.nil_append, bt_]
 refine .seq (.rgn [] (by simp only [go_sem, seval]; rfl) ?_ ?_)
 ·first | trivial | simp
 refine .seq (.rgn [bw_ [0] [] (dv_ b p l.length hb hp hp2)] (by simp only [go_sem, seval, ag_, ak_, ab_, cj_ (show (br_ b p l.length).toNat < l.length by omega)]; rfl) ?_ ?_)
 ·simp; omega
 refine .ret ⟨.inr rfl, ?_⟩
 exact Out.mem' (by simp only [Tryz.results131]; rfl) (by simp only [ax_, a6_, go_sem, seval]) (by simp only [a4_, rns, rn, go_sem, seval] <;> (rfl)) (by simp) rfl (by decide) (by simp only [go_sem, seval]) (by simp only [ak_, go_sem, seval]) (by simp only [ag_, go_sem, seval] <;> (simp))
end
section
set_option maxRecDepth 100000
set_option maxHeartbeats 4000000
theorem ad8_ : ACall En 195 [.sl false []] [] [.ow 0 4 0 0] [⟨64, 4, []⟩] := by
 refine al_ (fn := Tryz.f195) [17] Tryz.func195 rfl rfl (by simp) fun C => ?_
 rw [av_]
 simp only [Tryz.ntmps195, T7_, List.length_nil, Nat.reduceAdd, Nat.reduceSub, List.replicate_succ, List.replicate_zero, List.cons_append, List.nil_append, bt_]
 refine .seq (.rgn [] (by simp only [go_sem, seval]; rfl) ?_ ?_)
 ·first | trivial | simp
 refine .seq (.seq (.rgnS [4] [nilO En] (by simp only [go_sem, seval]; rfl) ?_ ?_))
 ·first | trivial | simp
 refine .condQ (by simp only [go_sem, seval] <;> rfl) (by simp only [go_sem, seval]) ?_ ?_
 ·refine .seq (.rgn [] (by simp only [go_sem, seval]; rfl) ?_ ?_)
  ·first | trivial | simp
  refine .can (Can.ownSlot 2 17 64 4 (by simp only [go_sem, seval] <;> rfl) (by simp only [go_sem, seval]) (by simp only [go_sem, seval] <;> rfl)) ?_
  refine .ret ⟨.inr rfl, ?_⟩
  exact Out.mem' (by simp only [Tryz.results195]; rfl) (by simp only [ax_, a6_, go_sem, seval]) (by simp only [a4_, rns, rn, go_sem, seval] <;> (simp)) (by simp) rfl (by decide) (by simp only [go_sem, seval]) (by simp only [ak_, go_sem, seval]) (by simp only [ag_, go_sem, seval] <;> (simp))
 ·refine .skip (.seq (.rgn [] (by simp only [go_sem, seval]; rfl) ?_ ?_))
  ·first | trivial | simp
  refine .ret ⟨.inr rfl, ?_⟩
  exact Out.mem' (by simp only [Tryz.results195]; rfl) (by simp only [ax_, a6_, go_sem, seval]) (by simp only [a4_, rns, rn, go_sem, seval] <;> (simp)) (by simp) rfl (by decide) (by simp only [go_sem, seval]) (by simp only [ak_, go_sem, seval]) (by simp only [ag_, go_sem, seval] <;> (simp))
theorem adk_ (e : E) (r : List E) (hl : r.length < 1099511627776) : ACall En 195 [.sl false (eR (e :: r))] [] [.ow 0 4 0 (r.length + 1)] [⟨64, 4, eR (e :: r)⟩] := by
 refine al_ (fn := Tryz.f195) [17] Tryz.func195 rfl rfl (by simp) fun C => ?_
 rw [av_]
 simp only [Tryz.ntmps195, T7_, List.length_nil, Nat.reduceAdd, Nat.reduceSub, List.replicate_succ, List.replicate_zero, List.cons_append, List.nil_append, bt_]
 refine .seq (.rgn [] (by simp only [go_sem, seval, eR]; rfl) ?_ ?_)
 ·first | trivial | simp
 refine .seq (.seq (.rgnS [4] [nilO En] (by simp only [go_sem, seval, eR]; rfl) ?_ ?_))
 ·first | trivial | simp
 refine .condB (by simp only [go_sem, seval]; rfl) (by simp only [go_sem, seval]) (fun h4 => ?_) (fun h4 => ?_)
 ·exact absurd h4 (by simp)
 ·refine .skip (.seq (.rgn [] (by simp only [go_sem, seval, eR]; rfl) ?_ ?_))
  ·have := mj_ r; simp [my_, a7_]; omega
  refine .ret ⟨.inr rfl, ?_⟩
  exact Out.mem' (by simp only [Tryz.results195]; rfl) (by simp only [ax_, a6_, go_sem, seval]) (by simp only [a4_, rns, rn, go_sem, seval] <;> (simp)) (by simp) rfl (by decide) (by simp only [go_sem, seval]) (by simp only [ak_, go_sem, seval]) (by simp only [ag_, go_sem, seval] <;> (simp [eR, cl_, i4_, a7_]))
theorem agp_ (l : List E) (hl : l.length < 1099511627776) : ACall En 195 [.sl false (eR l)] [] [.ow 0 4 0 l.length] [⟨64, 4, eR l⟩] := by
 cases l with
 | nil => simp only [eR]; exact ad8_
 | cons e r => exact adk_ e r (by simp at hl; omega)
theorem aki_ (l : List E) (hl : l.length < 1099511627776) : ACall En 194 [.ow 0 4 0 l.length] [⟨64, 4, eR l⟩] [.ow 0 4 0 l.length] [⟨64, 4, eR l⟩] := by
 refine al_ (fn := Tryz.f194) [0] Tryz.func194 rfl rfl (by simp) fun C => ?_
 rw [av_]
 simp only [Tryz.ntmps194, T7_, List.length_nil, Nat.reduceAdd, Nat.reduceSub, List.replicate_succ, List.replicate_zero, List.cons_append, List.nil_append, bt_]
 refine .seq (.rgn [] (by simp only [go_sem, seval]; rfl) ?_ ?_)
 ·first | trivial | simp
 refine .seq (.rgn [] (by simp only [go_sem, seval]; rfl) ?_ ?_)
 ·first | trivial | simp
 refine .ret ⟨.inr rfl, ?_⟩
 exact Out.mem' (by simp only [Tryz.results194]; rfl) (by simp only [ax_, a6_, go_sem, seval]) (by simp only [a4_, rns, rn, go_sem, seval] <;> (simp)) (by simp) rfl (by decide) (by simp only [go_sem, seval]) (by simp only [ak_, go_sem, seval]) (by simp only [ag_, go_sem, seval] <;> (simp))
theorem aie_ (l : List E) (hl : l.length < 1099511627776) : ACall En 162 [.sl false (eR l)] [] [.ow 0 4 0 l.length] [⟨64, 4, eR l⟩] := by
 refine al_ (fn := Tryz.f162) [14] Tryz.func162 rfl rfl (by simp) fun C => ?_
 rw [av_]
 simp only [Tryz.ntmps162, T7_, List.length_nil, Nat.reduceAdd, Nat.reduceSub, List.replicate_succ, List.replicate_zero, List.cons_append, List.nil_append, bt_]
 refine .seq (.rgn [] (by simp only [go_sem, seval]; rfl) ?_ ?_)
 ·first | trivial | simp
 refine .seq (.rgn [bw_ [] [14] (agp_ l hl), bw_ [14] [] (aki_ l hl)] (by simp only [go_sem, seval]; rfl) ?_ ?_)
 ·first | trivial | simp
 refine .ret ⟨.inr rfl, ?_⟩
 exact Out.mem' (by simp only [Tryz.results162]; rfl) (by simp only [ax_, a6_, go_sem, seval]) (by simp only [a4_, rns, rn, go_sem, seval] <;> (simp)) (by simp) rfl (by decide) (by simp only [go_sem, seval]) (by simp only [ak_, go_sem, seval]) (by simp only [ag_, go_sem, seval] <;> (simp))
end
section
set_option maxRecDepth 100000
set_option maxHeartbeats 4000000
def m3_ (l : List E) (k : Nat) : List (List V) := eR (e4_ (l.take k) ++ l.drop k)
theorem vb_ (l : List E) (k : Nat) (h : k ≤ l.length) : (m3_ l k).length = l.length := by simp [m3_, mj_, g6_]; omega
theorem b3_ (l : List E) (k : Nat) : ch_ (m3_ l k) = true := i4_ _
theorem z2_ (l : List E) : m3_ l 0 = eR l := by simp [m3_, e4_]
theorem acs_ (l : List E) (k : Nat) (h : l.length ≤ k) : m3_ l k = eR (e4_ l) := by simp [m3_, T1_ h, List.drop_of_length_le h]
theorem af7_ {l : List E} {k : Nat} (h : k < l.length) {r : List V} (hr : r = eC (bare (l.getD k E0))) : (m3_ l k).set k r = m3_ l (k + 1) := by
 subst hr
 unfold m3_
 rw [x2_ h, xq_, xq_, xq_, List.set_append_right _ _ (by rw [mj_, g6_, List.length_take]; omega), mj_, g6_, List.length_take, Nat.min_eq_left (Nat.le_of_lt h), Nat.sub_self, List.drop_eq_getElem_cons h]
 simp only [eR, List.set_cons_zero, List.append_assoc, List.cons_append, List.nil_append]
theorem ah2_ : ∀ {l : List E} (r : List V), r ∈ eR l → r.length = 4 := fun {l} r hr => by
 rw [my_] at hr; obtain ⟨e, _, rfl⟩ := List.mem_map.1 hr; rw [a7_]; rfl
theorem b5_ (l : List E) (k j : Nat) : ((m3_ l k).getD j []).drop 4 = [] := by
 rw [T8_]
 cases h : (m3_ l k)[j]? with
 | none => rfl
 | some r => have := ah2_ r (List.mem_of_getElem? h); simp only [Option.getD_some]; exact List.drop_of_length_le (by omega)
mutual
theorem sp_ : ∀ e : E, sm e = true → sm (bare e) = true
 | .mk k n s kids, h => by
  simp only [sm, T5_] at h
  simp only [bare]
  by_cases hk : k = 4
  ·rw [if_pos hk]
   cases kids with
   | nil => simp only [vf_, sm, T5_]; exact ⟨⟨h.1.1, by simp⟩, rfl⟩
   | cons a r => simp only [vf_]; simp only [sms, T5_] at h; exact sp_ a h.2.1
  ·rw [if_neg hk]
   simp only [sm, T5_]
   exact ⟨⟨h.1.1, by rw [g6_]; exact h.1.2⟩, qz_ kids h.2⟩
theorem qz_ : ∀ l : List E, sms l = true → sms (e4_ l) = true
 | [], _ => by simp only [e4_, sms]
 | e :: r, h => by
  simp only [sms, T5_] at h
  simp only [e4_, sms, sp_ e h.1, qz_ r h.2, Bool.and_self]
end
theorem s3_ (e : E) : wf e = true → sm e = true → ACall En 122 [.ag (eC e)] [] [.ag (eC (bare e))] [] := by
 induction e using E.ind' with
 | h e ih =>
 intro hw hs
 obtain ⟨a1, a2, a3⟩ := fc_ hs
 obtain ⟨w1, w2⟩ := ahm_ hw
 have a4 := zl_ hs
 refine al_ (fn := Tryz.f122) [] Tryz.func122 rfl rfl (by simp) fun C => ?_
 rw [av_]
 simp only [Tryz.ntmps122, T7_, List.length_nil, Nat.reduceAdd, Nat.reduceSub, List.replicate_succ, List.replicate_zero, List.cons_append, List.nil_append, bt_]
 refine .seq (.rgn [] (by simp only [go_sem, seval, b3_, b5_]; rfl) ?_ ?_)
 ·first | trivial | simp
 refine .seq (.seq (.rgn [] (by simp only [go_sem, seval, b3_, b5_]; rfl) ?_ ?_))
 ·first | trivial | simp
 refine .condB (by simp only [go_sem, seval, b3_, b5_]; rfl) (by simp only [go_sem, seval, b3_, b5_]) (fun h8 => ?_) (fun h8 => ?_)
 ·refine .seq (.rgn [a3_ (ih (e.kids.getD 0 E0) (bp_ (w1 (by simpa using h8))) (te_ w2 _ (bp_ (w1 (by simpa using h8)))) (c7_ a3 _ (bp_ (w1 (by simpa using h8)))))] (by simp only [go_sem, seval, b3_, b5_, eb_ (w1 (by simpa using h8))]; rfl) ?_ ?_)
  ·have := w1 (by simpa using h8); simp; omega
  refine .ret ⟨.inr rfl, ?_⟩
  exact Out.plain (by simp only [Tryz.results122]; rfl) (by simp only [ax_, a6_, go_sem, seval, b3_, b5_] <;> (split <;> rfl)) (by simp only [a4_, go_sem, seval, b3_, b5_] <;> (rw [qx_ (e := e) (by simpa using h8) (w1 (by simpa using h8))])) (by simp only [go_sem, seval, b3_, b5_])
 ·refine .skip (.seq (.rgnD [bw_ [] [32] (aie_ e.kids a4)] enM (by simp only [go_sem, seval, b3_, b5_]; rfl) (by rfl) ?_ ?_))
  ·first | trivial | simp
  refine .seq (.seq (.rgn [] (by simp only [go_sem, seval, b3_, b5_]; rfl) ?_ ?_))
  ·first | trivial | simp
  refine .block (.loopK (fun k : Nat => ⟨[.no, .pt 11 4 0 0, .pt 12 4 0 0, .pt 13 4 0 0, .no, .no, .no, .no, .no, .no, .no, .no, .no, .no, .no, .no, .no, .no, .no, .no, .no, .no, .no, .no, .no, .sl false (eR e.kids), .i .i64 e.kids.length, .i .i64 k, .no, .no, .no, .no, .no, .no, .no, .no, .no, .no, .no, .no], be_ [(11, ⟨64, 4, [eC e]⟩), (12, ⟨64, 4, [[.i .i64 0, .i .i64 0, .s [], .sl true []]]⟩), (13, ⟨64, 4, [[.i .i64 e.kind, .i .i64 e.n, .s e.s, .ow 32 4 0 e.kids.length]]⟩), (32, ⟨64, 4, m3_ e.kids k⟩)], us [11, 12, 13, 32]⟩) (fun k : Nat => k ≤ e.kids.length) (fun k : Nat => e.kids.length - k) (0) ?_ ?_ (fun k hI => ?_))
  ·simp
  ·exact Can.weak (Weak.lit (by simp only [go_sem, seval, b3_, b5_, as_, leV, aq_, ar_, V.inn, us, T9_, Ta_] <;> (simp)) (by simp only [go_sem, seval, b3_, b5_, as_, leV, aq_, ar_, V.inn, us, T9_, Ta_]) (by simp only [go_sem, seval, b3_, b5_, as_, leV, aq_, ar_, V.inn, us, T9_, Ta_] <;> (simp [z2_, jz_, i4_])))
  refine .seq (.rgn [] (by simp only [go_sem, seval, b3_, b5_]; rfl) ?_ ?_)
  ·first | trivial | simp
  refine .seq (.condB (by simp only [go_sem, seval, b3_, b5_]; rfl) (by simp only [go_sem, seval, b3_, b5_]) (fun h28 => ?_) (fun h28 => ?_))
  ·refine .skip (.seq (.block (.seq (.rgn [] (by simp only [go_sem, seval, b3_, b5_, eb_ (show k < e.kids.length by simpa using h28)]; rfl) ?_ ?_))))
   ·simp at h28; simp; omega
   refine .rgnD [a3_ (ih (e.kids.getD k E0) (bp_ (by simpa using h28)) (te_ w2 _ (bp_ (by simpa using h28))) (c7_ a3 _ (bp_ (by simpa using h28))))] enM (by simp only [go_sem, seval, b3_, b5_, af7_ (show k < e.kids.length by simpa using h28) (a7_ _).symm, vb_ e.kids k hI, b3_]; rfl) (by rfl) ?_ ?_
   ·simp at h28; simp [vb_ e.kids k hI]; omega
   refine .rgn [] (by simp only [go_sem, seval, b3_, b5_]; rfl) ?_ ?_
   ·first | trivial | simp
   refine Exists.intro (k + 1) ⟨?_, ?_, ?_⟩
   ·simp at h28; omega
   ·simp at h28; omega
   exact Can.weak (Weak.lit (by simp only [go_sem, seval, b3_, b5_, as_, leV, aq_, ar_, V.inn, us, T9_, Ta_] <;> (rw [bd_ (by simp at h28; omega) (by simp at h28; omega)]; simp)) (by simp only [go_sem, seval, b3_, b5_, as_, leV, aq_, ar_, V.inn, us, T9_, Ta_]) (by simp only [go_sem, seval, b3_, b5_, as_, leV, aq_, ar_, V.inn, us, T9_, Ta_]))
  ·refine .exit (.seq (.rgn [] (by simp only [go_sem, seval, b3_, b5_]; rfl) ?_ ?_))
   ·first | trivial | simp
   refine .frz 32 (by simp only [go_sem, seval, b3_, b5_]; rfl) (by simp only [go_sem, seval, b3_, b5_]) (by simp only [go_sem, seval, b3_, b5_]; rfl) (by simp only [go_sem, seval, b3_, b5_]; rfl) ?_
   refine .ret ⟨.inr rfl, ?_⟩
   exact Out.plain (by simp only [Tryz.results122]; rfl) (by simp only [ax_, a6_, go_sem, seval, b3_, b5_] <;> (split <;> rfl)) (by simp only [a4_, go_sem, seval, b3_, b5_] <;> (simp at h28; rw [md_ (e := e) (by simpa using h8), acs_ _ _ h28]; simp [a7_, g6_, mj_, E.kind, E.n, E.s, E.kids, T1_])) (by simp only [go_sem, seval, b3_, b5_])
end
section
set_option maxRecDepth 100000
set_option maxHeartbeats 1000000
def wdR (l : Wd) : List (List V) := l.map fun p => [.s p.1, .i .i64 p.2]
theorem ah_ (l : Wd) : (wdR l).length = l.length := by simp [wdR]
theorem k1_ (a b : Wd) : wdR (a ++ b) = wdR a ++ wdR b := by simp [wdR]
theorem ae_ : ∀ l : Wd, ch_ (wdR l) = true
 | [] => rfl
 | p :: l => by simp only [wdR, List.map_cons, ch_, cs_, V.pure, Bool.true_and]; exact ae_ l
theorem aix_ (l : Wd) : ∀ r ∈ wdR l, r.length = 2 := fun r hr => by
 obtain ⟨p, _, rfl⟩ := List.mem_map.1 hr; rfl
theorem hx_ {l : Wd} {k : Nat} (h : k < l.length) : (wdR l).getD k [] = [.s (l.getD k ([], 0)).1, .i .i64 (l.getD k ([], 0)).2] := by
 simp [wdR, T8_, T6_ h]
theorem bf_ (l : Wd) : (∀ r, r ∈ wdR l → r.length = 2) = True := eq_true (aix_ l)
theorem xe_ {e : E} {d : Nat} (h : form e d = true) (hm : many e d ≤ 1000) (must nx : Int) : (src e must nx).length ≤ 3000 := by
 rw [← List.length_map (f := (·.1)), em_]
 have := de_ d e must h; omega
theorem i1_ (e : E) (must nx : Int) : (src e must nx).length = (wds e must).length := by
 rw [← em_ e must nx, List.length_map]
theorem fb_ {n : Int} (h : 0 ≤ n) : Lib.itoa n = Lib.decDigits n.toNat := by unfold Lib.itoa; rw [if_neg (by omega)]
theorem zw_ {e : E} {d : Int} (h : form e d = true) (must nx : Int) : src e must nx = brk (decide (e.kind = 3) && decide (bb_ e.s < must)) (src e 0 nx) := by
 rcases (bl_ h).2 with ⟨k1, _⟩ | ⟨k1, _⟩ | ⟨k1, h1, h2, h3, h4, h5⟩ | ⟨k1, h1, h2, h3, h4⟩
 ·rw [show (decide (e.kind = 3)) = false by simp [k1]]; cases e; simp only [E.kind] at k1; subst k1; simp [src, brk]
 ·rw [show (decide (e.kind = 3)) = false by simp [k1]]; cases e; simp only [E.kind] at k1; subst k1; simp [src, brk]
 ·have := cr_ h2
  rw [hp_ k1 h3, hp_ k1 h3, show decide (bb_ e.s < 0) = false by simp; omega]
  simp [k1, brk]
 ·rw [mg_ k1 h3, mg_ k1 h3]; simp [k1, brk]
def mx2 (t : Int) : Int := if t > 2 then t else 2
theorem aem_ (t : Int) : mx2 t = max 2 t := by unfold mx2; split <;> omega
theorem lk_ (d : Nat) : ∀ (e : E) (must nx : Int), form e d = true → sm e = true → many e d ≤ 1000 → 0 ≤ nx → nx + cnt e ≤ 1000000 → must ≤ 1000 → 
  ACall En 121 [.ag (eC e), .i .i64 must, .pt 0 1 0 0] [⟨3, 1, [[.i .i64 nx]]⟩] [.ow 1 2 0 (src e must nx).length] [⟨3, 1, [[.i .i64 (nx + cnt e)]]⟩, ⟨107, 2, wdR (src e must nx)⟩] := by
 induction d with
 | zero => intro e must nx h; have := (bl_ h).1; omega
 | succ d ih =>
 intro e must nx h hs hm hx hx2 hmu
 obtain ⟨a1, a2, a3⟩ := fc_ hs
 have e1 : ((d + 1 : Nat) : Int) - 1 = (d : Int) := by omega
 have hd1 : (1 : Int) ≤ ((d + 1 : Nat) : Int) := by omega
 have hc := (de_ (d + 1) e must h).2.2.2
 have g12 : (e.kind = 1 ∨ e.kind = 2) → cnt e = 1 ∧ src e must nx = [(if e.kind = 1 then Lib.decDigits e.n.toNat else e.s, nx)] ∧ (e.kind = 1 → 0 ≤ e.n ∧ e.n ≤ 1000000) := fun hk => by
  rcases (bl_ h).2 with ⟨k1, h1, h2, h3, h4⟩ | ⟨k1, h1, h2, h3⟩ | ⟨k1, _⟩ | ⟨k1, _⟩ <;> try omega
  ·cases e; simp only [E.kind, E.kids] at k1 h4; subst k1 h4; simp [cnt, qn_, src, E.n, E.kind] at *; omega
  ·cases e; simp only [E.kind, E.kids] at k1 h3; subst k1 h3; simp [cnt, qn_, src, E.s, E.kind]
 have g3 : e.kind = 3 → e.kids.length = 2 ∧ 1 ≤ bb_ e.s ∧ bb_ e.s ≤ 3 ∧ form (e.kids.getD 0 E0) d = true ∧ form (e.kids.getD 1 E0) d = true ∧ many (e.kids.getD 0 E0) d ≤ 1000 ∧ many (e.kids.getD 1 E0) d ≤ 1000 ∧ 0 ≤ cnt (e.kids.getD 0 E0) ∧ cnt (e.kids.getD 0 E0) ≤ 1000 ∧ nx + cnt e = nx + 1 + cnt (e.kids.getD 0 E0) + cnt (e.kids.getD 1 E0) ∧ 0 ≤ cnt (e.kids.getD 1 E0) := fun hk => by
  rcases (bl_ h).2 with ⟨k1, _⟩ | ⟨k1, _⟩ | ⟨k1, h1, h2, h3, h4, h5⟩ | ⟨k1, _⟩ <;> try omega
  rw [e1] at h4 h5
  have := cr_ h2
  have hm2 := h9_ hd1 h3
  rw [e1] at hm2
  have q1 := de_ d _ 0 h4
  have q2 := de_ d _ 0 h5
  exact ⟨h3, this.1, this.2, h4, h5, by omega, by omega, by omega, by omega, by rw [le_ k1 h3]; omega, by omega⟩
 have g4 : e.kind = 4 → e.kids.length = 1 ∧ form (e.kids.getD 0 E0) d = true ∧ many (e.kids.getD 0 E0) d ≤ 1000 ∧ cnt e = cnt (e.kids.getD 0 E0) := fun hk => by
  rcases (bl_ h).2 with ⟨k1, _⟩ | ⟨k1, _⟩ | ⟨k1, _⟩ | ⟨k1, h1, h2, h3, h4⟩ <;> try omega
  rw [e1] at h4
  have hm2 := jx_ hd1 h3
  rw [e1] at hm2
  have q1 := de_ d _ 0 h4
  exact ⟨h3, h4, by omega, th_ k1 h3⟩
 have g0 : e.kind = 1 ∨ e.kind = 2 ∨ e.kind = 3 ∨ e.kind = 4 := by
  rcases (bl_ h).2 with ⟨k1, _⟩ | ⟨k1, _⟩ | ⟨k1, _⟩ | ⟨k1, _⟩ <;> omega
 have hT : e.kind = 3 → src e must nx = brk (decide (bb_ e.s < must)) (src (e.kids.getD 0 E0) (mx2 (bb_ e.s)) (nx + 1) ++ (e.s, nx) :: src (e.kids.getD 1 E0) (bb_ e.s + 1) (nx + 1 + cnt (e.kids.getD 0 E0))) ∧ nx + cnt e = nx + 1 + cnt (e.kids.getD 0 E0) + cnt (e.kids.getD 1 E0) := fun hk => ⟨by rw [aem_]; exact hp_ hk (g3 hk).1 _ _, (g3 hk).2.2.2.2.2.2.2.2.2.1⟩
 have hA : e.kind = 4 → src e must nx = src (e.kids.getD 0 E0) 4 nx ++ [([97, 115], -1), (e.s, -1)] ∧ cnt e = cnt (e.kids.getD 0 E0) := fun hk => ⟨mg_ hk (g4 hk).1 _ _, (g4 hk).2.2.2⟩
 have hL : ∀ k, k < e.kids.length → ∀ m n, (src (e.kids.getD k E0) m n).length ≤ 3000 := fun k hk m n => by
  rcases g0 with hk4 | hk4 | hk4 | hk4
  ·rcases (bl_ h).2 with ⟨k1, h1, h2, h3, h4⟩ | ⟨k1, _⟩ | ⟨k1, _⟩ | ⟨k1, _⟩ <;> try omega
   rw [h4] at hk; simp at hk
  ·rcases (bl_ h).2 with ⟨k1, _⟩ | ⟨k1, h1, h2, h3⟩ | ⟨k1, _⟩ | ⟨k1, _⟩ <;> try omega
   rw [h3] at hk; simp at hk
  ·have := g3 hk4
   have hk2 : k = 0 ∨ k = 1 := by omega
   rcases hk2 with rfl | rfl
   ·exact xe_ this.2.2.2.1 this.2.2.2.2.2.1 _ _
   ·exact xe_ this.2.2.2.2.1 this.2.2.2.2.2.2.1 _ _
  ·have := g4 hk4
   have hk2 : k = 0 := by omega
   subst hk2
   exact xe_ this.2.1 this.2.2.1 _ _
 refine al_ (fn := Tryz.f121) [0, 150] Tryz.func121 rfl rfl (by simp) fun C => ?_
 rw [av_]
 simp only [Tryz.ntmps121, T7_, List.length_nil, Nat.reduceAdd, Nat.reduceSub, List.replicate_succ, List.replicate_zero, List.cons_append, List.nil_append, bt_]
 refine .seq (.rgn [] (by simp only [go_sem, seval, ah_, ae_, T2_, T1_]; rfl) ?_ ?_)
 ·(first | trivial | (simp; done) | (simp [ce_, List.forall_mem_append, bf_]; done))
 refine .seq (.rgn [] (by simp only [go_sem, seval, ah_, ae_, T2_, T1_]; rfl) ?_ ?_)
 ·(first | trivial | (simp; done) | (simp [ce_, List.forall_mem_append, bf_]; done))
 refine .seqJ (fun u : Unit => ⟨[.no, .no, .no, .no, .no, .no, .no, .ow 150 2 0 (src e must nx).length, .no, .no, .no, .no, .no, .no, .no, .no, .no, .no, .no, .no, .no, .no, .no, .no, .no, .no, .no, .no, .no, .no, .no, .no, .no, .no, .no, .no, .no, .no, .no, .no, .no, .no, .no, .no, .no, .no, .no, .no, .no, .no, .no, .no, .no, .no, .no, .no, .no, .no, .no, .no, .no, .no, .no, .no, .no, .no, .no, .no, .no, .no, .no, .no, .no, .no, .no, .no, .no, .no, .no, .no, .no, .no, .no, .no, .no, .no, .no, .no, .no, .no, .no, .no, .no, .no, .no, .no, .no], be_ [(0, ⟨3, 1, [[.i .i64 (nx + cnt e)]]⟩), (150, ⟨107, 2, wdR (src e must nx)⟩)], us [150]⟩) (fun u : Unit => True) ?_ (fun u hJ => ?_)
 ·refine .seq (.rgn [] (by simp only [go_sem, seval, ah_, ae_, T2_, T1_]; rfl) ?_ ?_)
  ·(first | trivial | (simp; done) | (simp [ce_, List.forall_mem_append, bf_]; done))
  refine .block (.seqJ (fun q : Bool => ⟨[.no, .i .i64 must, .pt 0 1 0 0, .pt 13 4 0 0, .no, .no, .no, .no, .no, .no, .no, .no, .i .i64 e.kind, .b q, .no, .no, .no, .no, .no, .no, .no, .no, .no, .no, .no, .no, .no, .no, .no, .no, .no, .no, .no, .no, .no, .no, .no, .no, .no, .no, .no, .no, .no, .no, .no, .no, .no, .no, .no, .no, .no, .no, .no, .no, .no, .no, .no, .no, .no, .no, .no, .no, .no, .no, .no, .no, .no, .no, .no, .no, .no, .no, .no, .no, .no, .no, .no, .no, .no, .no, .no, .no, .no, .no, .no, .no, .no, .no, .no, .no, .no, .no, .no, .no, .no, .no, .no], be_ [(0, ⟨3, 1, [[.i .i64 nx]]⟩), (13, ⟨64, 4, [eC e]⟩)], us [13]⟩) (fun q : Bool => q = (e.kind == 1 || e.kind == 2)) ?_ (fun q hJ => ?_))
  ·refine .seq (.rgn [] (by simp only [go_sem, seval, ah_, ae_, T2_, T1_]; rfl) ?_ ?_)
   ·(first | trivial | (simp; done) | (simp [ce_, List.forall_mem_append, bf_]; done))
   refine .condB (by simp only [go_sem, seval, ah_, ae_, T2_, T1_]; rfl) (by simp only [go_sem, seval, ah_, ae_, T2_, T1_]) (fun h13 => ?_) (fun h13 => ?_)
   ·refine .skip ?_
    refine Exists.intro ((e.kind == 1 || e.kind == 2)) ⟨?_, ?_⟩
    ·rfl
    exact Can.weak (Weak.lit (by simp only [go_sem, seval, ah_, ae_, T2_, T1_, as_, leV, aq_, ar_, V.inn, us, T9_, Ta_] <;> (simp_all)) (by simp only [go_sem, seval, ah_, ae_, T2_, T1_, as_, leV, aq_, ar_, V.inn, us, T9_, Ta_]) (by simp only [go_sem, seval, ah_, ae_, T2_, T1_, as_, leV, aq_, ar_, V.inn, us, T9_, Ta_]))
   ·refine .rgn [] (by simp only [go_sem, seval, ah_, ae_, T2_, T1_]; rfl) ?_ ?_
    ·(first | trivial | (simp; done) | (simp [ce_, List.forall_mem_append, bf_]; done))
    refine Exists.intro ((e.kind == 1 || e.kind == 2)) ⟨?_, ?_⟩
    ·rfl
    exact Can.weak (Weak.lit (by simp only [go_sem, seval, ah_, ae_, T2_, T1_, as_, leV, aq_, ar_, V.inn, us, T9_, Ta_] <;> (simp_all)) (by simp only [go_sem, seval, ah_, ae_, T2_, T1_, as_, leV, aq_, ar_, V.inn, us, T9_, Ta_]) (by simp only [go_sem, seval, ah_, ae_, T2_, T1_, as_, leV, aq_, ar_, V.inn, us, T9_, Ta_]))
  refine .condB (by simp only [go_sem, seval, ah_, ae_, T2_, T1_]; rfl) (by simp only [go_sem, seval, ah_, ae_, T2_, T1_]) (fun h13 => ?_) (fun h13 => ?_)
  ·refine .seq (.rgn [] (by simp only [go_sem, seval, ah_, ae_, T2_, T1_]; rfl) ?_ ?_)
   ·(first | trivial | (simp; done) | (simp [ce_, List.forall_mem_append, bf_]; done))
   refine .seqJ (fun s : Str => ⟨[.no, .no, .pt 0 1 0 0, .pt 13 4 0 0, .no, .no, .no, .no, .s s, .no, .no, .no, .no, .no, .no, .no, .no, .no, .no, .no, .no, .no, .no, .no, .no, .no, .no, .no, .no, .no, .no, .no, .no, .no, .no, .no, .no, .no, .no, .no, .no, .no, .no, .no, .no, .no, .no, .no, .no, .no, .no, .no, .no, .no, .no, .no, .no, .no, .no, .no, .no, .no, .no, .no, .no, .no, .no, .no, .no, .no, .no, .no, .no, .no, .no, .no, .no, .no, .no, .no, .no, .no, .no, .no, .no, .no, .no, .no, .no, .no, .no, .no, .no, .no, .no, .no, .no], be_ [(0, ⟨3, 1, [[.i .i64 nx]]⟩), (13, ⟨64, 4, [eC e]⟩)], us [13]⟩) (fun s : Str => s = if e.kind = 1 then Lib.decDigits e.n.toNat else e.s) ?_ (fun s hJ => ?_)
   ·refine .seq (.rgn [] (by simp only [go_sem, seval, ah_, ae_, T2_, T1_]; rfl) ?_ ?_)
    ·(first | trivial | (simp; done) | (simp [ce_, List.forall_mem_append, bf_]; done))
    refine .condB (by simp only [go_sem, seval, ah_, ae_, T2_, T1_]; rfl) (by simp only [go_sem, seval, ah_, ae_, T2_, T1_]) (fun h20 => ?_) (fun h20 => ?_)
    ·refine .rgn [a3_ (xb_ e.n (by have := (g12 (.inl (by simpa using h20))).2.2 (by simpa using h20); omega) (by have := (g12 (.inl (by simpa using h20))).2.2 (by simpa using h20); omega))] (by simp only [go_sem, seval, ah_, ae_, T2_, T1_]; rfl) ?_ ?_
     ·(first | trivial | (simp; done) | (simp [ce_, List.forall_mem_append, bf_]; done))
     refine Exists.intro (Lib.itoa e.n) ⟨?_, ?_⟩
     ·simp_all [fb_]
     exact Can.weak (Weak.lit (by simp only [go_sem, seval, ah_, ae_, T2_, T1_, as_, leV, aq_, ar_, V.inn, us, T9_, Ta_] <;> (simp_all)) (by simp only [go_sem, seval, ah_, ae_, T2_, T1_, as_, leV, aq_, ar_, V.inn, us, T9_, Ta_]) (by simp only [go_sem, seval, ah_, ae_, T2_, T1_, as_, leV, aq_, ar_, V.inn, us, T9_, Ta_]))
    ·refine .skip ?_
     refine Exists.intro (e.s) ⟨?_, ?_⟩
     ·simp_all [fb_]
     exact Can.weak (Weak.lit (by simp only [go_sem, seval, ah_, ae_, T2_, T1_, as_, leV, aq_, ar_, V.inn, us, T9_, Ta_] <;> (simp_all)) (by simp only [go_sem, seval, ah_, ae_, T2_, T1_, as_, leV, aq_, ar_, V.inn, us, T9_, Ta_]) (by simp only [go_sem, seval, ah_, ae_, T2_, T1_, as_, leV, aq_, ar_, V.inn, us, T9_, Ta_]))
   refine .seq (.rgnS [29] [bsO En] (by simp only [go_sem, seval, ah_, ae_, T2_, T1_]; rfl) ?_ ?_)
   ·(first | trivial | (simp; done) | (simp [ce_, List.forall_mem_append, bf_]; done))
   refine .rgn [] (by simp only [go_sem, seval, ah_, ae_, T2_, T1_, bd_ (show -9223372036854775808 ≤ nx + 1 by omega) (by omega)]; rfl) ?_ ?_
   ·(first | trivial | (simp; done) | (simp [ce_, List.forall_mem_append, bf_]; done))
   refine Exists.intro (()) ⟨?_, ?_⟩
   ·trivial
   refine Can.trans (Can.swap 39 150 (by decide) (by decide) (by decide) (by decide) (by simp only [go_sem, seval, ah_, ae_, T2_, T1_, V.cl]) (by simp only [go_sem, seval, ah_, ae_, T2_, T1_, V.cl]) (by simp only [go_sem, seval, ah_, ae_, T2_, T1_, bq_, sw, swM, rnB] <;> rfl) (by simp only [go_sem, seval, ah_, ae_, T2_, T1_, bq_, sw, swM, rnB] <;> rfl) (by simp only [go_sem, seval, ah_, ae_, T2_, T1_, bq_, sw, swM, rnB] <;> rfl)) ?_
   exact Can.weak (Weak.lit (by simp only [go_sem, seval, ah_, ae_, T2_, T1_, as_, leV, aq_, ar_, V.inn, us, T9_, Ta_] <;> (first | (rw [(hT (by simpa using h35)).1, h74]; simp [brk]; (first | done | omega)) | (rw [(hA (by simpa using h82)).1]; simp) | (rw [(g12 (by simp_all)).2.1]; rfl))) (by simp only [go_sem, seval, ah_, ae_, T2_, T1_, as_, leV, aq_, ar_, V.inn, us, T9_, Ta_]) (by simp only [go_sem, seval, ah_, ae_, T2_, T1_, as_, leV, aq_, ar_, V.inn, us, T9_, Ta_] <;> (first | (rw [(hT (by simpa using h35)).1, (hT (by simpa using h35)).2, h74]; simp [brk, wdR, cl_, k1_]) | (rw [(hA (by simpa using h82)).1, (hA (by simpa using h82)).2]; simp [wdR]) | (rw [(g12 (by simp_all)).2.1, (g12 (by simp_all)).1, hJ]; simp [wdR]))))
  ·refine .seq (.rgn [] (by simp only [go_sem, seval, ah_, ae_, T2_, T1_]; rfl) ?_ ?_)
   ·(first | trivial | (simp; done) | (simp [ce_, List.forall_mem_append, bf_]; done))
   refine .condB (by simp only [go_sem, seval, ah_, ae_, T2_, T1_]; rfl) (by simp only [go_sem, seval, ah_, ae_, T2_, T1_]) (fun h35 => ?_) (fun h35 => ?_)
   ·refine .seq (.rgnD [a3_ (ja_ e.s)] enM (by simp only [go_sem, seval, ah_, ae_, T2_, T1_]; rfl) (by rfl) ?_ ?_)
    ·(first | trivial | (simp; done) | (simp [ce_, List.forall_mem_append, bf_]; done))
    refine .seq (.rgn [] (by simp only [go_sem, seval, ah_, ae_, T2_, T1_, bd_ (show -9223372036854775808 ≤ nx + 1 by omega) (by omega)]; rfl) ?_ ?_)
    ·(first | trivial | (simp; done) | (simp [ce_, List.forall_mem_append, bf_]; done))
    refine .seq (.rgnD [bw_ [0] [65] (ih (e.kids.getD 0 E0) (mx2 (bb_ e.s)) (nx + 1) (g3 (by simpa using h35)).2.2.2.1 (c7_ a3 _ (bp_ (by have := g3 (by simpa using h35); omega))) (g3 (by simpa using h35)).2.2.2.2.2.1 (by omega) (by have := g3 (by simpa using h35); omega) (by have := g3 (by simpa using h35); rw [aem_]; omega))] enM (by simp only [go_sem, seval, ah_, ae_, T2_, T1_, eb_ (show 0 < e.kids.length by have := g3 (by simpa using h35); omega), ag_, ak_]; rfl) (by rfl) ?_ ?_)
    ·have q := g3 (by simpa using h35); have q1 := hL 0 (by omega) (mx2 (bb_ e.s)) (nx + 1); have q2 : 0 < e.kids.length := (by omega); simp only [mx2, gt_iff_lt] at q1 ⊢; simp [-List.getD_eq_getElem?_getD, ce_, q2]; omega
    refine .seq (.rgn [bw_ [0] [80] (ih (e.kids.getD 1 E0) (bb_ e.s + 1) (nx + 1 + cnt (e.kids.getD 0 E0)) (g3 (by simpa using h35)).2.2.2.2.1 (c7_ a3 _ (bp_ (by have := g3 (by simpa using h35); omega))) (g3 (by simpa using h35)).2.2.2.2.2.2.1 (by have := g3 (by simpa using h35); omega) (by have := g3 (by simpa using h35); omega) (by have := g3 (by simpa using h35); omega))] (by simp only [go_sem, seval, ah_, ae_, T2_, T1_, eb_ (show 1 < e.kids.length by have := g3 (by simpa using h35); omega), ag_, ak_, bd_ (show -9223372036854775808 ≤ bb_ e.s + 1 by have := g3 (by simpa using h35); omega) (by have := g3 (by simpa using h35); omega)]; rfl) ?_ ?_)
    ·have q := g3 (by simpa using h35); have q1 := hL 0 (by omega) (mx2 (bb_ e.s)) (nx + 1); have q2 : 1 < e.kids.length := (by omega); have q3 := hL 1 (by omega) (bb_ e.s + 1) (nx + 1 + cnt (e.kids.getD 0 E0)); simp [-List.getD_eq_getElem?_getD, ce_, q2, bf_]; omega
    refine .seq (.rgn [] (by simp only [go_sem, seval, ah_, ae_, T2_, T1_]; rfl) ?_ ?_)
    ·(first | trivial | (simp; done) | (simp [ce_, List.forall_mem_append, bf_]; done))
    refine .condB (by simp only [go_sem, seval, ah_, ae_, T2_, T1_]; rfl) (by simp only [go_sem, seval, ah_, ae_, T2_, T1_]) (fun h74 => ?_) (fun h74 => ?_)
    ·refine .rgn [] (by simp only [go_sem, seval, ah_, ae_, T2_, T1_]; rfl) ?_ ?_
     ·have q := g3 (by simpa using h35); have q1 := hL 0 (by omega) (mx2 (bb_ e.s)) (nx + 1); have q3 := hL 1 (by omega) (bb_ e.s + 1) (nx + 1 + cnt (e.kids.getD 0 E0)); simp [-List.getD_eq_getElem?_getD, ce_, bf_, or_imp, forall_and]; (first | omega)
     refine Exists.intro (()) ⟨?_, ?_⟩
     ·trivial
     refine Can.trans (Can.swap 91 150 (by decide) (by decide) (by decide) (by decide) (by simp only [go_sem, seval, ah_, ae_, T2_, T1_, V.cl]) (by simp only [go_sem, seval, ah_, ae_, T2_, T1_, V.cl]) (by simp only [go_sem, seval, ah_, ae_, T2_, T1_, bq_, sw, swM, rnB] <;> rfl) (by simp only [go_sem, seval, ah_, ae_, T2_, T1_, bq_, sw, swM, rnB] <;> rfl) (by simp only [go_sem, seval, ah_, ae_, T2_, T1_, bq_, sw, swM, rnB] <;> rfl)) ?_
     exact Can.weak (Weak.lit (by simp only [go_sem, seval, ah_, ae_, T2_, T1_, as_, leV, aq_, ar_, V.inn, us, T9_, Ta_] <;> (first | (rw [(hT (by simpa using h35)).1, h74]; simp [brk]; (first | done | omega)) | (rw [(hA (by simpa using h82)).1]; simp) | (rw [(g12 (by simp_all)).2.1]; rfl))) (by simp only [go_sem, seval, ah_, ae_, T2_, T1_, as_, leV, aq_, ar_, V.inn, us, T9_, Ta_]) (by simp only [go_sem, seval, ah_, ae_, T2_, T1_, as_, leV, aq_, ar_, V.inn, us, T9_, Ta_] <;> (first | (rw [(hT (by simpa using h35)).1, (hT (by simpa using h35)).2, h74]; simp [brk, wdR, cl_, k1_]) | (rw [(hA (by simpa using h82)).1, (hA (by simpa using h82)).2]; simp [wdR]) | (rw [(g12 (by simp_all)).2.1, (g12 (by simp_all)).1, hJ]; simp [wdR]))))
    ·refine .skip ?_
     refine Exists.intro (()) ⟨?_, ?_⟩
     ·trivial
     refine Can.trans (Can.swap 81 150 (by decide) (by decide) (by decide) (by decide) (by simp only [go_sem, seval, ah_, ae_, T2_, T1_, V.cl]) (by simp only [go_sem, seval, ah_, ae_, T2_, T1_, V.cl]) (by simp only [go_sem, seval, ah_, ae_, T2_, T1_, bq_, sw, swM, rnB] <;> rfl) (by simp only [go_sem, seval, ah_, ae_, T2_, T1_, bq_, sw, swM, rnB] <;> rfl) (by simp only [go_sem, seval, ah_, ae_, T2_, T1_, bq_, sw, swM, rnB] <;> rfl)) ?_
     exact Can.weak (Weak.lit (by simp only [go_sem, seval, ah_, ae_, T2_, T1_, as_, leV, aq_, ar_, V.inn, us, T9_, Ta_] <;> (first | (rw [(hT (by simpa using h35)).1, h74]; simp [brk]; (first | done | omega)) | (rw [(hA (by simpa using h82)).1]; simp) | (rw [(g12 (by simp_all)).2.1]; rfl))) (by simp only [go_sem, seval, ah_, ae_, T2_, T1_, as_, leV, aq_, ar_, V.inn, us, T9_, Ta_]) (by simp only [go_sem, seval, ah_, ae_, T2_, T1_, as_, leV, aq_, ar_, V.inn, us, T9_, Ta_] <;> (first | (rw [(hT (by simpa using h35)).1, (hT (by simpa using h35)).2, h74]; simp [brk, wdR, cl_, k1_]) | (rw [(hA (by simpa using h82)).1, (hA (by simpa using h82)).2]; simp [wdR]) | (rw [(g12 (by simp_all)).2.1, (g12 (by simp_all)).1, hJ]; simp [wdR]))))
   ·refine .seq (.rgn [] (by simp only [go_sem, seval, ah_, ae_, T2_, T1_]; rfl) ?_ ?_)
    ·(first | trivial | (simp; done) | (simp [ce_, List.forall_mem_append, bf_]; done))
    refine .condB (by simp only [go_sem, seval, ah_, ae_, T2_, T1_]; rfl) (by simp only [go_sem, seval, ah_, ae_, T2_, T1_]) (fun h82 => ?_) (fun h82 => ?_)
    ·refine .rgnD [bw_ [0] [99] (ih (e.kids.getD 0 E0) 4 nx (g4 (by simpa using h82)).2.1 (c7_ a3 _ (bp_ (by have := g4 (by simpa using h82); omega))) (g4 (by simpa using h82)).2.2.1 hx (by have := g4 (by simpa using h82); omega) (by decide))] enM (by simp only [go_sem, seval, ah_, ae_, T2_, T1_, eb_ (show 0 < e.kids.length by have := g4 (by simpa using h82); omega), ag_, ak_]; rfl) (by rfl) ?_ ?_
     ·have q := g4 (by simpa using h82); have q1 := hL 0 (by omega) 4 nx; have q2 : 0 < e.kids.length := (by omega); simp [-List.getD_eq_getElem?_getD, ce_, q2]; omega
     refine Exists.intro (()) ⟨?_, ?_⟩
     ·trivial
     refine Can.trans (Can.swap 105 150 (by decide) (by decide) (by decide) (by decide) (by simp only [go_sem, seval, ah_, ae_, T2_, T1_, V.cl]) (by simp only [go_sem, seval, ah_, ae_, T2_, T1_, V.cl]) (by simp only [go_sem, seval, ah_, ae_, T2_, T1_, bq_, sw, swM, rnB] <;> rfl) (by simp only [go_sem, seval, ah_, ae_, T2_, T1_, bq_, sw, swM, rnB] <;> rfl) (by simp only [go_sem, seval, ah_, ae_, T2_, T1_, bq_, sw, swM, rnB] <;> rfl)) ?_
     exact Can.weak (Weak.lit (by simp only [go_sem, seval, ah_, ae_, T2_, T1_, as_, leV, aq_, ar_, V.inn, us, T9_, Ta_] <;> (first | (rw [(hT (by simpa using h35)).1, h74]; simp [brk]; (first | done | omega)) | (rw [(hA (by simpa using h82)).1]; simp) | (rw [(g12 (by simp_all)).2.1]; rfl))) (by simp only [go_sem, seval, ah_, ae_, T2_, T1_, as_, leV, aq_, ar_, V.inn, us, T9_, Ta_]) (by simp only [go_sem, seval, ah_, ae_, T2_, T1_, as_, leV, aq_, ar_, V.inn, us, T9_, Ta_] <;> (first | (rw [(hT (by simpa using h35)).1, (hT (by simpa using h35)).2, h74]; simp [brk, wdR, cl_, k1_]) | (rw [(hA (by simpa using h82)).1, (hA (by simpa using h82)).2]; simp [wdR]) | (rw [(g12 (by simp_all)).2.1, (g12 (by simp_all)).1, hJ]; simp [wdR]))))
    ·simp_all
 refine .seq (.rgn [] (by simp only [go_sem, seval, ah_, ae_, T2_, T1_]; rfl) ?_ ?_)
 ·(first | trivial | (simp; done) | (simp [ce_, List.forall_mem_append, bf_]; done))
 refine .ret ⟨.inr rfl, ?_⟩
 exact Out.mem' (by simp only [Tryz.results121]; rfl) (by simp only [ax_, a6_, go_sem, seval, ah_, ae_, T2_, T1_]) (by simp only [a4_, rns, rn, go_sem, seval, ah_, ae_, T2_, T1_] <;> (simp_all)) (by simp) rfl (by decide) (by simp only [go_sem, seval, ah_, ae_, T2_, T1_]) (by simp only [ak_, go_sem, seval, ah_, ae_, T2_, T1_]) (by simp only [ag_, go_sem, seval, ah_, ae_, T2_, T1_] <;> (simp))
end
end Go.Proofs.YtpikbndepapbhaaGreatDoor
