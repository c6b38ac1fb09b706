/- Without types. Conditions: none. -/
import Derived.Test.YtcigkafioinfoaaGreatDoorKe
import Derived.Test.YtcigkafioinfoaaGreatDoorKc
import Derived.Test.YtcigkafioinfoaaGreatDoorKg
import Derived.Test.YtcigkafioinfoaaGreatDoorKf
set_option linter.unusedVariables false
set_option linter.unusedSimpArgs false
namespace Go.Proofs.YtcigkafioinfoaaGreatDoor
section
set_option maxRecDepth 100000
set_option maxHeartbeats 4000000
theorem x7_ (a b : List E) : eR (a ++ b) = eR a ++ eR b := by simp [mj_]
end
section
set_option maxRecDepth 100000
set_option maxHeartbeats 4000000
theorem l2_ (e : E) (hs : sm e = true) : ACall En 144 [.ag (eC e)] [] [.b (iv_ e)] [] := by
 refine aj_ (fn := Tryz.f144) [] Tryz.func144 rfl rfl (by simp) fun C => ?_
 rw [ay_]
 simp only [Tryz.ntmps144, T7_, List.length_nil, Nat.reduceAdd, Nat.reduceSub, List.replicate_succ, List.replicate_zero, List.cons_append, List.nil_append, bu_]
 refine .seq (.rgn [] (by simp only [go_sem, seval]; rfl) ?_ ?_)
 ·first | trivial | simp
 refine .seq (.rgn [a8_ (u4_ e E0 hs rfl)] (by simp only [go_sem, seval, E0, E.kind, E.n, E.s, E.kids, eR]; rfl) ?_ ?_)
 ·first | trivial | simp
 refine .ret ⟨.inr rfl, ?_⟩
 exact Out.plain (by simp only [Tryz.results144]; rfl) (by simp only [az_, bc_, go_sem, seval] <;> (split <;> rfl)) (by simp only [bb_, go_sem, seval] <;> (rfl)) (by simp only [go_sem, seval])
theorem fe_ (e : E) (hs : sm e = true) : ACall En 134 [.ag (eC e)] [] [.b (iv_ e)] [] := by
 refine aj_ (fn := Tryz.f134) [] Tryz.func134 rfl rfl (by simp) fun C => ?_
 rw [ay_]
 simp only [Tryz.ntmps134, T7_, List.length_nil, Nat.reduceAdd, Nat.reduceSub, List.replicate_succ, List.replicate_zero, List.cons_append, List.nil_append, bu_]
 refine .seq (.rgn [] (by simp only [go_sem, seval]; rfl) ?_ ?_)
 ·first | trivial | simp
 refine .seq (.rgn [a8_ (np_ e E0 hs rfl)] (by simp only [go_sem, seval, E0, E.kind, E.n, E.s, E.kids, eR]; rfl) ?_ ?_)
 ·first | trivial | simp
 refine .ret ⟨.inr rfl, ?_⟩
 exact Out.plain (by simp only [Tryz.results134]; rfl) (by simp only [az_, bc_, go_sem, seval] <;> (split <;> rfl)) (by simp only [bb_, go_sem, seval] <;> (rfl)) (by simp only [go_sem, seval])
end
section
set_option maxRecDepth 100000
set_option maxHeartbeats 4000000
theorem acv_ (b : Str) : ACall En 64 [.sl false (byR b)] [] [.pt 0 2 0 0] [⟨165, 2, [[.sl false (byR (b.take 2000)), .i .i64 0]]⟩] := by
 refine aj_ (fn := Tryz.f64) [20] Tryz.func64 rfl rfl (by simp) fun C => ?_
 rw [ay_]
 simp only [Tryz.ntmps64, T7_, List.length_nil, Nat.reduceAdd, Nat.reduceSub, List.replicate_succ, List.replicate_zero, List.cons_append, List.nil_append, bu_]
 refine .seq (.rgn [] (by simp only [go_sem, seval]; rfl) ?_ ?_)
 ·(first | trivial | decide | (simp at h5; simp; omega) | simp)
 refine .seq (.seq (.rgn [] (by simp only [go_sem, seval]; rfl) ?_ ?_))
 ·(first | trivial | decide | (simp at h5; simp; omega) | simp)
 refine .condB (by simp only [go_sem, seval]; rfl) (by simp only [go_sem, seval]) (fun h5 => ?_) (fun h5 => ?_)
 ·refine .rgn [] (by simp only [go_sem, seval]; rfl) ?_ ?_
  ·(first | trivial | decide | (simp at h5; simp; omega) | simp)
  refine .seq (.rgn [] (by simp only [go_sem, seval]; rfl) ?_ ?_)
  ·(first | trivial | decide | (simp at h5; simp; omega) | simp)
  refine .ret ⟨.inr rfl, ?_⟩
  exact Out.mem' (by simp only [Tryz.results64]; rfl) (by simp only [az_, bc_, go_sem, seval]) (by simp only [bb_, rns, rn, go_sem, seval] <;> (simp_all)) (by simp) rfl (by decide) (by simp only [go_sem, seval]) (by simp only [ao_, go_sem, seval]) (by simp only [ai_, go_sem, seval] <;> (rfl))
 ·refine .skip (.seq (.rgn [] (by simp only [go_sem, seval]; rfl) ?_ ?_))
  ·(first | trivial | decide | (simp at h5; simp; omega) | simp)
  refine .ret ⟨.inr rfl, ?_⟩
  exact Out.mem' (by simp only [Tryz.results64]; rfl) (by simp only [az_, bc_, go_sem, seval]) (by simp only [bb_, rns, rn, go_sem, seval] <;> (simp_all)) (by simp) rfl (by decide) (by simp only [go_sem, seval]) (by simp only [ao_, go_sem, seval]) (by simp only [ai_, go_sem, seval] <;> (simp at h5; rw [T1_ (show b.length ≤ 2000 by omega)]))
abbrev wr (n : Int) : Int := IntKind.i64.wrap n
def qt_ (b : Str) (k : Int) : Int := wr (wr (wr (wr ((b.getD (k.tmod b.length).toNat 0).toNat * 131) + wr ((b.getD ((k * 7 + 3).tmod b.length).toNat 0).toNat * 1117)) + wr (k * 29)) + wr (wr (k.tdiv b.length) * 53))
def mixX (b : Str) (k : Int) : Int := IntKind.i64.wrap (BitVec.ofInt IntKind.i64.bits (qt_ b k) ^^^ BitVec.ofInt IntKind.i64.bits (IntKind.i64.wrap ((qt_ b k).tdiv 64))).toNat
def br_ (b : Str) (p n : Int) : Int :=
 if n < 1 ∨ b.length = 0 then 0 else if p < b.length then ((b.getD p.toNat 0).toNat : Int).tmod n else (mixX b p).tmod n
theorem z1_ {k : Int} {n : Nat} (h : 0 ≤ k) (hn : 0 < n) : (k.tmod n).toNat < n := by
 have := Int.tmod_lt_of_pos k (show (0 : Int) < n by omega)
 have := Int.tmod_nonneg (n : Int) h
 omega
theorem ak2_ (c : UInt8) : IntKind.i64.wrap (c.toNat : Int) = c.toNat := by
 have := UInt8.toNat_lt c
 exact bi_ (by omega) (by omega)
theorem dx_ (b : Str) (p n : Int) (hb : b.length ≤ 2000) (hp : 0 ≤ p) (hp2 : p < 1099511627776) :
  ACall En 128 [.pt 0 2 0 0, .i .i64 n] [⟨165, 2, [[.sl false (byR b), .i .i64 p]]⟩] [.i .i64 (br_ b p n)] [⟨165, 2, [[.sl false (byR b), .i .i64 (p + 1)]]⟩] := by
 refine aj_ (fn := Tryz.f128) [0] Tryz.func128 rfl rfl (by simp) fun C => ?_
 rw [ay_]
 simp only [Tryz.ntmps128, T7_, List.length_nil, Nat.reduceAdd, Nat.reduceSub, List.replicate_succ, List.replicate_zero, List.cons_append, List.nil_append, bu_]
 refine .seq (.rgn [] (by simp only [go_sem, seval]; rfl) ?_ ?_)
 ·(first | trivial | (simp; done) | (simp at h24; simp; omega) | (simp at h24 h36; refine ⟨⟨hp, by omega⟩, by omega⟩) | (have hb0 : (0 : Int) < b.length := (by cases b with | nil => simp at h24 | cons c b => simp); have q1 := Int.tmod_lt_of_pos p hb0; have q2 := Int.tmod_nonneg (b.length : Int) hp; have q3 := Int.tmod_lt_of_pos (p * 7 + 3) hb0; have q4 := Int.tmod_nonneg (b.length : Int) (show 0 ≤ p * 7 + 3 by omega); refine ⟨⟨⟨⟨by omega, q2, q1⟩, by omega⟩, q4, q3⟩, by omega⟩))
 refine .seq (.rgn [] (by simp only [go_sem, seval, bi_ (show -9223372036854775808 ≤ p + 1 by omega) (by omega)]; rfl) ?_ ?_)
 ·(first | trivial | (simp; done) | (simp at h24; simp; omega) | (simp at h24 h36; refine ⟨⟨hp, by omega⟩, by omega⟩) | (have hb0 : (0 : Int) < b.length := (by cases b with | nil => simp at h24 | cons c b => simp); have q1 := Int.tmod_lt_of_pos p hb0; have q2 := Int.tmod_nonneg (b.length : Int) hp; have q3 := Int.tmod_lt_of_pos (p * 7 + 3) hb0; have q4 := Int.tmod_nonneg (b.length : Int) (show 0 ≤ p * 7 + 3 by omega); refine ⟨⟨⟨⟨by omega, q2, q1⟩, by omega⟩, q4, q3⟩, by omega⟩))
 refine .seq (.seq (.rgn [] (by simp only [go_sem, seval]; rfl) ?_ ?_))
 ·(first | trivial | (simp; done) | (simp at h24; simp; omega) | (simp at h24 h36; refine ⟨⟨hp, by omega⟩, by omega⟩) | (have hb0 : (0 : Int) < b.length := (by cases b with | nil => simp at h24 | cons c b => simp); have q1 := Int.tmod_lt_of_pos p hb0; have q2 := Int.tmod_nonneg (b.length : Int) hp; have q3 := Int.tmod_lt_of_pos (p * 7 + 3) hb0; have q4 := Int.tmod_nonneg (b.length : Int) (show 0 ≤ p * 7 + 3 by omega); refine ⟨⟨⟨⟨by omega, q2, q1⟩, by omega⟩, q4, q3⟩, by omega⟩))
 refine .condB (by simp only [go_sem, seval]; rfl) (by simp only [go_sem, seval]) (fun h24 => ?_) (fun h24 => ?_)
 ·refine .seq (.rgn [] (by simp only [go_sem, seval]; rfl) ?_ ?_)
  ·(first | trivial | (simp; done) | (simp at h24; simp; omega) | (simp at h24 h36; refine ⟨⟨hp, by omega⟩, by omega⟩) | (have hb0 : (0 : Int) < b.length := (by cases b with | nil => simp at h24 | cons c b => simp); have q1 := Int.tmod_lt_of_pos p hb0; have q2 := Int.tmod_nonneg (b.length : Int) hp; have q3 := Int.tmod_lt_of_pos (p * 7 + 3) hb0; have q4 := Int.tmod_nonneg (b.length : Int) (show 0 ≤ p * 7 + 3 by omega); refine ⟨⟨⟨⟨by omega, q2, q1⟩, by omega⟩, q4, q3⟩, by omega⟩))
  refine .ret ⟨.inr rfl, ?_⟩
  exact Out.mem' (by simp only [Tryz.results128]; rfl) (by simp only [az_, bc_, go_sem, seval]) (by simp only [bb_, rns, rn, go_sem, seval] <;> (have g : n < 1 ∨ b.length = 0 := (by simp at h24; simpa using h24); rw [br_, if_pos g])) (by simp) rfl (by decide) (by simp only [go_sem, seval]) (by simp only [ao_, go_sem, seval]) (by simp only [ai_, go_sem, seval] <;> (simp))
 ·refine .skip (.seq (.rgn [] (by simp only [go_sem, seval, bi_ (show -9223372036854775808 ≤ p by omega) (by omega), Int.add_sub_cancel]; rfl) ?_ ?_))
  ·(first | trivial | (simp; done) | (simp at h24; simp; omega) | (simp at h24 h36; refine ⟨⟨hp, by omega⟩, by omega⟩) | (have hb0 : (0 : Int) < b.length := (by cases b with | nil => simp at h24 | cons c b => simp); have q1 := Int.tmod_lt_of_pos p hb0; have q2 := Int.tmod_nonneg (b.length : Int) hp; have q3 := Int.tmod_lt_of_pos (p * 7 + 3) hb0; have q4 := Int.tmod_nonneg (b.length : Int) (show 0 ≤ p * 7 + 3 by omega); refine ⟨⟨⟨⟨by omega, q2, q1⟩, by omega⟩, q4, q3⟩, by omega⟩))
  refine .seq (.seq (.rgn [] (by simp only [go_sem, seval]; rfl) ?_ ?_))
  ·(first | trivial | (simp; done) | (simp at h24; simp; omega) | (simp at h24 h36; refine ⟨⟨hp, by omega⟩, by omega⟩) | (have hb0 : (0 : Int) < b.length := (by cases b with | nil => simp at h24 | cons c b => simp); have q1 := Int.tmod_lt_of_pos p hb0; have q2 := Int.tmod_nonneg (b.length : Int) hp; have q3 := Int.tmod_lt_of_pos (p * 7 + 3) hb0; have q4 := Int.tmod_nonneg (b.length : Int) (show 0 ≤ p * 7 + 3 by omega); refine ⟨⟨⟨⟨by omega, q2, q1⟩, by omega⟩, q4, q3⟩, by omega⟩))
  refine .condB (by simp only [go_sem, seval]; rfl) (by simp only [go_sem, seval]) (fun h36 => ?_) (fun h36 => ?_)
  ·refine .seq (.rgn [] (by simp only [go_sem, seval, tv_ (show p.toNat < b.length by simp at h36; omega), ak2_]; rfl) ?_ ?_)
   ·(first | trivial | (simp; done) | (simp at h24; simp; omega) | (simp at h24 h36; refine ⟨⟨hp, by omega⟩, by omega⟩) | (have hb0 : (0 : Int) < b.length := (by cases b with | nil => simp at h24 | cons c b => simp); have q1 := Int.tmod_lt_of_pos p hb0; have q2 := Int.tmod_nonneg (b.length : Int) hp; have q3 := Int.tmod_lt_of_pos (p * 7 + 3) hb0; have q4 := Int.tmod_nonneg (b.length : Int) (show 0 ≤ p * 7 + 3 by omega); refine ⟨⟨⟨⟨by omega, q2, q1⟩, by omega⟩, q4, q3⟩, by omega⟩))
   refine .ret ⟨.inr rfl, ?_⟩
   exact Out.mem' (by simp only [Tryz.results128]; rfl) (by simp only [az_, bc_, go_sem, seval]) (by simp only [bb_, rns, rn, go_sem, seval] <;> (have g : ¬ (n < 1 ∨ b.length = 0) := (by simp at h24; simp; omega); rw [br_, if_neg g, if_pos (by simpa using h36)])) (by simp) rfl (by decide) (by simp only [go_sem, seval]) (by simp only [ao_, go_sem, seval]) (by simp only [ai_, go_sem, seval] <;> (simp))
  ·refine .skip (.seq (.rgnD [] enM (by simp only [go_sem, seval, bi_ (show -9223372036854775808 ≤ p * 7 by omega) (by omega), bi_ (show -9223372036854775808 ≤ p * 7 + 3 by omega) (by omega), tv_ (z1_ (k := p) hp (show 0 < b.length by cases b <;> simp_all)), tv_ (z1_ (k := p * 7 + 3) (by omega) (show 0 < b.length by cases b <;> simp_all)), ak2_]; rfl) (by rfl) ?_ ?_))
   ·(first | trivial | (simp; done) | (simp at h24; simp; omega) | (simp at h24 h36; refine ⟨⟨hp, by omega⟩, by omega⟩) | (have hb0 : (0 : Int) < b.length := (by cases b with | nil => simp at h24 | cons c b => simp); have q1 := Int.tmod_lt_of_pos p hb0; have q2 := Int.tmod_nonneg (b.length : Int) hp; have q3 := Int.tmod_lt_of_pos (p * 7 + 3) hb0; have q4 := Int.tmod_nonneg (b.length : Int) (show 0 ≤ p * 7 + 3 by omega); refine ⟨⟨⟨⟨by omega, q2, q1⟩, by omega⟩, q4, q3⟩, by omega⟩))
   refine .seq (.rgn [] (by simp only [go_sem, seval]; rfl) ?_ ?_)
   ·(first | trivial | (simp; done) | (simp at h24; simp; omega) | (simp at h24 h36; refine ⟨⟨hp, by omega⟩, by omega⟩) | (have hb0 : (0 : Int) < b.length := (by cases b with | nil => simp at h24 | cons c b => simp); have q1 := Int.tmod_lt_of_pos p hb0; have q2 := Int.tmod_nonneg (b.length : Int) hp; have q3 := Int.tmod_lt_of_pos (p * 7 + 3) hb0; have q4 := Int.tmod_nonneg (b.length : Int) (show 0 ≤ p * 7 + 3 by omega); refine ⟨⟨⟨⟨by omega, q2, q1⟩, by omega⟩, q4, q3⟩, by omega⟩))
   refine .seq (.rgn [] (by simp only [go_sem, seval]; rfl) ?_ ?_)
   ·(first | trivial | (simp; done) | (simp at h24; simp; omega) | (simp at h24 h36; refine ⟨⟨hp, by omega⟩, by omega⟩) | (have hb0 : (0 : Int) < b.length := (by cases b with | nil => simp at h24 | cons c b => simp); have q1 := Int.tmod_lt_of_pos p hb0; have q2 := Int.tmod_nonneg (b.length : Int) hp; have q3 := Int.tmod_lt_of_pos (p * 7 + 3) hb0; have q4 := Int.tmod_nonneg (b.length : Int) (show 0 ≤ p * 7 + 3 by omega); refine ⟨⟨⟨⟨by omega, q2, q1⟩, by omega⟩, q4, q3⟩, by omega⟩))
   refine .ret ⟨.inr rfl, ?_⟩
   exact Out.mem' (by simp only [Tryz.results128]; rfl) (by simp only [az_, bc_, go_sem, seval]) (by simp only [bb_, rns, rn, go_sem, seval] <;> (have g : ¬ (n < 1 ∨ b.length = 0) := (by simp at h24; simp; omega); rw [br_, if_neg g, if_neg (by simpa using h36)]; rfl)) (by simp) rfl (by decide) (by simp only [go_sem, seval]) (by simp only [ao_, go_sem, seval]) (by simp only [ai_, go_sem, seval] <;> (simp))
end
section
set_option maxRecDepth 100000
set_option maxHeartbeats 4000000
theorem aig_ (b : Str) {p : Int} (hp : 0 ≤ p) (hp2 : p < 1099511627776) : 0 ≤ qt_ b p ∧ qt_ b p < 4611686018427387904 := by
 have c1 := UInt8.toNat_lt (b.getD (p.tmod b.length).toNat 0)
 have c2 := UInt8.toNat_lt (b.getD ((p * 7 + 3).tmod b.length).toNat 0)
 have d1 : 0 ≤ p.tdiv b.length := Int.tdiv_nonneg hp (Int.natCast_nonneg _)
 have d2 : p.tdiv b.length ≤ p := by rw [Int.tdiv_eq_ediv_of_nonneg hp]; exact Int.ediv_le_self _ hp
 unfold qt_ wr
 generalize (b.getD (p.tmod b.length).toNat 0).toNat = x at *
 generalize (b.getD ((p * 7 + 3).tmod b.length).toNat 0).toNat = y at *
 generalize p.tdiv b.length = q at *
 rw [bi_ (n := (x : Int) * 131) (by omega) (by omega), bi_ (n := (y : Int) * 1117) (by omega) (by omega), bi_ (n := p * 29) (by omega) (by omega), bi_ (n := q) (by omega) (by omega),
  bi_ (n := q * 53) (by omega) (by omega), bi_ (n := (x : Int) * 131 + y * 1117) (by omega) (by omega), bi_ (n := (x : Int) * 131 + y * 1117 + p * 29) (by omega) (by omega), bi_ (by omega) (by omega)]
 omega
theorem ahj_ (b : Str) {p : Int} (hp : 0 ≤ p) (hp2 : p < 1099511627776) : 0 ≤ mixX b p := by
 obtain ⟨h1, h2⟩ := aig_ b hp hp2
 have d1 : 0 ≤ (qt_ b p).tdiv 64 := Int.tdiv_nonneg h1 (by decide)
 have d2 : (qt_ b p).tdiv 64 ≤ qt_ b p := by rw [Int.tdiv_eq_ediv_of_nonneg h1]; exact Int.ediv_le_self _ h1
 unfold mixX
 generalize (qt_ b p).tdiv 64 = q at *
 generalize qt_ b p = m at *
 rw [bi_ (n := q) (by omega) (by omega)]
 have e1 : (BitVec.ofInt IntKind.i64.bits m).toNat < 2 ^ 62 := by
  rw [BitVec.toNat_ofInt]
  have : m % ((2 ^ IntKind.i64.bits : Nat) : Int) = m := Int.emod_eq_of_lt h1 (by show m < 18446744073709551616; omega)
  rw [this]; omega
 have e2 : (BitVec.ofInt IntKind.i64.bits q).toNat < 2 ^ 62 := by
  rw [BitVec.toNat_ofInt]
  have : q % ((2 ^ IntKind.i64.bits : Nat) : Int) = q := Int.emod_eq_of_lt d1 (by show q < 18446744073709551616; omega)
  rw [this]; omega
 have e3 := Nat.xor_lt_two_pow e1 e2
 rw [← BitVec.toNat_xor] at e3
 rw [bi_ (by omega) (by omega)]
 omega
theorem d6_ (b : Str) {p n : Int} (hp : 0 ≤ p) (hp2 : p < 1099511627776) (hn : 1 ≤ n) : 0 ≤ br_ b p n ∧ br_ b p n < n := by
 unfold br_
 split
 ·omega
 ·split
  ·exact ⟨Int.tmod_nonneg _ (by omega), Int.tmod_lt_of_pos _ (by omega)⟩
  ·exact ⟨Int.tmod_nonneg _ (ahj_ b hp hp2), Int.tmod_lt_of_pos _ (by omega)⟩
def inR (l : List Int) : List (List V) := l.map fun n => [.i .i64 n]
theorem ae_ (l : List Int) : (inR l).length = l.length := by simp [inR]
theorem fj_ {l : List Int} {k : Nat} (h : k < l.length) : (inR l).getD k [] = [.i .i64 (l.getD k 0)] := by
 simp [inR, T8_, T6_ h]
theorem ac_ : ∀ l : List Int, b9_ (inR l) = true
 | [] => rfl
 | n :: l => by simp only [inR, List.map_cons, b9_, cd_, V.pure, Bool.true_and]; exact ac_ l
theorem ax_ : inR [] = [] := rfl
theorem as_ (n : Int) (l : List Int) : inR (n :: l) = [.i .i64 n] :: inR l := rfl
theorem an_ : bo_ [] = [] := rfl
theorem ak_ (s : Str) (l : List Str) : bo_ (s :: l) = [.s s] :: bo_ l := rfl
def xd_ (b : Str) (p : Int) (l : List Int) : Int := l.getD (br_ b p l.length).toNat 0
def ofI (b : Str) (p : Int) (l : List Str) : Str := l.getD (br_ b p l.length).toNat []
theorem q2_ (b : Str) (p : Int) (l : List Int) (hl : 0 < l.length) (hb : b.length ≤ 2000) (hp : 0 ≤ p) (hp2 : p < 1099511627776) :
  ACall En 216 [.pt 0 2 0 0, .sl false (inR l)] [⟨165, 2, [[.sl false (byR b), .i .i64 p]]⟩] [.i .i64 (xd_ b p l)] [⟨165, 2, [[.sl false (byR b), .i .i64 (p + 1)]]⟩] := by
 have hr := d6_ b hp hp2 (show 1 ≤ (l.length : Int) by omega)
 refine aj_ (fn := Tryz.f216) [0] Tryz.func216 rfl rfl (by simp) fun C => ?_
 rw [ay_]
 simp only [Tryz.ntmps216, T7_, List.length_nil, Nat.reduceAdd, Nat.reduceSub, List.replicate_succ, List.replicate_zero, List.cons_append, List.nil_append, bu_]
 refine .seq (.rgn [] (by simp only [go_sem, seval]; rfl) ?_ ?_)
 ·first | trivial | simp
 refine .seq (.rgn [bx_ [0] [] (dx_ b p l.length hb hp hp2)] (by simp only [go_sem, seval, ai_, ao_, ae_, ac_, fj_ (show (br_ b p l.length).toNat < l.length by omega)]; rfl) ?_ ?_)
 ·simp; omega
 refine .ret ⟨.inr rfl, ?_⟩
 exact Out.mem' (by simp only [Tryz.results216]; rfl) (by simp only [az_, bc_, go_sem, seval]) (by simp only [bb_, rns, rn, go_sem, seval] <;> (rfl)) (by simp) rfl (by decide) (by simp only [go_sem, seval]) (by simp only [ao_, go_sem, seval]) (by simp only [ai_, go_sem, seval] <;> (simp))
theorem qy_ (b : Str) (p : Int) (l : List Str) (hl : 0 < l.length) (hb : b.length ≤ 2000) (hp : 0 ≤ p) (hp2 : p < 1099511627776) :
  ACall En 217 [.pt 0 2 0 0, .sl false (bo_ l)] [⟨165, 2, [[.sl false (byR b), .i .i64 p]]⟩] [.s (ofI b p l)] [⟨165, 2, [[.sl false (byR b), .i .i64 (p + 1)]]⟩] := by
 have hr := d6_ b hp hp2 (show 1 ≤ (l.length : Int) by omega)
 refine aj_ (fn := Tryz.f217) [0] Tryz.func217 rfl rfl (by simp) fun C => ?_
 rw [ay_]
 simp only [Tryz.ntmps217, T7_, List.length_nil, Nat.reduceAdd, Nat.reduceSub, List.replicate_succ, List.replicate_zero, List.cons_append, List.nil_append, bu_]
 refine .seq (.rgn [] (by simp only [go_sem, seval]; rfl) ?_ ?_)
 ·first | trivial | simp
 refine .seq (.rgn [bx_ [0] [] (dx_ b p l.length hb hp hp2)] (by simp only [go_sem, seval, ai_, ao_, ab_, cc_ (show (br_ b p l.length).toNat < l.length by omega)]; rfl) ?_ ?_)
 ·simp; omega
 refine .ret ⟨.inr rfl, ?_⟩
 exact Out.mem' (by simp only [Tryz.results217]; rfl) (by simp only [az_, bc_, go_sem, seval]) (by simp only [bb_, rns, rn, go_sem, seval] <;> (rfl)) (by simp) rfl (by decide) (by simp only [go_sem, seval]) (by simp only [ao_, go_sem, seval]) (by simp only [ai_, go_sem, seval] <;> (simp))
end
section
set_option maxRecDepth 100000
set_option maxHeartbeats 4000000
theorem aew_ : ACall En 249 [.sl false []] [] [.ow 0 4 0 0] [⟨33, 4, []⟩] := by
 refine aj_ (fn := Tryz.f249) [17] Tryz.func249 rfl rfl (by simp) fun C => ?_
 rw [ay_]
 simp only [Tryz.ntmps249, T7_, List.length_nil, Nat.reduceAdd, Nat.reduceSub, List.replicate_succ, List.replicate_zero, List.cons_append, List.nil_append, bu_]
 refine .seq (.rgn [] (by simp only [go_sem, seval]; rfl) ?_ ?_)
 ·first | trivial | simp
 refine .seq (.seq (.rgnS [4] [nilO En] (by simp only [go_sem, seval]; rfl) ?_ ?_))
 ·first | trivial | simp
 refine .condQ (by simp only [go_sem, seval] <;> rfl) (by simp only [go_sem, seval]) ?_ ?_
 ·refine .seq (.rgn [] (by simp only [go_sem, seval]; rfl) ?_ ?_)
  ·first | trivial | simp
  refine .can (Can.ownSlot 2 17 33 4 (by simp only [go_sem, seval] <;> rfl) (by simp only [go_sem, seval]) (by simp only [go_sem, seval] <;> rfl)) ?_
  refine .ret ⟨.inr rfl, ?_⟩
  exact Out.mem' (by simp only [Tryz.results249]; rfl) (by simp only [az_, bc_, go_sem, seval]) (by simp only [bb_, rns, rn, go_sem, seval] <;> (simp)) (by simp) rfl (by decide) (by simp only [go_sem, seval]) (by simp only [ao_, go_sem, seval]) (by simp only [ai_, go_sem, seval] <;> (simp))
 ·refine .skip (.seq (.rgn [] (by simp only [go_sem, seval]; rfl) ?_ ?_))
  ·first | trivial | simp
  refine .ret ⟨.inr rfl, ?_⟩
  exact Out.mem' (by simp only [Tryz.results249]; rfl) (by simp only [az_, bc_, go_sem, seval]) (by simp only [bb_, rns, rn, go_sem, seval] <;> (simp)) (by simp) rfl (by decide) (by simp only [go_sem, seval]) (by simp only [ao_, go_sem, seval]) (by simp only [ai_, go_sem, seval] <;> (simp))
theorem ad1_ (e : E) (r : List E) (hl : r.length < 1099511627776) : ACall En 249 [.sl false (eR (e :: r))] [] [.ow 0 4 0 (r.length + 1)] [⟨33, 4, eR (e :: r)⟩] := by
 refine aj_ (fn := Tryz.f249) [17] Tryz.func249 rfl rfl (by simp) fun C => ?_
 rw [ay_]
 simp only [Tryz.ntmps249, T7_, List.length_nil, Nat.reduceAdd, Nat.reduceSub, List.replicate_succ, List.replicate_zero, List.cons_append, List.nil_append, bu_]
 refine .seq (.rgn [] (by simp only [go_sem, seval, eR]; rfl) ?_ ?_)
 ·first | trivial | simp
 refine .seq (.seq (.rgnS [4] [nilO En] (by simp only [go_sem, seval, eR]; rfl) ?_ ?_))
 ·first | trivial | simp
 refine .condB (by simp only [go_sem, seval]; rfl) (by simp only [go_sem, seval]) (fun h4 => ?_) (fun h4 => ?_)
 ·exact absurd h4 (by simp)
 ·refine .skip (.seq (.rgn [] (by simp only [go_sem, seval, eR]; rfl) ?_ ?_))
  ·have := mw_ r; simp [mj_, bf_]; omega
  refine .ret ⟨.inr rfl, ?_⟩
  exact Out.mem' (by simp only [Tryz.results249]; rfl) (by simp only [az_, bc_, go_sem, seval]) (by simp only [bb_, rns, rn, go_sem, seval] <;> (simp)) (by simp) rfl (by decide) (by simp only [go_sem, seval]) (by simp only [ao_, go_sem, seval]) (by simp only [ai_, go_sem, seval] <;> (simp [eR, b7_, ga_, bf_]))
theorem ai0_ (l : List E) (hl : l.length < 1099511627776) : ACall En 249 [.sl false (eR l)] [] [.ow 0 4 0 l.length] [⟨33, 4, eR l⟩] := by
 cases l with
 | nil => simp only [eR]; exact aew_
 | cons e r => exact ad1_ e r (by simp at hl; omega)
theorem alf_ (l : List E) (hl : l.length < 1099511627776) : ACall En 248 [.ow 0 4 0 l.length] [⟨33, 4, eR l⟩] [.ow 0 4 0 l.length] [⟨33, 4, eR l⟩] := by
 refine aj_ (fn := Tryz.f248) [0] Tryz.func248 rfl rfl (by simp) fun C => ?_
 rw [ay_]
 simp only [Tryz.ntmps248, T7_, List.length_nil, Nat.reduceAdd, Nat.reduceSub, List.replicate_succ, List.replicate_zero, List.cons_append, List.nil_append, bu_]
 refine .seq (.rgn [] (by simp only [go_sem, seval]; rfl) ?_ ?_)
 ·first | trivial | simp
 refine .seq (.rgn [] (by simp only [go_sem, seval]; rfl) ?_ ?_)
 ·first | trivial | simp
 refine .ret ⟨.inr rfl, ?_⟩
 exact Out.mem' (by simp only [Tryz.results248]; rfl) (by simp only [az_, bc_, go_sem, seval]) (by simp only [bb_, rns, rn, go_sem, seval] <;> (simp)) (by simp) rfl (by decide) (by simp only [go_sem, seval]) (by simp only [ao_, go_sem, seval]) (by simp only [ai_, go_sem, seval] <;> (simp))
theorem aij_ (l : List E) (hl : l.length < 1099511627776) : ACall En 214 [.sl false (eR l)] [] [.ow 0 4 0 l.length] [⟨33, 4, eR l⟩] := by
 refine aj_ (fn := Tryz.f214) [14] Tryz.func214 rfl rfl (by simp) fun C => ?_
 rw [ay_]
 simp only [Tryz.ntmps214, T7_, List.length_nil, Nat.reduceAdd, Nat.reduceSub, List.replicate_succ, List.replicate_zero, List.cons_append, List.nil_append, bu_]
 refine .seq (.rgn [] (by simp only [go_sem, seval]; rfl) ?_ ?_)
 ·first | trivial | simp
 refine .seq (.rgn [bx_ [] [14] (ai0_ l hl), bx_ [14] [] (alf_ l hl)] (by simp only [go_sem, seval]; rfl) ?_ ?_)
 ·first | trivial | simp
 refine .ret ⟨.inr rfl, ?_⟩
 exact Out.mem' (by simp only [Tryz.results214]; rfl) (by simp only [az_, bc_, go_sem, seval]) (by simp only [bb_, rns, rn, go_sem, seval] <;> (simp)) (by simp) rfl (by decide) (by simp only [go_sem, seval]) (by simp only [ao_, go_sem, seval]) (by simp only [ai_, go_sem, seval] <;> (simp))
end
section
set_option maxRecDepth 100000
set_option maxHeartbeats 4000000
def ma_ (l : List E) (k : Nat) : List (List V) := eR (d5_ (l.take k) ++ l.drop k)
theorem uw_ (l : List E) (k : Nat) (h : k ≤ l.length) : (ma_ l k).length = l.length := by simp [ma_, mw_, g3_]; omega
theorem b0_ (l : List E) (k : Nat) : b9_ (ma_ l k) = true := ga_ _
theorem acl_ (l : List E) : ma_ l 0 = eR l := by simp [ma_, d5_]
theorem ahm_ (l : List E) (k : Nat) (h : l.length ≤ k) : ma_ l k = eR (d5_ l) := by simp [ma_, T1_ h, List.drop_of_length_le h]
theorem ad4_ {l : List E} {k : Nat} (h : k < l.length) {r : List V} (hr : r = eC (bare (l.getD k E0))) : (ma_ l k).set k r = ma_ l (k + 1) := by
 subst hr
 unfold ma_
 rw [y5_ h, x7_, x7_, x7_, List.set_append_right _ _ (by rw [mw_, g3_, List.length_take]; omega), mw_, g3_, List.length_take, Nat.min_eq_left (Nat.le_of_lt h), Nat.sub_self, List.drop_eq_getElem_cons h]
 simp only [eR, List.set_cons_zero, List.append_assoc, List.cons_append, List.nil_append]
theorem ai7_ : ∀ {l : List E} (r : List V), r ∈ eR l → r.length = 4 := fun {l} r hr => by
 rw [mj_] at hr; obtain ⟨e, _, rfl⟩ := List.mem_map.1 hr; rw [bf_]; rfl
theorem b2_ (l : List E) (k j : Nat) : ((ma_ l k).getD j []).drop 4 = [] := by
 rw [T8_]
 cases h : (ma_ l k)[j]? with
 | none => rfl
 | some r => have := ai7_ r (List.mem_of_getElem? h); simp only [Option.getD_some]; exact List.drop_of_length_le (by omega)
mutual
theorem ny_ : ∀ e : E, sm e = true → sm (bare e) = true
 | .mk k n s kids, h => by
  simp only [sm, T5_] at h
  simp only [bare]
  by_cases hk : k = 4
  ·rw [if_pos hk]
   cases kids with
   | nil => simp only [xf_, sm, T5_]; exact ⟨⟨h.1.1, by simp⟩, rfl⟩
   | cons a r => simp only [xf_]; simp only [sms, T5_] at h; exact ny_ a h.2.1
  ·rw [if_neg hk]
   simp only [sm, T5_]
   exact ⟨⟨h.1.1, by rw [g3_]; exact h.1.2⟩, sj_ kids h.2⟩
theorem sj_ : ∀ l : List E, sms l = true → sms (d5_ l) = true
 | [], _ => by simp only [d5_, sms]
 | e :: r, h => by
  simp only [sms, T5_] at h
  simp only [d5_, sms, ny_ e h.1, sj_ r h.2, Bool.and_self]
end
theorem n6_ (e : E) : wf e = true → sm e = true → ACall En 172 [.ag (eC e)] [] [.ag (eC (bare e))] [] := by
 induction e using E.ind' with
 | h e ih =>
 intro hw hs
 obtain ⟨a1, a2, a3⟩ := e5_ hs
 obtain ⟨w1, w2⟩ := ajl_ hw
 have a4 := z8_ hs
 refine aj_ (fn := Tryz.f172) [] Tryz.func172 rfl rfl (by simp) fun C => ?_
 rw [ay_]
 simp only [Tryz.ntmps172, T7_, List.length_nil, Nat.reduceAdd, Nat.reduceSub, List.replicate_succ, List.replicate_zero, List.cons_append, List.nil_append, bu_]
 refine .seq (.rgn [] (by simp only [go_sem, seval, b0_, b2_]; rfl) ?_ ?_)
 ·first | trivial | simp
 refine .seq (.seq (.rgn [] (by simp only [go_sem, seval, b0_, b2_]; rfl) ?_ ?_))
 ·first | trivial | simp
 refine .condB (by simp only [go_sem, seval, b0_, b2_]; rfl) (by simp only [go_sem, seval, b0_, b2_]) (fun h8 => ?_) (fun h8 => ?_)
 ·refine .seq (.rgn [a8_ (ih (e.kids.getD 0 E0) (bp_ (w1 (by simpa using h8))) (tr_ w2 _ (bp_ (w1 (by simpa using h8)))) (c1_ a3 _ (bp_ (w1 (by simpa using h8)))))] (by simp only [go_sem, seval, b0_, b2_, dp_ (w1 (by simpa using h8))]; rfl) ?_ ?_)
  ·have := w1 (by simpa using h8); simp; omega
  refine .ret ⟨.inr rfl, ?_⟩
  exact Out.plain (by simp only [Tryz.results172]; rfl) (by simp only [az_, bc_, go_sem, seval, b0_, b2_] <;> (split <;> rfl)) (by simp only [bb_, go_sem, seval, b0_, b2_] <;> (rw [rp_ (e := e) (by simpa using h8) (w1 (by simpa using h8))])) (by simp only [go_sem, seval, b0_, b2_])
 ·refine .skip (.seq (.rgnD [bx_ [] [32] (aij_ e.kids a4)] enM (by simp only [go_sem, seval, b0_, b2_]; rfl) (by rfl) ?_ ?_))
  ·first | trivial | simp
  refine .seq (.seq (.rgn [] (by simp only [go_sem, seval, b0_, b2_]; rfl) ?_ ?_))
  ·first | trivial | simp
  refine .block (.loopK (fun k : Nat => ⟨[.no, .pt 11 4 0 0, .pt 12 4 0 0, .pt 13 4 0 0, .no, .no, .no, .no, .no, .no, .no, .no, .no, .no, .no, .no, .no, .no, .no, .no, .no, .no, .no, .no, .no, .sl false (eR e.kids), .i .i64 e.kids.length, .i .i64 k, .no, .no, .no, .no, .no, .no, .no, .no, .no, .no, .no, .no], bh_ [(11, ⟨33, 4, [eC e]⟩), (12, ⟨33, 4, [[.i .i64 0, .i .i64 0, .s [], .sl true []]]⟩), (13, ⟨33, 4, [[.i .i64 e.kind, .i .i64 e.n, .s e.s, .ow 32 4 0 e.kids.length]]⟩), (32, ⟨33, 4, ma_ e.kids k⟩)], us [11, 12, 13, 32]⟩) (fun k : Nat => k ≤ e.kids.length) (fun k : Nat => e.kids.length - k) (0) ?_ ?_ (fun k hI => ?_))
  ·simp
  ·exact Can.weak (Weak.lit (by simp only [go_sem, seval, b0_, b2_, ar_, leV, ap_, aq_, V.inn, us, T9_, Ta_] <;> (simp)) (by simp only [go_sem, seval, b0_, b2_, ar_, leV, ap_, aq_, V.inn, us, T9_, Ta_]) (by simp only [go_sem, seval, b0_, b2_, ar_, leV, ap_, aq_, V.inn, us, T9_, Ta_] <;> (simp [acl_, jp_, ga_])))
  refine .seq (.rgn [] (by simp only [go_sem, seval, b0_, b2_]; rfl) ?_ ?_)
  ·first | trivial | simp
  refine .seq (.condB (by simp only [go_sem, seval, b0_, b2_]; rfl) (by simp only [go_sem, seval, b0_, b2_]) (fun h28 => ?_) (fun h28 => ?_))
  ·refine .skip (.seq (.block (.seq (.rgn [] (by simp only [go_sem, seval, b0_, b2_, dp_ (show k < e.kids.length by simpa using h28)]; rfl) ?_ ?_))))
   ·simp at h28; simp; omega
   refine .rgnD [a8_ (ih (e.kids.getD k E0) (bp_ (by simpa using h28)) (tr_ w2 _ (bp_ (by simpa using h28))) (c1_ a3 _ (bp_ (by simpa using h28))))] enM (by simp only [go_sem, seval, b0_, b2_, ad4_ (show k < e.kids.length by simpa using h28) (bf_ _).symm, uw_ e.kids k hI, b0_]; rfl) (by rfl) ?_ ?_
   ·simp at h28; simp [uw_ e.kids k hI]; omega
   refine .rgn [] (by simp only [go_sem, seval, b0_, b2_]; rfl) ?_ ?_
   ·first | trivial | simp
   refine Exists.intro (k + 1) ⟨?_, ?_, ?_⟩
   ·simp at h28; omega
   ·simp at h28; omega
   exact Can.weak (Weak.lit (by simp only [go_sem, seval, b0_, b2_, ar_, leV, ap_, aq_, V.inn, us, T9_, Ta_] <;> (rw [bi_ (by simp at h28; omega) (by simp at h28; omega)]; simp)) (by simp only [go_sem, seval, b0_, b2_, ar_, leV, ap_, aq_, V.inn, us, T9_, Ta_]) (by simp only [go_sem, seval, b0_, b2_, ar_, leV, ap_, aq_, V.inn, us, T9_, Ta_]))
  ·refine .exit (.seq (.rgn [] (by simp only [go_sem, seval, b0_, b2_]; rfl) ?_ ?_))
   ·first | trivial | simp
   refine .frz 32 (by simp only [go_sem, seval, b0_, b2_]; rfl) (by simp only [go_sem, seval, b0_, b2_]) (by simp only [go_sem, seval, b0_, b2_]; rfl) (by simp only [go_sem, seval, b0_, b2_]; rfl) ?_
   refine .ret ⟨.inr rfl, ?_⟩
   exact Out.plain (by simp only [Tryz.results172]; rfl) (by simp only [az_, bc_, go_sem, seval, b0_, b2_] <;> (split <;> rfl)) (by simp only [bb_, go_sem, seval, b0_, b2_] <;> (simp at h28; rw [m0_ (e := e) (by simpa using h8), ahm_ _ _ h28]; simp [bf_, g3_, mw_, E.kind, E.n, E.s, E.kids, T1_])) (by simp only [go_sem, seval, b0_, b2_])
theorem oj_ (e : E) (hs : sm e = true) : ACall En 160 [.ag (eC e)] [] [.b (pe e)] [] := by
 refine aj_ (fn := Tryz.f160) [] Tryz.func160 rfl rfl (by simp) fun C => ?_
 rw [ay_]
 simp only [Tryz.ntmps160, T7_, List.length_nil, Nat.reduceAdd, Nat.reduceSub, List.replicate_succ, List.replicate_zero, List.cons_append, List.nil_append, bu_]
 refine .seq (.rgn [] (by simp only [go_sem, seval]; rfl) ?_ ?_)
 ·first | trivial | simp
 refine .seq (.rgnD [a8_ (f5_ e hs), ce_ (eok e = true) (fun h => n6_ e (g4_ h) hs), a8_ (np_ (bare e) e (ny_ e hs) hs)] enM (by simp only [go_sem, seval]; rfl) (by rfl) ?_ ?_)
 ·simp
 refine .ret ⟨.inr rfl, ?_⟩
 exact Out.plain (by simp only [Tryz.results160]; rfl) (by simp only [az_, bc_, go_sem, seval] <;> (split <;> rfl)) (by simp only [bb_, go_sem, seval] <;> (rw [← adn_])) (by simp only [go_sem, seval])
end
section
set_option maxRecDepth 100000
set_option maxHeartbeats 1000000
def wdR (l : Wd) : List (List V) := l.map fun p => [.s p.1, .i .i64 p.2]
theorem af_ (l : Wd) : (wdR l).length = l.length := by simp [wdR]
theorem lz_ (a b : Wd) : wdR (a ++ b) = wdR a ++ wdR b := by simp [wdR]
theorem ad_ : ∀ l : Wd, b9_ (wdR l) = true
 | [] => rfl
 | p :: l => by simp only [wdR, List.map_cons, b9_, cd_, V.pure, Bool.true_and]; exact ad_ l
theorem aju_ (l : Wd) : ∀ r ∈ wdR l, r.length = 2 := fun r hr => by
 obtain ⟨p, _, rfl⟩ := List.mem_map.1 hr; rfl
theorem hi_ {l : Wd} {k : Nat} (h : k < l.length) : (wdR l).getD k [] = [.s (l.getD k ([], 0)).1, .i .i64 (l.getD k ([], 0)).2] := by
 simp [wdR, T8_, T6_ h]
theorem bm_ (l : Wd) : (∀ r, r ∈ wdR l → r.length = 2) = True := eq_true (aju_ l)
theorem zb_ {e : E} {d : Nat} (h : form e d = true) (hm : many e d ≤ 1000) (must nx : Int) : (src e must nx).length ≤ 3000 := by
 rw [← List.length_map (f := (·.1)), ef_]
 have := c7_ d e must h; omega
theorem il_ (e : E) (must nx : Int) : (src e must nx).length = (wds e must).length := by
 rw [← ef_ e must nx, List.length_map]
theorem e1_ {n : Int} (h : 0 ≤ n) : Lib.itoa n = Lib.decDigits n.toNat := by unfold Lib.itoa; rw [if_neg (by omega)]
theorem aax_ {e : E} {d : Int} (h : form e d = true) (must nx : Int) : src e must nx = brk (decide (e.kind = 3) && decide (bg_ e.s < must)) (src e 0 nx) := by
 rcases (bl_ h).2 with ⟨k1, _⟩ | ⟨k1, _⟩ | ⟨k1, h1, h2, h3, h4, h5⟩ | ⟨k1, h1, h2, h3, h4⟩
 ·rw [show (decide (e.kind = 3)) = false by simp [k1]]; cases e; simp only [E.kind] at k1; subst k1; simp [src, brk]
 ·rw [show (decide (e.kind = 3)) = false by simp [k1]]; cases e; simp only [E.kind] at k1; subst k1; simp [src, brk]
 ·have := cl_ h2
  rw [hr_ k1 h3, hr_ k1 h3, show decide (bg_ e.s < 0) = false by simp; omega]
  simp [k1, brk]
 ·rw [mt_ k1 h3, mt_ k1 h3]; simp [k1, brk]
def mx2 (t : Int) : Int := if t > 2 then t else 2
theorem agw_ (t : Int) : mx2 t = max 2 t := by unfold mx2; split <;> omega
theorem lq_ (d : Nat) : ∀ (e : E) (must nx : Int), form e d = true → sm e = true → many e d ≤ 1000 → 0 ≤ nx → nx + cnt e ≤ 1000000 → must ≤ 1000 → 
  ACall En 204 [.ag (eC e), .i .i64 must, .pt 0 1 0 0] [⟨3, 1, [[.i .i64 nx]]⟩] [.ow 1 2 0 (src e must nx).length] [⟨3, 1, [[.i .i64 (nx + cnt e)]]⟩, ⟨185, 2, wdR (src e must nx)⟩] := by
 induction d with
 | zero => intro e must nx h; have := (bl_ h).1; omega
 | succ d ih =>
 intro e must nx h hs hm hx hx2 hmu
 obtain ⟨a1, a2, a3⟩ := e5_ hs
 have e1 : ((d + 1 : Nat) : Int) - 1 = (d : Int) := by omega
 have hd1 : (1 : Int) ≤ ((d + 1 : Nat) : Int) := by omega
 have hc := (c7_ (d + 1) e must h).2.2.2
 have g12 : (e.kind = 1 ∨ e.kind = 2) → cnt e = 1 ∧ src e must nx = [(if e.kind = 1 then Lib.decDigits e.n.toNat else e.s, nx)] ∧ (e.kind = 1 → 0 ≤ e.n ∧ e.n ≤ 1000000) := fun hk => by
  rcases (bl_ h).2 with ⟨k1, h1, h2, h3, h4⟩ | ⟨k1, h1, h2, h3⟩ | ⟨k1, _⟩ | ⟨k1, _⟩ <;> try omega
  ·cases e; simp only [E.kind, E.kids] at k1 h4; subst k1 h4; simp [cnt, qu_, src, E.n, E.kind] at *; omega
  ·cases e; simp only [E.kind, E.kids] at k1 h3; subst k1 h3; simp [cnt, qu_, src, E.s, E.kind]
 have g3 : e.kind = 3 → e.kids.length = 2 ∧ 1 ≤ bg_ e.s ∧ bg_ e.s ≤ 3 ∧ form (e.kids.getD 0 E0) d = true ∧ form (e.kids.getD 1 E0) d = true ∧ many (e.kids.getD 0 E0) d ≤ 1000 ∧ many (e.kids.getD 1 E0) d ≤ 1000 ∧ 0 ≤ cnt (e.kids.getD 0 E0) ∧ cnt (e.kids.getD 0 E0) ≤ 1000 ∧ nx + cnt e = nx + 1 + cnt (e.kids.getD 0 E0) + cnt (e.kids.getD 1 E0) ∧ 0 ≤ cnt (e.kids.getD 1 E0) := fun hk => by
  rcases (bl_ h).2 with ⟨k1, _⟩ | ⟨k1, _⟩ | ⟨k1, h1, h2, h3, h4, h5⟩ | ⟨k1, _⟩ <;> try omega
  rw [e1] at h4 h5
  have := cl_ h2
  have hm2 := if_ hd1 h3
  rw [e1] at hm2
  have q1 := c7_ d _ 0 h4
  have q2 := c7_ d _ 0 h5
  exact ⟨h3, this.1, this.2, h4, h5, by omega, by omega, by omega, by omega, by rw [lv_ k1 h3]; omega, by omega⟩
 have g4 : e.kind = 4 → e.kids.length = 1 ∧ form (e.kids.getD 0 E0) d = true ∧ many (e.kids.getD 0 E0) d ≤ 1000 ∧ cnt e = cnt (e.kids.getD 0 E0) := fun hk => by
  rcases (bl_ h).2 with ⟨k1, _⟩ | ⟨k1, _⟩ | ⟨k1, _⟩ | ⟨k1, h1, h2, h3, h4⟩ <;> try omega
  rw [e1] at h4
  have hm2 := i4_ hd1 h3
  rw [e1] at hm2
  have q1 := c7_ d _ 0 h4
  exact ⟨h3, h4, by omega, ti_ k1 h3⟩
 have g0 : e.kind = 1 ∨ e.kind = 2 ∨ e.kind = 3 ∨ e.kind = 4 := by
  rcases (bl_ h).2 with ⟨k1, _⟩ | ⟨k1, _⟩ | ⟨k1, _⟩ | ⟨k1, _⟩ <;> omega
 have hT : e.kind = 3 → src e must nx = brk (decide (bg_ e.s < must)) (src (e.kids.getD 0 E0) (mx2 (bg_ e.s)) (nx + 1) ++ (e.s, nx) :: src (e.kids.getD 1 E0) (bg_ e.s + 1) (nx + 1 + cnt (e.kids.getD 0 E0))) ∧ nx + cnt e = nx + 1 + cnt (e.kids.getD 0 E0) + cnt (e.kids.getD 1 E0) := fun hk => ⟨by rw [agw_]; exact hr_ hk (g3 hk).1 _ _, (g3 hk).2.2.2.2.2.2.2.2.2.1⟩
 have hA : e.kind = 4 → src e must nx = src (e.kids.getD 0 E0) 4 nx ++ [([97, 115], -1), (e.s, -1)] ∧ cnt e = cnt (e.kids.getD 0 E0) := fun hk => ⟨mt_ hk (g4 hk).1 _ _, (g4 hk).2.2.2⟩
 have hL : ∀ k, k < e.kids.length → ∀ m n, (src (e.kids.getD k E0) m n).length ≤ 3000 := fun k hk m n => by
  rcases g0 with hk4 | hk4 | hk4 | hk4
  ·rcases (bl_ h).2 with ⟨k1, h1, h2, h3, h4⟩ | ⟨k1, _⟩ | ⟨k1, _⟩ | ⟨k1, _⟩ <;> try omega
   rw [h4] at hk; simp at hk
  ·rcases (bl_ h).2 with ⟨k1, _⟩ | ⟨k1, h1, h2, h3⟩ | ⟨k1, _⟩ | ⟨k1, _⟩ <;> try omega
   rw [h3] at hk; simp at hk
  ·have := g3 hk4
   have hk2 : k = 0 ∨ k = 1 := by omega
   rcases hk2 with rfl | rfl
   ·exact zb_ this.2.2.2.1 this.2.2.2.2.2.1 _ _
   ·exact zb_ this.2.2.2.2.1 this.2.2.2.2.2.2.1 _ _
  ·have := g4 hk4
   have hk2 : k = 0 := by omega
   subst hk2
   exact zb_ this.2.1 this.2.2.1 _ _
 refine aj_ (fn := Tryz.f204) [0, 150] Tryz.func204 rfl rfl (by simp) fun C => ?_
 rw [ay_]
 simp only [Tryz.ntmps204, T7_, List.length_nil, Nat.reduceAdd, Nat.reduceSub, List.replicate_succ, List.replicate_zero, List.cons_append, List.nil_append, bu_]
 refine .seq (.rgn [] (by simp only [go_sem, seval, af_, ad_, T2_, T1_]; rfl) ?_ ?_)
 ·(first | trivial | (simp; done) | (simp [b6_, List.forall_mem_append, bm_]; done))
 refine .seq (.rgn [] (by simp only [go_sem, seval, af_, ad_, T2_, T1_]; rfl) ?_ ?_)
 ·(first | trivial | (simp; done) | (simp [b6_, List.forall_mem_append, bm_]; done))
 refine .seqJ (fun u : Unit => ⟨[.no, .no, .no, .no, .no, .no, .no, .ow 150 2 0 (src e must nx).length, .no, .no, .no, .no, .no, .no, .no, .no, .no, .no, .no, .no, .no, .no, .no, .no, .no, .no, .no, .no, .no, .no, .no, .no, .no, .no, .no, .no, .no, .no, .no, .no, .no, .no, .no, .no, .no, .no, .no, .no, .no, .no, .no, .no, .no, .no, .no, .no, .no, .no, .no, .no, .no, .no, .no, .no, .no, .no, .no, .no, .no, .no, .no, .no, .no, .no, .no, .no, .no, .no, .no, .no, .no, .no, .no, .no, .no, .no, .no, .no, .no, .no, .no, .no, .no, .no, .no, .no, .no], bh_ [(0, ⟨3, 1, [[.i .i64 (nx + cnt e)]]⟩), (150, ⟨185, 2, wdR (src e must nx)⟩)], us [150]⟩) (fun u : Unit => True) ?_ (fun u hJ => ?_)
 ·refine .seq (.rgn [] (by simp only [go_sem, seval, af_, ad_, T2_, T1_]; rfl) ?_ ?_)
  ·(first | trivial | (simp; done) | (simp [b6_, List.forall_mem_append, bm_]; done))
  refine .block (.seqJ (fun q : Bool => ⟨[.no, .i .i64 must, .pt 0 1 0 0, .pt 13 4 0 0, .no, .no, .no, .no, .no, .no, .no, .no, .i .i64 e.kind, .b q, .no, .no, .no, .no, .no, .no, .no, .no, .no, .no, .no, .no, .no, .no, .no, .no, .no, .no, .no, .no, .no, .no, .no, .no, .no, .no, .no, .no, .no, .no, .no, .no, .no, .no, .no, .no, .no, .no, .no, .no, .no, .no, .no, .no, .no, .no, .no, .no, .no, .no, .no, .no, .no, .no, .no, .no, .no, .no, .no, .no, .no, .no, .no, .no, .no, .no, .no, .no, .no, .no, .no, .no, .no, .no, .no, .no, .no, .no, .no, .no, .no, .no, .no], bh_ [(0, ⟨3, 1, [[.i .i64 nx]]⟩), (13, ⟨33, 4, [eC e]⟩)], us [13]⟩) (fun q : Bool => q = (e.kind == 1 || e.kind == 2)) ?_ (fun q hJ => ?_))
  ·refine .seq (.rgn [] (by simp only [go_sem, seval, af_, ad_, T2_, T1_]; rfl) ?_ ?_)
   ·(first | trivial | (simp; done) | (simp [b6_, List.forall_mem_append, bm_]; done))
   refine .condB (by simp only [go_sem, seval, af_, ad_, T2_, T1_]; rfl) (by simp only [go_sem, seval, af_, ad_, T2_, T1_]) (fun h13 => ?_) (fun h13 => ?_)
   ·refine .skip ?_
    refine Exists.intro ((e.kind == 1 || e.kind == 2)) ⟨?_, ?_⟩
    ·rfl
    exact Can.weak (Weak.lit (by simp only [go_sem, seval, af_, ad_, T2_, T1_, ar_, leV, ap_, aq_, V.inn, us, T9_, Ta_] <;> (simp_all)) (by simp only [go_sem, seval, af_, ad_, T2_, T1_, ar_, leV, ap_, aq_, V.inn, us, T9_, Ta_]) (by simp only [go_sem, seval, af_, ad_, T2_, T1_, ar_, leV, ap_, aq_, V.inn, us, T9_, Ta_]))
   ·refine .rgn [] (by simp only [go_sem, seval, af_, ad_, T2_, T1_]; rfl) ?_ ?_
    ·(first | trivial | (simp; done) | (simp [b6_, List.forall_mem_append, bm_]; done))
    refine Exists.intro ((e.kind == 1 || e.kind == 2)) ⟨?_, ?_⟩
    ·rfl
    exact Can.weak (Weak.lit (by simp only [go_sem, seval, af_, ad_, T2_, T1_, ar_, leV, ap_, aq_, V.inn, us, T9_, Ta_] <;> (simp_all)) (by simp only [go_sem, seval, af_, ad_, T2_, T1_, ar_, leV, ap_, aq_, V.inn, us, T9_, Ta_]) (by simp only [go_sem, seval, af_, ad_, T2_, T1_, ar_, leV, ap_, aq_, V.inn, us, T9_, Ta_]))
  refine .condB (by simp only [go_sem, seval, af_, ad_, T2_, T1_]; rfl) (by simp only [go_sem, seval, af_, ad_, T2_, T1_]) (fun h13 => ?_) (fun h13 => ?_)
  ·refine .seq (.rgn [] (by simp only [go_sem, seval, af_, ad_, T2_, T1_]; rfl) ?_ ?_)
   ·(first | trivial | (simp; done) | (simp [b6_, List.forall_mem_append, bm_]; done))
   refine .seqJ (fun s : Str => ⟨[.no, .no, .pt 0 1 0 0, .pt 13 4 0 0, .no, .no, .no, .no, .s s, .no, .no, .no, .no, .no, .no, .no, .no, .no, .no, .no, .no, .no, .no, .no, .no, .no, .no, .no, .no, .no, .no, .no, .no, .no, .no, .no, .no, .no, .no, .no, .no, .no, .no, .no, .no, .no, .no, .no, .no, .no, .no, .no, .no, .no, .no, .no, .no, .no, .no, .no, .no, .no, .no, .no, .no, .no, .no, .no, .no, .no, .no, .no, .no, .no, .no, .no, .no, .no, .no, .no, .no, .no, .no, .no, .no, .no, .no, .no, .no, .no, .no, .no, .no, .no, .no, .no, .no], bh_ [(0, ⟨3, 1, [[.i .i64 nx]]⟩), (13, ⟨33, 4, [eC e]⟩)], us [13]⟩) (fun s : Str => s = if e.kind = 1 then Lib.decDigits e.n.toNat else e.s) ?_ (fun s hJ => ?_)
   ·refine .seq (.rgn [] (by simp only [go_sem, seval, af_, ad_, T2_, T1_]; rfl) ?_ ?_)
    ·(first | trivial | (simp; done) | (simp [b6_, List.forall_mem_append, bm_]; done))
    refine .condB (by simp only [go_sem, seval, af_, ad_, T2_, T1_]; rfl) (by simp only [go_sem, seval, af_, ad_, T2_, T1_]) (fun h20 => ?_) (fun h20 => ?_)
    ·refine .rgn [a8_ (yz_ e.n (by have := (g12 (.inl (by simpa using h20))).2.2 (by simpa using h20); omega) (by have := (g12 (.inl (by simpa using h20))).2.2 (by simpa using h20); omega))] (by simp only [go_sem, seval, af_, ad_, T2_, T1_]; rfl) ?_ ?_
     ·(first | trivial | (simp; done) | (simp [b6_, List.forall_mem_append, bm_]; done))
     refine Exists.intro (Lib.itoa e.n) ⟨?_, ?_⟩
     ·simp_all [e1_]
     exact Can.weak (Weak.lit (by simp only [go_sem, seval, af_, ad_, T2_, T1_, ar_, leV, ap_, aq_, V.inn, us, T9_, Ta_] <;> (simp_all)) (by simp only [go_sem, seval, af_, ad_, T2_, T1_, ar_, leV, ap_, aq_, V.inn, us, T9_, Ta_]) (by simp only [go_sem, seval, af_, ad_, T2_, T1_, ar_, leV, ap_, aq_, V.inn, us, T9_, Ta_]))
    ·refine .skip ?_
     refine Exists.intro (e.s) ⟨?_, ?_⟩
     ·simp_all [e1_]
     exact Can.weak (Weak.lit (by simp only [go_sem, seval, af_, ad_, T2_, T1_, ar_, leV, ap_, aq_, V.inn, us, T9_, Ta_] <;> (simp_all)) (by simp only [go_sem, seval, af_, ad_, T2_, T1_, ar_, leV, ap_, aq_, V.inn, us, T9_, Ta_]) (by simp only [go_sem, seval, af_, ad_, T2_, T1_, ar_, leV, ap_, aq_, V.inn, us, T9_, Ta_]))
   refine .seq (.rgnS [29] [bsO En] (by simp only [go_sem, seval, af_, ad_, T2_, T1_]; rfl) ?_ ?_)
   ·(first | trivial | (simp; done) | (simp [b6_, List.forall_mem_append, bm_]; done))
   refine .rgn [] (by simp only [go_sem, seval, af_, ad_, T2_, T1_, bi_ (show -9223372036854775808 ≤ nx + 1 by omega) (by omega)]; rfl) ?_ ?_
   ·(first | trivial | (simp; done) | (simp [b6_, List.forall_mem_append, bm_]; done))
   refine Exists.intro (()) ⟨?_, ?_⟩
   ·trivial
   refine Can.trans (Can.swap 39 150 (by decide) (by decide) (by decide) (by decide) (by simp only [go_sem, seval, af_, ad_, T2_, T1_, V.cl]) (by simp only [go_sem, seval, af_, ad_, T2_, T1_, V.cl]) (by simp only [go_sem, seval, af_, ad_, T2_, T1_, bj_, sw, swM, rnB] <;> rfl) (by simp only [go_sem, seval, af_, ad_, T2_, T1_, bj_, sw, swM, rnB] <;> rfl) (by simp only [go_sem, seval, af_, ad_, T2_, T1_, bj_, sw, swM, rnB] <;> rfl)) ?_
   exact Can.weak (Weak.lit (by simp only [go_sem, seval, af_, ad_, T2_, T1_, ar_, leV, ap_, aq_, V.inn, us, T9_, Ta_] <;> (first | (rw [(hT (by simpa using h35)).1, h74]; simp [brk]; (first | done | omega)) | (rw [(hA (by simpa using h82)).1]; simp) | (rw [(g12 (by simp_all)).2.1]; rfl))) (by simp only [go_sem, seval, af_, ad_, T2_, T1_, ar_, leV, ap_, aq_, V.inn, us, T9_, Ta_]) (by simp only [go_sem, seval, af_, ad_, T2_, T1_, ar_, leV, ap_, aq_, V.inn, us, T9_, Ta_] <;> (first | (rw [(hT (by simpa using h35)).1, (hT (by simpa using h35)).2, h74]; simp [brk, wdR, b7_, lz_]) | (rw [(hA (by simpa using h82)).1, (hA (by simpa using h82)).2]; simp [wdR]) | (rw [(g12 (by simp_all)).2.1, (g12 (by simp_all)).1, hJ]; simp [wdR]))))
  ·refine .seq (.rgn [] (by simp only [go_sem, seval, af_, ad_, T2_, T1_]; rfl) ?_ ?_)
   ·(first | trivial | (simp; done) | (simp [b6_, List.forall_mem_append, bm_]; done))
   refine .condB (by simp only [go_sem, seval, af_, ad_, T2_, T1_]; rfl) (by simp only [go_sem, seval, af_, ad_, T2_, T1_]) (fun h35 => ?_) (fun h35 => ?_)
   ·refine .seq (.rgnD [a8_ (jn_ e.s)] enM (by simp only [go_sem, seval, af_, ad_, T2_, T1_]; rfl) (by rfl) ?_ ?_)
    ·(first | trivial | (simp; done) | (simp [b6_, List.forall_mem_append, bm_]; done))
    refine .seq (.rgn [] (by simp only [go_sem, seval, af_, ad_, T2_, T1_, bi_ (show -9223372036854775808 ≤ nx + 1 by omega) (by omega)]; rfl) ?_ ?_)
    ·(first | trivial | (simp; done) | (simp [b6_, List.forall_mem_append, bm_]; done))
    refine .seq (.rgnD [bx_ [0] [65] (ih (e.kids.getD 0 E0) (mx2 (bg_ e.s)) (nx + 1) (g3 (by simpa using h35)).2.2.2.1 (c1_ a3 _ (bp_ (by have := g3 (by simpa using h35); omega))) (g3 (by simpa using h35)).2.2.2.2.2.1 (by omega) (by have := g3 (by simpa using h35); omega) (by have := g3 (by simpa using h35); rw [agw_]; omega))] enM (by simp only [go_sem, seval, af_, ad_, T2_, T1_, dp_ (show 0 < e.kids.length by have := g3 (by simpa using h35); omega), ai_, ao_]; rfl) (by rfl) ?_ ?_)
    ·have q := g3 (by simpa using h35); have q1 := hL 0 (by omega) (mx2 (bg_ e.s)) (nx + 1); have q2 : 0 < e.kids.length := (by omega); simp only [mx2, gt_iff_lt] at q1 ⊢; simp [-List.getD_eq_getElem?_getD, b6_, q2]; omega
    refine .seq (.rgn [bx_ [0] [80] (ih (e.kids.getD 1 E0) (bg_ e.s + 1) (nx + 1 + cnt (e.kids.getD 0 E0)) (g3 (by simpa using h35)).2.2.2.2.1 (c1_ a3 _ (bp_ (by have := g3 (by simpa using h35); omega))) (g3 (by simpa using h35)).2.2.2.2.2.2.1 (by have := g3 (by simpa using h35); omega) (by have := g3 (by simpa using h35); omega) (by have := g3 (by simpa using h35); omega))] (by simp only [go_sem, seval, af_, ad_, T2_, T1_, dp_ (show 1 < e.kids.length by have := g3 (by simpa using h35); omega), ai_, ao_, bi_ (show -9223372036854775808 ≤ bg_ e.s + 1 by have := g3 (by simpa using h35); omega) (by have := g3 (by simpa using h35); omega)]; rfl) ?_ ?_)
    ·have q := g3 (by simpa using h35); have q1 := hL 0 (by omega) (mx2 (bg_ e.s)) (nx + 1); have q2 : 1 < e.kids.length := (by omega); have q3 := hL 1 (by omega) (bg_ e.s + 1) (nx + 1 + cnt (e.kids.getD 0 E0)); simp [-List.getD_eq_getElem?_getD, b6_, q2, bm_]; omega
    refine .seq (.rgn [] (by simp only [go_sem, seval, af_, ad_, T2_, T1_]; rfl) ?_ ?_)
    ·(first | trivial | (simp; done) | (simp [b6_, List.forall_mem_append, bm_]; done))
    refine .condB (by simp only [go_sem, seval, af_, ad_, T2_, T1_]; rfl) (by simp only [go_sem, seval, af_, ad_, T2_, T1_]) (fun h74 => ?_) (fun h74 => ?_)
    ·refine .rgn [] (by simp only [go_sem, seval, af_, ad_, T2_, T1_]; rfl) ?_ ?_
     ·have q := g3 (by simpa using h35); have q1 := hL 0 (by omega) (mx2 (bg_ e.s)) (nx + 1); have q3 := hL 1 (by omega) (bg_ e.s + 1) (nx + 1 + cnt (e.kids.getD 0 E0)); simp [-List.getD_eq_getElem?_getD, b6_, bm_, or_imp, forall_and]; (first | omega)
     refine Exists.intro (()) ⟨?_, ?_⟩
     ·trivial
     refine Can.trans (Can.swap 91 150 (by decide) (by decide) (by decide) (by decide) (by simp only [go_sem, seval, af_, ad_, T2_, T1_, V.cl]) (by simp only [go_sem, seval, af_, ad_, T2_, T1_, V.cl]) (by simp only [go_sem, seval, af_, ad_, T2_, T1_, bj_, sw, swM, rnB] <;> rfl) (by simp only [go_sem, seval, af_, ad_, T2_, T1_, bj_, sw, swM, rnB] <;> rfl) (by simp only [go_sem, seval, af_, ad_, T2_, T1_, bj_, sw, swM, rnB] <;> rfl)) ?_
     exact Can.weak (Weak.lit (by simp only [go_sem, seval, af_, ad_, T2_, T1_, ar_, leV, ap_, aq_, V.inn, us, T9_, Ta_] <;> (first | (rw [(hT (by simpa using h35)).1, h74]; simp [brk]; (first | done | omega)) | (rw [(hA (by simpa using h82)).1]; simp) | (rw [(g12 (by simp_all)).2.1]; rfl))) (by simp only [go_sem, seval, af_, ad_, T2_, T1_, ar_, leV, ap_, aq_, V.inn, us, T9_, Ta_]) (by simp only [go_sem, seval, af_, ad_, T2_, T1_, ar_, leV, ap_, aq_, V.inn, us, T9_, Ta_] <;> (first | (rw [(hT (by simpa using h35)).1, (hT (by simpa using h35)).2, h74]; simp [brk, wdR, b7_, lz_]) | (rw [(hA (by simpa using h82)).1, (hA (by simpa using h82)).2]; simp [wdR]) | (rw [(g12 (by simp_all)).2.1, (g12 (by simp_all)).1, hJ]; simp [wdR]))))
    ·refine .skip ?_
     refine Exists.intro (()) ⟨?_, ?_⟩
     ·trivial
     refine Can.trans (Can.swap 81 150 (by decide) (by decide) (by decide) (by decide) (by simp only [go_sem, seval, af_, ad_, T2_, T1_, V.cl]) (by simp only [go_sem, seval, af_, ad_, T2_, T1_, V.cl]) (by simp only [go_sem, seval, af_, ad_, T2_, T1_, bj_, sw, swM, rnB] <;> rfl) (by simp only [go_sem, seval, af_, ad_, T2_, T1_, bj_, sw, swM, rnB] <;> rfl) (by simp only [go_sem, seval, af_, ad_, T2_, T1_, bj_, sw, swM, rnB] <;> rfl)) ?_
     exact Can.weak (Weak.lit (by simp only [go_sem, seval, af_, ad_, T2_, T1_, ar_, leV, ap_, aq_, V.inn, us, T9_, Ta_] <;> (first | (rw [(hT (by simpa using h35)).1, h74]; simp [brk]; (first | done | omega)) | (rw [(hA (by simpa using h82)).1]; simp) | (rw [(g12 (by simp_all)).2.1]; rfl))) (by simp only [go_sem, seval, af_, ad_, T2_, T1_, ar_, leV, ap_, aq_, V.inn, us, T9_, Ta_]) (by simp only [go_sem, seval, af_, ad_, T2_, T1_, ar_, leV, ap_, aq_, V.inn, us, T9_, Ta_] <;> (first | (rw [(hT (by simpa using h35)).1, (hT (by simpa using h35)).2, h74]; simp [brk, wdR, b7_, lz_]) | (rw [(hA (by simpa using h82)).1, (hA (by simpa using h82)).2]; simp [wdR]) | (rw [(g12 (by simp_all)).2.1, (g12 (by simp_all)).1, hJ]; simp [wdR]))))
   ·refine .seq (.rgn [] (by simp only [go_sem, seval, af_, ad_, T2_, T1_]; rfl) ?_ ?_)
    ·(first | trivial | (simp; done) | (simp [b6_, List.forall_mem_append, bm_]; done))
    refine .condB (by simp only [go_sem, seval, af_, ad_, T2_, T1_]; rfl) (by simp only [go_sem, seval, af_, ad_, T2_, T1_]) (fun h82 => ?_) (fun h82 => ?_)
    ·refine .rgnD [bx_ [0] [99] (ih (e.kids.getD 0 E0) 4 nx (g4 (by simpa using h82)).2.1 (c1_ a3 _ (bp_ (by have := g4 (by simpa using h82); omega))) (g4 (by simpa using h82)).2.2.1 hx (by have := g4 (by simpa using h82); omega) (by decide))] enM (by simp only [go_sem, seval, af_, ad_, T2_, T1_, dp_ (show 0 < e.kids.length by have := g4 (by simpa using h82); omega), ai_, ao_]; rfl) (by rfl) ?_ ?_
     ·have q := g4 (by simpa using h82); have q1 := hL 0 (by omega) 4 nx; have q2 : 0 < e.kids.length := (by omega); simp [-List.getD_eq_getElem?_getD, b6_, q2]; omega
     refine Exists.intro (()) ⟨?_, ?_⟩
     ·trivial
     refine Can.trans (Can.swap 105 150 (by decide) (by decide) (by decide) (by decide) (by simp only [go_sem, seval, af_, ad_, T2_, T1_, V.cl]) (by simp only [go_sem, seval, af_, ad_, T2_, T1_, V.cl]) (by simp only [go_sem, seval, af_, ad_, T2_, T1_, bj_, sw, swM, rnB] <;> rfl) (by simp only [go_sem, seval, af_, ad_, T2_, T1_, bj_, sw, swM, rnB] <;> rfl) (by simp only [go_sem, seval, af_, ad_, T2_, T1_, bj_, sw, swM, rnB] <;> rfl)) ?_
     exact Can.weak (Weak.lit (by simp only [go_sem, seval, af_, ad_, T2_, T1_, ar_, leV, ap_, aq_, V.inn, us, T9_, Ta_] <;> (first | (rw [(hT (by simpa using h35)).1, h74]; simp [brk]; (first | done | omega)) | (rw [(hA (by simpa using h82)).1]; simp) | (rw [(g12 (by simp_all)).2.1]; rfl))) (by simp only [go_sem, seval, af_, ad_, T2_, T1_, ar_, leV, ap_, aq_, V.inn, us, T9_, Ta_]) (by simp only [go_sem, seval, af_, ad_, T2_, T1_, ar_, leV, ap_, aq_, V.inn, us, T9_, Ta_] <;> (first | (rw [(hT (by simpa using h35)).1, (hT (by simpa using h35)).2, h74]; simp [brk, wdR, b7_, lz_]) | (rw [(hA (by simpa using h82)).1, (hA (by simpa using h82)).2]; simp [wdR]) | (rw [(g12 (by simp_all)).2.1, (g12 (by simp_all)).1, hJ]; simp [wdR]))))
    ·simp_all
 refine .seq (.rgn [] (by simp only [go_sem, seval, af_, ad_, T2_, T1_]; rfl) ?_ ?_)
 ·(first | trivial | (simp; done) | (simp [b6_, List.forall_mem_append, bm_]; done))
 refine .ret ⟨.inr rfl, ?_⟩
 exact Out.mem' (by simp only [Tryz.results204]; rfl) (by simp only [az_, bc_, go_sem, seval, af_, ad_, T2_, T1_]) (by simp only [bb_, rns, rn, go_sem, seval, af_, ad_, T2_, T1_] <;> (simp_all)) (by simp) rfl (by decide) (by simp only [go_sem, seval, af_, ad_, T2_, T1_]) (by simp only [ao_, go_sem, seval, af_, ad_, T2_, T1_]) (by simp only [ai_, go_sem, seval, af_, ad_, T2_, T1_] <;> (simp))
end
end Go.Proofs.YtcigkafioinfoaaGreatDoor
