/- Lists of numbers: the same, marked, held. Conditions: none. -/
import Derived.Test.YtpikbndepapbhabGreatDoorKt
import Derived.Test.YtpikbndepapbhabGreatDoorKx
import Derived.Test.YtpikbndepapbhabGreatDoorK4
import Derived.Test.YtpikbndepapbhabGreatDoorK6
import Derived.Test.YtpikbndepapbhabGreatDoorKv
set_option linter.unusedVariables false
set_option linter.unusedSimpArgs false
namespace Go.Proofs.YtpikbndepapbhabGreatDoor
section
set_option maxRecDepth 100000
set_option maxHeartbeats 4000000
theorem ac2_ {α : Type} {d : α} {a b : List α} {k : Nat} (ha : k < a.length) (hb : k < b.length) (h : a.take k = b.take k) (e : a.getD k d = b.getD k d) : a.take (k + 1) = b.take (k + 1) := by
 rw [List.take_add_one (l := a), List.take_add_one (l := b), h, T6_ ha, T6_ hb]
 rw [T8_, T8_, T6_ ha, T6_ hb] at e
 rw [show a[k] = b[k] by simpa using e]
theorem s7_ (a b : List Int) (ha : a.length ≤ 1000000000000) (hb : b.length ≤ 1000000000000) : ACall En 29 [.sl false (inR a), .sl false (inR b)] [] [.b (a == b)] [] := by
 refine al_ (fn := Tryz.f29) [] Tryz.func29 rfl rfl (by simp) fun C => ?_
 rw [aw_]
 simp only [Tryz.ntmps29, T7_, List.length_nil, Nat.reduceAdd, Nat.reduceSub, List.replicate_succ, List.replicate_zero, List.cons_append, List.nil_append, bo_]
 refine .seq (.rgn [] (by simp only [go_sem, seval, af_, ac_]; rfl) ?_ ?_)
 ·first | trivial | simp
 refine .seq (.seq (.rgn [] (by simp only [go_sem, seval, af_, ac_]; rfl) ?_ ?_))
 ·first | trivial | simp
 refine .condB (by simp only [go_sem, seval, af_, ac_]; rfl) (by simp only [go_sem, seval, af_, ac_]) (fun h10 => ?_) (fun h10 => ?_)
 ·refine .seq (.rgn [] (by simp only [go_sem, seval, af_, ac_]; rfl) ?_ ?_)
  ·first | trivial | simp
  refine .ret ⟨.inr rfl, ?_⟩
  exact Out.plain (by simp only [Tryz.results29]; rfl) (by simp only [av_, a3_, go_sem, seval, af_, ac_] <;> (split <;> rfl)) (by simp only [a2_, go_sem, seval, af_, ac_] <;> (have : a ≠ b := (fun e => by simp [e] at h10); simp [this])) (by simp only [go_sem, seval, af_, ac_])
 ·refine .skip (.seq (.seq (.rgn [] (by simp only [go_sem, seval, af_, ac_]; rfl) ?_ ?_)))
  ·first | trivial | simp
  refine .block (.loopK (fun k : Nat => ⟨[.sl false (inR a), .sl false (inR b), .no, .no, .no, .i .i64 k, .no, .no, .no, .no, .no, .no, .no, .no, .no, .no, .no, .no, .no, .no, .no, .no, .no, .no, .no, .no], bc_ [], us []⟩) (fun k : Nat => k ≤ a.length ∧ a.take k = b.take k) (fun k : Nat => a.length - k) (0) ?_ ?_ (fun k hI => ?_))
  ·exact ⟨Nat.zero_le _, rfl⟩
  ·exact Can.weak (Weak.lit (by simp only [go_sem, seval, af_, ac_, aq_, leV, ao_, ap_, V.inn, us, T9_, Ta_] <;> (simp)) (by simp only [go_sem, seval, af_, ac_, aq_, leV, ao_, ap_, V.inn, us, T9_, Ta_]) (by simp only [go_sem, seval, af_, ac_, aq_, leV, ao_, ap_, V.inn, us, T9_, Ta_]))
  refine .seq (.seq (.rgn [] (by simp only [go_sem, seval, af_, ac_]; rfl) ?_ ?_))
  ·first | trivial | simp
  refine .condB (by simp only [go_sem, seval, af_, ac_]; rfl) (by simp only [go_sem, seval, af_, ac_]) (fun h14 => ?_) (fun h14 => ?_)
  ·refine .skip (.seq (.block (.seq (.rgnD [] enM (by simp only [go_sem, seval, af_, ac_, fk_ (show k < a.length by simpa using h14), fk_ (show k < b.length by simp at h14 h10; omega)]; rfl) (by rfl) ?_ ?_))))
   ·simp at h14 h10; simp; omega
   refine .condB (by simp only [go_sem, seval, af_, ac_]; rfl) (by simp only [go_sem, seval, af_, ac_]) (fun h25 => ?_) (fun h25 => ?_)
   ·refine .seq (.rgn [] (by simp only [go_sem, seval, af_, ac_]; rfl) ?_ ?_)
    ·first | trivial | simp
    refine .ret ⟨.inr rfl, ?_⟩
    exact Out.plain (by simp only [Tryz.results29]; rfl) (by simp only [av_, a3_, go_sem, seval, af_, ac_] <;> (split <;> rfl)) (by simp only [a2_, go_sem, seval, af_, ac_] <;> (have h2 : a.getD k 0 ≠ b.getD k 0 := bne_iff_ne.1 h25; have : a ≠ b := (fun e => h2 (by rw [e])); simp [this])) (by simp only [go_sem, seval, af_, ac_])
   ·refine .skip (.rgn [] (by simp only [go_sem, seval, af_, ac_]; rfl) ?_ ?_)
    ·first | trivial | simp
    refine Exists.intro (k + 1) ⟨?_, ?_, ?_⟩
    ·simp only [T3_] at h14; simp at h10; exact ⟨by omega, ac2_ (d := 0) (by omega) (by omega) hI.2 (by simpa using h25)⟩
    ·simp at h14; omega
    exact Can.weak (Weak.lit (by simp only [go_sem, seval, af_, ac_, aq_, leV, ao_, ap_, V.inn, us, T9_, Ta_] <;> (rw [bd_ (by simp at h14; omega) (by simp at h14; omega)]; simp)) (by simp only [go_sem, seval, af_, ac_, aq_, leV, ao_, ap_, V.inn, us, T9_, Ta_]) (by simp only [go_sem, seval, af_, ac_, aq_, leV, ao_, ap_, V.inn, us, T9_, Ta_]))
  ·refine .exit (.seq (.rgn [] (by simp only [go_sem, seval, af_, ac_]; rfl) ?_ ?_))
   ·first | trivial | simp
   refine .ret ⟨.inr rfl, ?_⟩
   exact Out.plain (by simp only [Tryz.results29]; rfl) (by simp only [av_, a3_, go_sem, seval, af_, ac_] <;> (split <;> rfl)) (by simp only [a2_, go_sem, seval, af_, ac_] <;> (simp only [T4_] at h14; simp at h10; have q := hI.2; rw [T1_ (by omega), T1_ (by omega)] at q; simp [q])) (by simp only [go_sem, seval, af_, ac_])
def i7_ (k : Int) (n : Nat) : List Int := (List.range n).map fun (i : Nat) => k + (i : Int)
theorem a5_ (k : Int) (n : Nat) : (i7_ k n).length = n := by simp [i7_]
theorem ab7_ {k : Int} {n i : Nat} (h : i < n) : (i7_ k n).getD i 0 = k + i := by
 simp [i7_, T8_, h]
theorem yj_ {k : Int} {l : List Int} {i : Nat} (h : i < l.length) : (inR (i7_ k i ++ l.drop i)).set i (.i .i64 (k + i) :: ((inR (i7_ k i ++ l.drop i)).getD i []).drop 1) = inR (i7_ k (i + 1) ++ l.drop (i + 1)) := by
 rw [fk_ (by rw [T2_, a5_, List.length_drop]; omega)]
 have e : (i7_ k i ++ l.drop i).set i (k + i) = i7_ k (i + 1) ++ l.drop (i + 1) := by
  rw [List.set_append_right _ _ (by rw [a5_]; exact Nat.le_refl _), a5_, Nat.sub_self, List.drop_eq_getElem_cons h, List.set_cons_zero]
  simp [i7_, List.range_succ]
 rw [← e]
 simp only [inR, List.map_set, List.drop_succ_cons, List.drop_nil]
theorem wp_ (l : List Int) (k : Int) (hl : l.length ≤ 1000000) (h0 : 0 ≤ k) (h1 : k ≤ 1000000) : ACall En 30 [.ow 0 1 0 l.length, .i .i64 k] [⟨3, 1, inR l⟩] [.i .i64 (k + l.length)] [⟨3, 1, inR (i7_ k l.length)⟩] := by
 refine al_ (fn := Tryz.f30) [0] Tryz.func30 rfl rfl (by simp) fun C => ?_
 rw [aw_]
 simp only [Tryz.ntmps30, T7_, List.length_nil, Nat.reduceAdd, Nat.reduceSub, List.replicate_succ, List.replicate_zero, List.cons_append, List.nil_append, bo_]
 refine .seq (.rgn [] (by simp only [go_sem, seval, af_, ac_]; rfl) ?_ ?_)
 ·(first | trivial | (simp; done) | (simp only [T3_] at h9; simp [af_, a5_]; omega))
 refine .seq (.seq (.rgn [] (by simp only [go_sem, seval, af_, ac_]; rfl) ?_ ?_))
 ·(first | trivial | (simp; done) | (simp only [T3_] at h9; simp [af_, a5_]; omega))
 refine .block (.loopK (fun i : Nat => ⟨[.ow 0 1 0 l.length, .i .i64 (k + i), .no, .no, .no, .i .i64 i, .no, .no, .no, .no, .no, .no, .no, .no, .no, .no, .no, .no, .no], bc_ [(0, ⟨3, 1, inR (i7_ k i ++ l.drop i)⟩)], us [0]⟩) (fun i : Nat => i ≤ l.length) (fun i : Nat => l.length - i) (0) ?_ ?_ (fun i hI => ?_))
 ·simp
 ·exact Can.weak (Weak.lit (by simp only [go_sem, seval, af_, ac_, aq_, leV, ao_, ap_, V.inn, us, T9_, Ta_] <;> ((try simp))) (by simp only [go_sem, seval, af_, ac_, aq_, leV, ao_, ap_, V.inn, us, T9_, Ta_]) (by simp only [go_sem, seval, af_, ac_, aq_, leV, ao_, ap_, V.inn, us, T9_, Ta_] <;> ((try simp [i7_]))))
 refine .seq (.seq (.rgn [] (by simp only [go_sem, seval, af_, ac_]; rfl) ?_ ?_))
 ·(first | trivial | (simp; done) | (simp only [T3_] at h9; simp [af_, a5_]; omega))
 refine .condB (by simp only [go_sem, seval, af_, ac_]; rfl) (by simp only [go_sem, seval, af_, ac_]) (fun h9 => ?_) (fun h9 => ?_)
 ·refine .skip (.seq (.block (.seq (.rgn [] (by simp only [go_sem, seval, af_, ac_]; rfl) ?_ ?_))))
  ·(first | trivial | (simp; done) | (simp only [T3_] at h9; simp [af_, a5_]; omega))
  refine .rgn [] (by simp only [go_sem, seval, af_, ac_]; rfl) ?_ ?_
  ·(first | trivial | (simp; done) | (simp only [T3_] at h9; simp [af_, a5_]; omega))
  refine .rgn [] (by simp only [go_sem, seval, af_, ac_]; rfl) ?_ ?_
  ·(first | trivial | (simp; done) | (simp only [T3_] at h9; simp [af_, a5_]; omega))
  refine Exists.intro (i + 1) ⟨?_, ?_, ?_⟩
  ·simp only [T3_] at h9; omega
  ·simp only [T3_] at h9; omega
  exact Can.weak (Weak.lit (by simp only [go_sem, seval, af_, ac_, aq_, leV, ao_, ap_, V.inn, us, T9_, Ta_] <;> (simp only [T3_] at h9; exact ⟨by rw [bd_ (by omega) (by omega)]; omega, bd_ (n := ((i + 1 : Nat) : Int)) (by omega) (by omega)⟩)) (by simp only [go_sem, seval, af_, ac_, aq_, leV, ao_, ap_, V.inn, us, T9_, Ta_]) (by simp only [go_sem, seval, af_, ac_, aq_, leV, ao_, ap_, V.inn, us, T9_, Ta_] <;> (simp only [T3_] at h9; rw [yj_ (show i < l.length by omega)])))
 ·refine .exit (.seq (.rgn [] (by simp only [go_sem, seval, af_, ac_]; rfl) ?_ ?_))
  ·(first | trivial | (simp; done) | (simp only [T3_] at h9; simp [af_, a5_]; omega))
  refine .ret ⟨.inr rfl, ?_⟩
  exact Out.mem' (by simp only [Tryz.results30]; rfl) (by simp only [av_, a3_, go_sem, seval, af_, ac_]) (by simp only [a2_, rns, rn, go_sem, seval, af_, ac_] <;> (simp only [T4_] at h9; rw [show (i : Int) = l.length by omega])) (by simp) rfl (by decide) (by simp only [go_sem, seval, af_, ac_]) (by simp only [an_, go_sem, seval, af_, ac_]) (by simp only [ah_, go_sem, seval, af_, ac_] <;> (simp only [T4_] at h9; rw [show i = l.length by omega]; simp))
theorem pb_ (n : Nat) (k : Int) (hl : n ≤ 1000000) (h0 : 0 ≤ k) (h1 : k ≤ 1000000) : ACall En 31 [.sl false (inR (i7_ k n)), .i .i64 k] [] [.i .i64 (k + n)] [] := by
 refine al_ (fn := Tryz.f31) [] Tryz.func31 rfl rfl (by simp) fun C => ?_
 rw [aw_]
 simp only [Tryz.ntmps31, T7_, List.length_nil, Nat.reduceAdd, Nat.reduceSub, List.replicate_succ, List.replicate_zero, List.cons_append, List.nil_append, bo_]
 refine .seq (.rgn [] (by simp only [go_sem, seval, af_, ac_, a5_]; rfl) ?_ ?_)
 ·(first | trivial | (simp; done) | (simp only [T3_] at h9; simp [af_, a5_]; omega))
 refine .seq (.seq (.rgn [] (by simp only [go_sem, seval, af_, ac_, a5_]; rfl) ?_ ?_))
 ·(first | trivial | (simp; done) | (simp only [T3_] at h9; simp [af_, a5_]; omega))
 refine .block (.loopK (fun i : Nat => ⟨[.sl false (inR (i7_ k n)), .i .i64 (k + i), .no, .no, .no, .i .i64 i, .no, .no, .no, .no, .no, .no, .no, .no, .no, .no, .no, .no, .no, .no, .no], bc_ [], us []⟩) (fun i : Nat => i ≤ n) (fun i : Nat => n - i) (0) ?_ ?_ (fun i hI => ?_))
 ·simp
 ·exact Can.weak (Weak.lit (by simp only [go_sem, seval, af_, ac_, a5_, aq_, leV, ao_, ap_, V.inn, us, T9_, Ta_] <;> ((try simp))) (by simp only [go_sem, seval, af_, ac_, a5_, aq_, leV, ao_, ap_, V.inn, us, T9_, Ta_]) (by simp only [go_sem, seval, af_, ac_, a5_, aq_, leV, ao_, ap_, V.inn, us, T9_, Ta_]))
 refine .seq (.seq (.rgn [] (by simp only [go_sem, seval, af_, ac_, a5_]; rfl) ?_ ?_))
 ·(first | trivial | (simp; done) | (simp only [T3_] at h9; simp [af_, a5_]; omega))
 refine .condB (by simp only [go_sem, seval, af_, ac_, a5_]; rfl) (by simp only [go_sem, seval, af_, ac_, a5_]) (fun h9 => ?_) (fun h9 => ?_)
 ·refine .skip (.seq (.block (.seq (.seq (.rgn [] (by simp only [go_sem, seval, af_, ac_, a5_, fk_ (show i < (i7_ k n).length by rw [a5_]; simpa using h9), ab7_ (show i < n by simpa using h9)]; rfl) ?_ ?_)))))
  ·(first | trivial | (simp; done) | (simp only [T3_] at h9; simp [af_, a5_]; omega))
  refine .condB (by simp only [go_sem, seval, af_, ac_, a5_]; rfl) (by simp only [go_sem, seval, af_, ac_, a5_]) (fun h17 => ?_) (fun h17 => ?_)
  ·simp at h17
  ·refine .skip (.rgn [] (by simp only [go_sem, seval, af_, ac_, a5_]; rfl) ?_ ?_)
   ·(first | trivial | (simp; done) | (simp only [T3_] at h9; simp [af_, a5_]; omega))
   refine .rgn [] (by simp only [go_sem, seval, af_, ac_, a5_]; rfl) ?_ ?_
   ·(first | trivial | (simp; done) | (simp only [T3_] at h9; simp [af_, a5_]; omega))
   refine Exists.intro (i + 1) ⟨?_, ?_, ?_⟩
   ·simp only [T3_] at h9; omega
   ·simp only [T3_] at h9; omega
   exact Can.weak (Weak.lit (by simp only [go_sem, seval, af_, ac_, a5_, aq_, leV, ao_, ap_, V.inn, us, T9_, Ta_] <;> (simp only [T3_] at h9; exact ⟨by rw [bd_ (by omega) (by omega)]; omega, bd_ (n := ((i + 1 : Nat) : Int)) (by omega) (by omega)⟩)) (by simp only [go_sem, seval, af_, ac_, a5_, aq_, leV, ao_, ap_, V.inn, us, T9_, Ta_]) (by simp only [go_sem, seval, af_, ac_, a5_, aq_, leV, ao_, ap_, V.inn, us, T9_, Ta_]))
 ·refine .exit (.seq (.rgn [] (by simp only [go_sem, seval, af_, ac_, a5_]; rfl) ?_ ?_))
  ·(first | trivial | (simp; done) | (simp only [T3_] at h9; simp [af_, a5_]; omega))
  refine .ret ⟨.inr rfl, ?_⟩
  exact Out.plain (by simp only [Tryz.results31]; rfl) (by simp only [av_, a3_, go_sem, seval, af_, ac_, a5_] <;> (split <;> rfl)) (by simp only [a2_, go_sem, seval, af_, ac_, a5_] <;> (simp only [T4_] at h9; rw [show (i : Int) = n by omega])) (by simp only [go_sem, seval, af_, ac_, a5_])
end
section
set_option maxRecDepth 100000
set_option maxHeartbeats 4000000
theorem gc_ (b : Bl) (hs : smb b = true) : ACall En 21 [.ag (bC b)] [] [.s (dk_ b)] [] := by
 refine al_ (fn := Tryz.f21) [] Tryz.func21 rfl rfl (by simp) fun C => ?_
 rw [aw_]
 simp only [Tryz.ntmps21, T7_, List.length_nil, Nat.reduceAdd, Nat.reduceSub, List.replicate_succ, List.replicate_zero, List.cons_append, List.nil_append, bo_]
 refine .seq (.rgn [] (by simp only [go_sem, seval, ae_, aa_]; rfl) ?_ ?_)
 ·first | trivial | simp
 refine .seq (.seq (.rgn [a1_ (f5_ b hs)] (by simp only [go_sem, seval, ae_, aa_]; rfl) ?_ ?_))
 ·first | trivial | simp
 refine .condB (by simp only [go_sem, seval, ae_, aa_]; rfl) (by simp only [go_sem, seval, ae_, aa_]) (fun h5 => ?_) (fun h5 => ?_)
 ·refine .seq (.rgn [] (by simp only [go_sem, seval, ae_, aa_]; rfl) ?_ ?_)
  ·first | trivial | simp
  refine .ret ⟨.inr rfl, ?_⟩
  exact Out.plain (by simp only [Tryz.results21]; rfl) (by simp only [av_, a3_, go_sem, seval, ae_, aa_] <;> (split <;> rfl)) (by simp only [a2_, go_sem, seval, ae_, aa_] <;> (simp at h5; simp [dk_, h5])) (by simp only [go_sem, seval, ae_, aa_])
 ·refine .skip (.seq (.rgn [ck_ (bok b = true) (fun h => i3_ b (of_ h) hs), ck_ (bok b = true) (fun h => hu_ (bw b) (by have := (p6_ (of_ h)).1; omega) (by have := j1_ (of_ h); omega))] (by simp only [go_sem, seval, ae_, aa_]; rfl) ?_ ?_))
  ·simp at h5; simp [h5]
  refine .ret ⟨.inr rfl, ?_⟩
  exact Out.plain (by simp only [Tryz.results21]; rfl) (by simp only [av_, a3_, go_sem, seval, ae_, aa_] <;> (split <;> rfl)) (by simp only [a2_, go_sem, seval, ae_, aa_] <;> (simp at h5; simp [dk_, h5])) (by simp only [go_sem, seval, ae_, aa_])
theorem m6_ (b : Str) : ACall En 18 [.sl false (byR b)] [] [.ag (bC (d7 (b.take 2000) 0).1)] [] := by
 refine al_ (fn := Tryz.f18) [] Tryz.func18 rfl rfl (by simp) fun C => ?_
 rw [aw_]
 simp only [Tryz.ntmps18, T7_, List.length_nil, Nat.reduceAdd, Nat.reduceSub, List.replicate_succ, List.replicate_zero, List.cons_append, List.nil_append, bo_]
 refine .seq (.rgn [] (by simp only [go_sem, seval, ah_, an_, ae_]; rfl) ?_ ?_)
 ·first | trivial | simp
 refine .seq (.rgn [bm_ [] [14] (eq_ b), bm_ [14] [] (hd_ (b.take 2000) 0 (by simp; omega) (by decide) (by decide))] (by simp only [go_sem, seval, ah_, an_, ae_]; rfl) ?_ ?_)
 ·first | trivial | simp
 refine .ret ⟨.inr rfl, ?_⟩
 exact Out.plain (by simp only [Tryz.results18]; rfl) (by simp only [av_, a3_, go_sem, seval, ah_, an_, ae_] <;> (split <;> rfl)) (by simp only [a2_, go_sem, seval, ah_, an_, ae_] <;> (rfl)) (by simp only [go_sem, seval, ah_, an_, ae_])
def pq_ (b : Str) (p : Int) (l : List Str) (s : Str) : Str :=
 s.take (b0_ b p s.length).toNat ++ ofI b (p + 1) l ++ s.drop ((b0_ b p s.length).toNat + (b0_ b (p + 1 + 1) 2).toNat)
theorem fs_ {b : Str} {p : Int} {s : Str} (h0 : ((s.length : Int) == 0) = false) (hp : 0 ≤ p) (hp2 : p < 1000000000) (hs : s.length ≤ 1000000) :
  0 ≤ b0_ b p s.length ∧ b0_ b p s.length ≤ s.length ∧ IntKind.i64.wrap (b0_ b p s.length + b0_ b (p + 1 + 1) 2) = b0_ b p s.length + b0_ b (p + 1 + 1) 2 ∧ 0 ≤ b0_ b p s.length + b0_ b (p + 1 + 1) 2 ∧ b0_ b p s.length + b0_ b (p + 1 + 1) 2 ≤ s.length ∧ (b0_ b p s.length + b0_ b (p + 1 + 1) 2).toNat = (b0_ b p s.length).toNat + (b0_ b (p + 1 + 1) 2).toNat ∧ (s.take (b0_ b p s.length).toNat).length ≤ s.length := by
 rw [beq_eq_false_iff_ne] at h0
 have h1 := ev_ b (p := p) (n := s.length) hp (by omega) (by omega)
 have h2 := ev_ b (p := p + 1 + 1) (n := 2) (by omega) (by omega) (by decide)
 refine ⟨h1.1, by omega, bd_ (by omega) (by omega), by omega, by omega, by omega, by simp; omega⟩
theorem uf_ {b : Str} {p : Int} {l : List Str} {s : Str} (k : Nat) (hl : 0 < l.length) (h : ∀ w ∈ l, w.length ≤ k) (hp : 0 ≤ p) (hp2 : p < 1000000000) : (pq_ b p l s).length ≤ s.length + k + s.length := by
 have := e1_ (b := b) (p := p + 1) hl (by omega) (by omega) k h
 unfold pq_
 simp only [T2_, List.length_take, List.length_drop]; omega
def es_ : List Str := [[], [32], [49], [112, 114, 105, 110, 116, 32], [40], [120], [63], [58]]
def ss_ (b : Str) : Str :=
 if dk_ (d7 b 0).1 = [] ∨ b0_ b (d7 b 0).2 2 = 0 then dk_ (d7 b 0).1 else pq_ b ((d7 b 0).2 + 1) es_ (dk_ (d7 b 0).1)
theorem kl_ (b : Bl) : (dk_ b).length ≤ 120 := by
 unfold dk_; split
 ·rename_i h; exact (h4_ h).1
 ·simp
theorem oi_ (c : Str) (h0 : (((dk_ (d7 (c.take 2000) 0).1).length : Int) == 0) = false) : ACall En 25 [.sl false (byR c)] [] [.s (ss_ (c.take 2000))] [] := by
 have hb : (c.take 2000).length ≤ 2000 := by simp; omega
 have hO := eq_ c
 generalize hc : c.take 2000 = b at *
 obtain ⟨h1, h2, h3⟩ := ze_ b (p := 0) (by decide) (by decide)
 have k1 := kl_ (d7 b 0).1
 have T := gc_ (d7 b 0).1 h3
 have D := hd_ b 0 hb (by decide) (by decide)
 have hd : ss_ b = if dk_ (d7 b 0).1 = [] ∨ b0_ b (d7 b 0).2 2 = 0 then dk_ (d7 b 0).1 else pq_ b ((d7 b 0).2 + 1) es_ (dk_ (d7 b 0).1) := rfl
 generalize (d7 b 0).1 = x at *
 generalize (d7 b 0).2 = p at *
 generalize dk_ x = s at *
 refine al_ (fn := Tryz.f25) [] Tryz.func25 rfl rfl (by simp) fun C => ?_
 rw [aw_]
 simp only [Tryz.ntmps25, T7_, List.length_nil, Nat.reduceAdd, Nat.reduceSub, List.replicate_succ, List.replicate_zero, List.cons_append, List.nil_append, bo_]
 refine .seq (.rgn [] (by simp only [go_sem, seval, ah_, an_, ae_, h0]; rfl) ?_ ?_)
 ·(first | trivial | (simp; done) | (obtain ⟨q1, q2, q3, q4, q5, q6, q7⟩ := fs_ (b := b) (p := p + 1) h0 (by omega) (by omega) (by omega); have q8 := e1_ (b := b) (p := p + 1 + 1) (l := es_) (by decide) (by omega) (by omega) 6 (by decide); rw [q3]; refine ⟨⟨⟨⟨⟨⟨q1, q2, Int.le_refl _, by simp⟩, by simp [es_, bi_, ler, les, leV], by simp⟩, by omega⟩, by simp⟩, q4, q5, Int.le_refl _⟩, ?_⟩; simp only [T2_, List.length_drop, List.length_take] at q7 ⊢; omega))
 refine .seq (.rgn [bm_ [] [17] hO] (by simp only [go_sem, seval, ah_, an_, ae_, h0]; rfl) ?_ ?_)
 ·(first | trivial | (simp; done) | (obtain ⟨q1, q2, q3, q4, q5, q6, q7⟩ := fs_ (b := b) (p := p + 1) h0 (by omega) (by omega) (by omega); have q8 := e1_ (b := b) (p := p + 1 + 1) (l := es_) (by decide) (by omega) (by omega) 6 (by decide); rw [q3]; refine ⟨⟨⟨⟨⟨⟨q1, q2, Int.le_refl _, by simp⟩, by simp [es_, bi_, ler, les, leV], by simp⟩, by omega⟩, by simp⟩, q4, q5, Int.le_refl _⟩, ?_⟩; simp only [T2_, List.length_drop, List.length_take] at q7 ⊢; omega))
 refine .seq (.rgn [bm_ [17] [] D, a1_ T] (by simp only [go_sem, seval, ah_, an_, ae_, h0]; rfl) ?_ ?_)
 ·(first | trivial | (simp; done) | (obtain ⟨q1, q2, q3, q4, q5, q6, q7⟩ := fs_ (b := b) (p := p + 1) h0 (by omega) (by omega) (by omega); have q8 := e1_ (b := b) (p := p + 1 + 1) (l := es_) (by decide) (by omega) (by omega) 6 (by decide); rw [q3]; refine ⟨⟨⟨⟨⟨⟨q1, q2, Int.le_refl _, by simp⟩, by simp [es_, bi_, ler, les, leV], by simp⟩, by omega⟩, by simp⟩, q4, q5, Int.le_refl _⟩, ?_⟩; simp only [T2_, List.length_drop, List.length_take] at q7 ⊢; omega))
 refine .seq (.seq (.rgn [bm_ [17] [] (di_ b p 2 hb (by omega) (by omega))] (by simp only [go_sem, seval, ah_, an_, ae_, h0]; rfl) ?_ ?_))
 ·(first | trivial | (simp; done) | (obtain ⟨q1, q2, q3, q4, q5, q6, q7⟩ := fs_ (b := b) (p := p + 1) h0 (by omega) (by omega) (by omega); have q8 := e1_ (b := b) (p := p + 1 + 1) (l := es_) (by decide) (by omega) (by omega) 6 (by decide); rw [q3]; refine ⟨⟨⟨⟨⟨⟨q1, q2, Int.le_refl _, by simp⟩, by simp [es_, bi_, ler, les, leV], by simp⟩, by omega⟩, by simp⟩, q4, q5, Int.le_refl _⟩, ?_⟩; simp only [T2_, List.length_drop, List.length_take] at q7 ⊢; omega))
 refine .condB (by simp only [go_sem, seval, ah_, an_, ae_, h0]; rfl) (by simp only [go_sem, seval, ah_, an_, ae_, h0]) (fun h18 => ?_) (fun h18 => ?_)
 ·refine .seq (.rgn [] (by simp only [go_sem, seval, ah_, an_, ae_, h0]; rfl) ?_ ?_)
  ·(first | trivial | (simp; done) | (obtain ⟨q1, q2, q3, q4, q5, q6, q7⟩ := fs_ (b := b) (p := p + 1) h0 (by omega) (by omega) (by omega); have q8 := e1_ (b := b) (p := p + 1 + 1) (l := es_) (by decide) (by omega) (by omega) 6 (by decide); rw [q3]; refine ⟨⟨⟨⟨⟨⟨q1, q2, Int.le_refl _, by simp⟩, by simp [es_, bi_, ler, les, leV], by simp⟩, by omega⟩, by simp⟩, q4, q5, Int.le_refl _⟩, ?_⟩; simp only [T2_, List.length_drop, List.length_take] at q7 ⊢; omega))
  refine .ret ⟨.inr rfl, ?_⟩
  exact Out.plain (by simp only [Tryz.results25]; rfl) (by simp only [av_, a3_, go_sem, seval, ah_, an_, ae_, h0] <;> (split <;> rfl)) (by simp only [a2_, go_sem, seval, ah_, an_, ae_, h0] <;> (rw [hd, if_pos (.inr (by simpa using h18))])) (by simp only [go_sem, seval, ah_, an_, ae_, h0])
 ·refine .skip (.seq (.rgn [bm_ [17] [] (di_ b (p + 1) s.length hb (by omega) (by omega))] (by simp only [go_sem, seval, ah_, an_, ae_, h0]; rfl) ?_ ?_))
  ·(first | trivial | (simp; done) | (obtain ⟨q1, q2, q3, q4, q5, q6, q7⟩ := fs_ (b := b) (p := p + 1) h0 (by omega) (by omega) (by omega); have q8 := e1_ (b := b) (p := p + 1 + 1) (l := es_) (by decide) (by omega) (by omega) 6 (by decide); rw [q3]; refine ⟨⟨⟨⟨⟨⟨q1, q2, Int.le_refl _, by simp⟩, by simp [es_, bi_, ler, les, leV], by simp⟩, by omega⟩, by simp⟩, q4, q5, Int.le_refl _⟩, ?_⟩; simp only [T2_, List.length_drop, List.length_take] at q7 ⊢; omega))
  refine .seq (.rgnD [bm_ [17] [] (pi_ b (p + 1 + 1) es_ (by decide) hb (by omega) (by omega)), bm_ [17] [] (di_ b (p + 1 + 1 + 1) 2 hb (by omega) (by omega))] enM (by simp only [go_sem, seval, ah_, an_, ae_, h0]; rfl) (by rfl) ?_ ?_)
  ·(first | trivial | (simp; done) | (obtain ⟨q1, q2, q3, q4, q5, q6, q7⟩ := fs_ (b := b) (p := p + 1) h0 (by omega) (by omega) (by omega); have q8 := e1_ (b := b) (p := p + 1 + 1) (l := es_) (by decide) (by omega) (by omega) 6 (by decide); rw [q3]; refine ⟨⟨⟨⟨⟨⟨q1, q2, Int.le_refl _, by simp⟩, by simp [es_, bi_, ler, les, leV], by simp⟩, by omega⟩, by simp⟩, q4, q5, Int.le_refl _⟩, ?_⟩; simp only [T2_, List.length_drop, List.length_take] at q7 ⊢; omega))
  refine .ret ⟨.inr rfl, ?_⟩
  exact Out.plain (by simp only [Tryz.results25]; rfl) (by simp only [av_, a3_, go_sem, seval, ah_, an_, ae_, h0] <;> (split <;> rfl)) (by simp only [a2_, go_sem, seval, ah_, an_, ae_, h0] <;> (rw [hd, if_neg (by rw [beq_eq_false_iff_ne] at h0 h18; rintro (h | h); exact h0 (by rw [h]; rfl); exact h18 h), pq_, (fs_ (b := b) (p := p + 1) h0 (by omega) (by omega) (by omega)).2.2.1, (fs_ (b := b) (p := p + 1) h0 (by omega) (by omega) (by omega)).2.2.2.2.2.1, List.take_length])) (by simp only [go_sem, seval, ah_, an_, ae_, h0])
theorem nl_ (c : Str) (h0 : (((dk_ (d7 (c.take 2000) 0).1).length : Int) == 0) = true) : ACall En 25 [.sl false (byR c)] [] [.s (ss_ (c.take 2000))] [] := by
 have hb : (c.take 2000).length ≤ 2000 := by simp; omega
 have hO := eq_ c
 generalize hc : c.take 2000 = b at *
 obtain ⟨h1, h2, h3⟩ := ze_ b (p := 0) (by decide) (by decide)
 have k1 := kl_ (d7 b 0).1
 have T := gc_ (d7 b 0).1 h3
 have D := hd_ b 0 hb (by decide) (by decide)
 have hd : ss_ b = if dk_ (d7 b 0).1 = [] ∨ b0_ b (d7 b 0).2 2 = 0 then dk_ (d7 b 0).1 else pq_ b ((d7 b 0).2 + 1) es_ (dk_ (d7 b 0).1) := rfl
 generalize (d7 b 0).1 = x at *
 generalize (d7 b 0).2 = p at *
 generalize dk_ x = s at *
 refine al_ (fn := Tryz.f25) [] Tryz.func25 rfl rfl (by simp) fun C => ?_
 rw [aw_]
 simp only [Tryz.ntmps25, T7_, List.length_nil, Nat.reduceAdd, Nat.reduceSub, List.replicate_succ, List.replicate_zero, List.cons_append, List.nil_append, bo_]
 refine .seq (.rgn [] (by simp only [go_sem, seval, ah_, an_, ae_, h0]; rfl) ?_ ?_)
 ·first | trivial | simp
 refine .seq (.rgn [bm_ [] [17] hO] (by simp only [go_sem, seval, ah_, an_, ae_, h0]; rfl) ?_ ?_)
 ·first | trivial | simp
 refine .seq (.rgn [bm_ [17] [] D, a1_ T] (by simp only [go_sem, seval, ah_, an_, ae_, h0]; rfl) ?_ ?_)
 ·first | trivial | simp
 refine .seq (.seq (.rgn [bm_ [17] [] (di_ b p 2 hb (by omega) (by omega))] (by simp only [go_sem, seval, ah_, an_, ae_, h0]; rfl) ?_ ?_))
 ·first | trivial | simp
 refine .condB (by simp only [go_sem, seval, ah_, an_, ae_, h0]; rfl) (by simp only [go_sem, seval, ah_, an_, ae_, h0]) (fun h18 => ?_) (fun h18 => ?_)
 ·refine .seq (.rgn [] (by simp only [go_sem, seval, ah_, an_, ae_, h0]; rfl) ?_ ?_)
  ·first | trivial | simp
  refine .ret ⟨.inr rfl, ?_⟩
  exact Out.plain (by simp only [Tryz.results25]; rfl) (by simp only [av_, a3_, go_sem, seval, ah_, an_, ae_, h0] <;> (split <;> rfl)) (by simp only [a2_, go_sem, seval, ah_, an_, ae_, h0] <;> (rw [hd, if_pos (.inl (by cases s with | nil => rfl | cons x r => rw [beq_iff_eq, T7_] at h0; omega))])) (by simp only [go_sem, seval, ah_, an_, ae_, h0])
 ·simp at h18
theorem m5_ (c : Str) : ACall En 25 [.sl false (byR c)] [] [.s (ss_ (c.take 2000))] [] := by
 cases h0 : (((dk_ (d7 (c.take 2000) 0).1).length : Int) == 0) with
 | true => exact nl_ c h0
 | false => exact oi_ c h0
theorem aa4_ (b : Str) : (ss_ b).length ≤ 1000 := by
 obtain ⟨h1, h2, h3⟩ := ze_ b (p := 0) (by decide) (by decide)
 have k1 := kl_ (d7 b 0).1
 unfold ss_
 split
 ·omega
 ·have := uf_ (b := b) (p := (d7 b 0).2 + 1) (l := es_) (s := dk_ (d7 b 0).1) 6 (by decide) (by decide) (by omega) (by omega)
  omega
end
end Go.Proofs.YtpikbndepapbhabGreatDoor
