/- Lists of numbers: the same, marked, held. Conditions: none. -/
import Derived.Test.YtpikbndepapbhabGreatDoorKt
import Derived.Test.YtpikbndepapbhabGreatDoorKx
import Derived.Test.YtpikbndepapbhabGreatDoorK4
import Derived.Test.YtpikbndepapbhabGreatDoorK6
import Derived.Test.YtpikbndepapbhabGreatDoorKv
set_option linter.unusedVariables false
set_option linter.unusedSimpArgs false
namespace Go.Proofs.YtpikbndepapbhabGreatDoor
section
set_option maxRecDepth 100000
set_option maxHeartbeats 4000000
theorem h7_ {α : Type} {d : α} {a b : List α} {k : Nat} (ha : k < a.length) (hb : k < b.length) (h : a.take k = b.take k) (e : a.getD k d = b.getD k d) : a.take (k + 1) = b.take (k + 1) := by
 rw [List.take_add_one (l := a), List.take_add_one (l := b), h, T6_ ha, T6_ hb]
 rw [T8_, T8_, T6_ ha, T6_ hb] at e
 rw [show a[k] = b[k] by simpa using e]
theorem or_ (a b : List Int) (ha : a.length ≤ 1000000000000) (hb : b.length ≤ 1000000000000) : ACall En 29 [.sl false (inR a), .sl false (inR b)] [] [.b (a == b)] [] := by
 refine ak_ (fn := Tryz.f29) [] Tryz.func29 rfl rfl (by simp) fun C => ?_
 rw [aw_]
 simp only [Tryz.ntmps29, T7_, List.length_nil, Nat.reduceAdd, Nat.reduceSub, List.replicate_succ, List.replicate_zero, List.cons_append, List.nil_append, bk_]
 refine .seq (.rgn [] (by simp only [go_sem, seval, ad_, ab_]; rfl) ?_ ?_)
 ·first | trivial | simp
 refine .seq (.seq (.rgn [] (by simp only [go_sem, seval, ad_, ab_]; rfl) ?_ ?_))
 ·first | trivial | simp
 refine .condB (by simp only [go_sem, seval, ad_, ab_]; rfl) (by simp only [go_sem, seval, ad_, ab_]) (fun h10 => ?_) (fun h10 => ?_)
 ·refine .seq (.rgn [] (by simp only [go_sem, seval, ad_, ab_]; rfl) ?_ ?_)
  ·first | trivial | simp
  refine .ret ⟨.inr rfl, ?_⟩
  exact Out.plain (by simp only [Tryz.results29]; rfl) (by simp only [av_, a5_, go_sem, seval, ad_, ab_] <;> (split <;> rfl)) (by simp only [a2_, go_sem, seval, ad_, ab_] <;> (have : a ≠ b := (fun e => by simp [e] at h10); simp [this])) (by simp only [go_sem, seval, ad_, ab_])
 ·refine .skip (.seq (.seq (.rgn [] (by simp only [go_sem, seval, ad_, ab_]; rfl) ?_ ?_)))
  ·first | trivial | simp
  refine .block (.loopK (fun k : Nat => ⟨[.sl false (inR a), .sl false (inR b), .no, .no, .no, .i .i64 k, .no, .no, .no, .no, .no, .no, .no, .no, .no, .no, .no, .no, .no, .no, .no, .no, .no, .no, .no, .no], be_ [], us []⟩) (fun k : Nat => k ≤ a.length ∧ a.take k = b.take k) (fun k : Nat => a.length - k) (0) ?_ ?_ (fun k hI => ?_))
  ·exact ⟨Nat.zero_le _, rfl⟩
  ·exact Can.weak (Weak.lit (by simp only [go_sem, seval, ad_, ab_, as_, leV, aq_, ar_, V.inn, us, T9_, Ta_] <;> (simp)) (by simp only [go_sem, seval, ad_, ab_, as_, leV, aq_, ar_, V.inn, us, T9_, Ta_]) (by simp only [go_sem, seval, ad_, ab_, as_, leV, aq_, ar_, V.inn, us, T9_, Ta_]))
  refine .seq (.seq (.rgn [] (by simp only [go_sem, seval, ad_, ab_]; rfl) ?_ ?_))
  ·first | trivial | simp
  refine .condB (by simp only [go_sem, seval, ad_, ab_]; rfl) (by simp only [go_sem, seval, ad_, ab_]) (fun h14 => ?_) (fun h14 => ?_)
  ·refine .skip (.seq (.block (.seq (.rgnD [] enM (by simp only [go_sem, seval, ad_, ab_, dj_ (show k < a.length by simpa using h14), dj_ (show k < b.length by simp at h14 h10; omega)]; rfl) (by rfl) ?_ ?_))))
   ·simp at h14 h10; simp; omega
   refine .condB (by simp only [go_sem, seval, ad_, ab_]; rfl) (by simp only [go_sem, seval, ad_, ab_]) (fun h25 => ?_) (fun h25 => ?_)
   ·refine .seq (.rgn [] (by simp only [go_sem, seval, ad_, ab_]; rfl) ?_ ?_)
    ·first | trivial | simp
    refine .ret ⟨.inr rfl, ?_⟩
    exact Out.plain (by simp only [Tryz.results29]; rfl) (by simp only [av_, a5_, go_sem, seval, ad_, ab_] <;> (split <;> rfl)) (by simp only [a2_, go_sem, seval, ad_, ab_] <;> (have h2 : a.getD k 0 ≠ b.getD k 0 := bne_iff_ne.1 h25; have : a ≠ b := (fun e => h2 (by rw [e])); simp [this])) (by simp only [go_sem, seval, ad_, ab_])
   ·refine .skip (.rgn [] (by simp only [go_sem, seval, ad_, ab_]; rfl) ?_ ?_)
    ·first | trivial | simp
    refine Exists.intro (k + 1) ⟨?_, ?_, ?_⟩
    ·simp only [T3_] at h14; simp at h10; exact ⟨by omega, h7_ (d := 0) (by omega) (by omega) hI.2 (by simpa using h25)⟩
    ·simp at h14; omega
    exact Can.weak (Weak.lit (by simp only [go_sem, seval, ad_, ab_, as_, leV, aq_, ar_, V.inn, us, T9_, Ta_] <;> (rw [bg_ (by simp at h14; omega) (by simp at h14; omega)]; simp)) (by simp only [go_sem, seval, ad_, ab_, as_, leV, aq_, ar_, V.inn, us, T9_, Ta_]) (by simp only [go_sem, seval, ad_, ab_, as_, leV, aq_, ar_, V.inn, us, T9_, Ta_]))
  ·refine .exit (.seq (.rgn [] (by simp only [go_sem, seval, ad_, ab_]; rfl) ?_ ?_))
   ·first | trivial | simp
   refine .ret ⟨.inr rfl, ?_⟩
   exact Out.plain (by simp only [Tryz.results29]; rfl) (by simp only [av_, a5_, go_sem, seval, ad_, ab_] <;> (split <;> rfl)) (by simp only [a2_, go_sem, seval, ad_, ab_] <;> (simp only [T4_] at h14; simp at h10; have q := hI.2; rw [T1_ (by omega), T1_ (by omega)] at q; simp [q])) (by simp only [go_sem, seval, ad_, ab_])
def im_ (k : Int) (n : Nat) : List Int := (List.range n).map fun (i : Nat) => k + (i : Int)
theorem ba_ (k : Int) (n : Nat) : (im_ k n).length = n := by simp [im_]
theorem ad7_ {k : Int} {n i : Nat} (h : i < n) : (im_ k n).getD i 0 = k + i := by
 simp [im_, T8_, h]
theorem aaz_ {k : Int} {l : List Int} {i : Nat} (h : i < l.length) : (inR (im_ k i ++ l.drop i)).set i (.i .i64 (k + i) :: ((inR (im_ k i ++ l.drop i)).getD i []).drop 1) = inR (im_ k (i + 1) ++ l.drop (i + 1)) := by
 rw [dj_ (by rw [T2_, ba_, List.length_drop]; omega)]
 have e : (im_ k i ++ l.drop i).set i (k + i) = im_ k (i + 1) ++ l.drop (i + 1) := by
  rw [List.set_append_right _ _ (by rw [ba_]; exact Nat.le_refl _), ba_, Nat.sub_self, List.drop_eq_getElem_cons h, List.set_cons_zero]
  simp [im_, List.range_succ]
 rw [← e]
 simp only [inR, List.map_set, List.drop_succ_cons, List.drop_nil]
theorem wh_ (l : List Int) (k : Int) (hl : l.length ≤ 1000000) (h0 : 0 ≤ k) (h1 : k ≤ 1000000) : ACall En 30 [.ow 0 1 0 l.length, .i .i64 k] [⟨3, 1, inR l⟩] [.i .i64 (k + l.length)] [⟨3, 1, inR (im_ k l.length)⟩] := by
 refine ak_ (fn := Tryz.f30) [0] Tryz.func30 rfl rfl (by simp) fun C => ?_
 rw [aw_]
 simp only [Tryz.ntmps30, T7_, List.length_nil, Nat.reduceAdd, Nat.reduceSub, List.replicate_succ, List.replicate_zero, List.cons_append, List.nil_append, bk_]
 refine .seq (.rgn [] (by simp only [go_sem, seval, ad_, ab_]; rfl) ?_ ?_)
 ·(first | trivial | (simp; done) | (simp only [T3_] at h9; simp [ad_, ba_]; omega))
 refine .seq (.seq (.rgn [] (by simp only [go_sem, seval, ad_, ab_]; rfl) ?_ ?_))
 ·(first | trivial | (simp; done) | (simp only [T3_] at h9; simp [ad_, ba_]; omega))
 refine .block (.loopK (fun i : Nat => ⟨[.ow 0 1 0 l.length, .i .i64 (k + i), .no, .no, .no, .i .i64 i, .no, .no, .no, .no, .no, .no, .no, .no, .no, .no, .no, .no, .no], be_ [(0, ⟨3, 1, inR (im_ k i ++ l.drop i)⟩)], us [0]⟩) (fun i : Nat => i ≤ l.length) (fun i : Nat => l.length - i) (0) ?_ ?_ (fun i hI => ?_))
 ·simp
 ·exact Can.weak (Weak.lit (by simp only [go_sem, seval, ad_, ab_, as_, leV, aq_, ar_, V.inn, us, T9_, Ta_] <;> ((try simp))) (by simp only [go_sem, seval, ad_, ab_, as_, leV, aq_, ar_, V.inn, us, T9_, Ta_]) (by simp only [go_sem, seval, ad_, ab_, as_, leV, aq_, ar_, V.inn, us, T9_, Ta_] <;> ((try simp [im_]))))
 refine .seq (.seq (.rgn [] (by simp only [go_sem, seval, ad_, ab_]; rfl) ?_ ?_))
 ·(first | trivial | (simp; done) | (simp only [T3_] at h9; simp [ad_, ba_]; omega))
 refine .condB (by simp only [go_sem, seval, ad_, ab_]; rfl) (by simp only [go_sem, seval, ad_, ab_]) (fun h9 => ?_) (fun h9 => ?_)
 ·refine .skip (.seq (.block (.seq (.rgn [] (by simp only [go_sem, seval, ad_, ab_]; rfl) ?_ ?_))))
  ·(first | trivial | (simp; done) | (simp only [T3_] at h9; simp [ad_, ba_]; omega))
  refine .rgn [] (by simp only [go_sem, seval, ad_, ab_]; rfl) ?_ ?_
  ·(first | trivial | (simp; done) | (simp only [T3_] at h9; simp [ad_, ba_]; omega))
  refine .rgn [] (by simp only [go_sem, seval, ad_, ab_]; rfl) ?_ ?_
  ·(first | trivial | (simp; done) | (simp only [T3_] at h9; simp [ad_, ba_]; omega))
  refine Exists.intro (i + 1) ⟨?_, ?_, ?_⟩
  ·simp only [T3_] at h9; omega
  ·simp only [T3_] at h9; omega
  exact Can.weak (Weak.lit (by simp only [go_sem, seval, ad_, ab_, as_, leV, aq_, ar_, V.inn, us, T9_, Ta_] <;> (simp only [T3_] at h9; exact ⟨by rw [bg_ (by omega) (by omega)]; omega, bg_ (n := ((i + 1 : Nat) : Int)) (by omega) (by omega)⟩)) (by simp only [go_sem, seval, ad_, ab_, as_, leV, aq_, ar_, V.inn, us, T9_, Ta_]) (by simp only [go_sem, seval, ad_, ab_, as_, leV, aq_, ar_, V.inn, us, T9_, Ta_] <;> (simp only [T3_] at h9; rw [aaz_ (show i < l.length by omega)])))
 ·refine .exit (.seq (.rgn [] (by simp only [go_sem, seval, ad_, ab_]; rfl) ?_ ?_))
  ·(first | trivial | (simp; done) | (simp only [T3_] at h9; simp [ad_, ba_]; omega))
  refine .ret ⟨.inr rfl, ?_⟩
  exact Out.mem' (by simp only [Tryz.results30]; rfl) (by simp only [av_, a5_, go_sem, seval, ad_, ab_]) (by simp only [a2_, rns, rn, go_sem, seval, ad_, ab_] <;> (simp only [T4_] at h9; rw [show (i : Int) = l.length by omega])) (by simp) rfl (by decide) (by simp only [go_sem, seval, ad_, ab_]) (by simp only [ao_, go_sem, seval, ad_, ab_]) (by simp only [aj_, go_sem, seval, ad_, ab_] <;> (simp only [T4_] at h9; rw [show i = l.length by omega]; simp))
theorem xd_ (n : Nat) (k : Int) (hl : n ≤ 1000000) (h0 : 0 ≤ k) (h1 : k ≤ 1000000) : ACall En 31 [.sl false (inR (im_ k n)), .i .i64 k] [] [.i .i64 (k + n)] [] := by
 refine ak_ (fn := Tryz.f31) [] Tryz.func31 rfl rfl (by simp) fun C => ?_
 rw [aw_]
 simp only [Tryz.ntmps31, T7_, List.length_nil, Nat.reduceAdd, Nat.reduceSub, List.replicate_succ, List.replicate_zero, List.cons_append, List.nil_append, bk_]
 refine .seq (.rgn [] (by simp only [go_sem, seval, ad_, ab_, ba_]; rfl) ?_ ?_)
 ·(first | trivial | (simp; done) | (simp only [T3_] at h9; simp [ad_, ba_]; omega))
 refine .seq (.seq (.rgn [] (by simp only [go_sem, seval, ad_, ab_, ba_]; rfl) ?_ ?_))
 ·(first | trivial | (simp; done) | (simp only [T3_] at h9; simp [ad_, ba_]; omega))
 refine .block (.loopK (fun i : Nat => ⟨[.sl false (inR (im_ k n)), .i .i64 (k + i), .no, .no, .no, .i .i64 i, .no, .no, .no, .no, .no, .no, .no, .no, .no, .no, .no, .no, .no, .no, .no], be_ [], us []⟩) (fun i : Nat => i ≤ n) (fun i : Nat => n - i) (0) ?_ ?_ (fun i hI => ?_))
 ·simp
 ·exact Can.weak (Weak.lit (by simp only [go_sem, seval, ad_, ab_, ba_, as_, leV, aq_, ar_, V.inn, us, T9_, Ta_] <;> ((try simp))) (by simp only [go_sem, seval, ad_, ab_, ba_, as_, leV, aq_, ar_, V.inn, us, T9_, Ta_]) (by simp only [go_sem, seval, ad_, ab_, ba_, as_, leV, aq_, ar_, V.inn, us, T9_, Ta_]))
 refine .seq (.seq (.rgn [] (by simp only [go_sem, seval, ad_, ab_, ba_]; rfl) ?_ ?_))
 ·(first | trivial | (simp; done) | (simp only [T3_] at h9; simp [ad_, ba_]; omega))
 refine .condB (by simp only [go_sem, seval, ad_, ab_, ba_]; rfl) (by simp only [go_sem, seval, ad_, ab_, ba_]) (fun h9 => ?_) (fun h9 => ?_)
 ·refine .skip (.seq (.block (.seq (.seq (.rgn [] (by simp only [go_sem, seval, ad_, ab_, ba_, dj_ (show i < (im_ k n).length by rw [ba_]; simpa using h9), ad7_ (show i < n by simpa using h9)]; rfl) ?_ ?_)))))
  ·(first | trivial | (simp; done) | (simp only [T3_] at h9; simp [ad_, ba_]; omega))
  refine .condB (by simp only [go_sem, seval, ad_, ab_, ba_]; rfl) (by simp only [go_sem, seval, ad_, ab_, ba_]) (fun h17 => ?_) (fun h17 => ?_)
  ·simp at h17
  ·refine .skip (.rgn [] (by simp only [go_sem, seval, ad_, ab_, ba_]; rfl) ?_ ?_)
   ·(first | trivial | (simp; done) | (simp only [T3_] at h9; simp [ad_, ba_]; omega))
   refine .rgn [] (by simp only [go_sem, seval, ad_, ab_, ba_]; rfl) ?_ ?_
   ·(first | trivial | (simp; done) | (simp only [T3_] at h9; simp [ad_, ba_]; omega))
   refine Exists.intro (i + 1) ⟨?_, ?_, ?_⟩
   ·simp only [T3_] at h9; omega
   ·simp only [T3_] at h9; omega
   exact Can.weak (Weak.lit (by simp only [go_sem, seval, ad_, ab_, ba_, as_, leV, aq_, ar_, V.inn, us, T9_, Ta_] <;> (simp only [T3_] at h9; exact ⟨by rw [bg_ (by omega) (by omega)]; omega, bg_ (n := ((i + 1 : Nat) : Int)) (by omega) (by omega)⟩)) (by simp only [go_sem, seval, ad_, ab_, ba_, as_, leV, aq_, ar_, V.inn, us, T9_, Ta_]) (by simp only [go_sem, seval, ad_, ab_, ba_, as_, leV, aq_, ar_, V.inn, us, T9_, Ta_]))
 ·refine .exit (.seq (.rgn [] (by simp only [go_sem, seval, ad_, ab_, ba_]; rfl) ?_ ?_))
  ·(first | trivial | (simp; done) | (simp only [T3_] at h9; simp [ad_, ba_]; omega))
  refine .ret ⟨.inr rfl, ?_⟩
  exact Out.plain (by simp only [Tryz.results31]; rfl) (by simp only [av_, a5_, go_sem, seval, ad_, ab_, ba_] <;> (split <;> rfl)) (by simp only [a2_, go_sem, seval, ad_, ab_, ba_] <;> (simp only [T4_] at h9; rw [show (i : Int) = n by omega])) (by simp only [go_sem, seval, ad_, ab_, ba_])
end
section
set_option maxRecDepth 100000
set_option maxHeartbeats 4000000
def v2_ (b : Str) (p : Int) (l : List Str) (s : Str) : Str :=
 s.take (b2_ b p s.length).toNat ++ ofI b (p + 1) l ++ s.drop ((b2_ b p s.length).toNat + (b2_ b (p + 1 + 1) 2).toNat)
theorem i6_ {b : Str} {p : Int} {s : Str} (h0 : ((s.length : Int) == 0) = false) (hp : 0 ≤ p) (hp2 : p < 1000000000) (hs : s.length ≤ 1000000) :
  0 ≤ b2_ b p s.length ∧ b2_ b p s.length ≤ s.length ∧ IntKind.i64.wrap (b2_ b p s.length + b2_ b (p + 1 + 1) 2) = b2_ b p s.length + b2_ b (p + 1 + 1) 2 ∧ 0 ≤ b2_ b p s.length + b2_ b (p + 1 + 1) 2 ∧ b2_ b p s.length + b2_ b (p + 1 + 1) 2 ≤ s.length ∧ (b2_ b p s.length + b2_ b (p + 1 + 1) 2).toNat = (b2_ b p s.length).toNat + (b2_ b (p + 1 + 1) 2).toNat ∧ (s.take (b2_ b p s.length).toNat).length ≤ s.length := by
 rw [beq_eq_false_iff_ne] at h0
 have h1 := eq_ b (p := p) (n := s.length) hp (by omega) (by omega)
 have h2 := eq_ b (p := p + 1 + 1) (n := 2) (by omega) (by omega) (by decide)
 refine ⟨h1.1, by omega, bg_ (by omega) (by omega), by omega, by omega, by omega, by simp; omega⟩
theorem afb_ {b : Str} {p : Int} {l : List Str} {s : Str} (k : Nat) (hl : 0 < l.length) (h : ∀ w ∈ l, w.length ≤ k) (hp : 0 ≤ p) (hp2 : p < 1000000000) : (v2_ b p l s).length ≤ s.length + k + s.length := by
 have := g2_ (b := b) (p := p + 1) hl (by omega) (by omega) k h
 unfold v2_
 simp only [T2_, List.length_take, List.length_drop]; omega
end
end Go.Proofs.YtpikbndepapbhabGreatDoor
