/- Lists of numbers: the same, marked, held. Conditions: none. -/
import Derived.Test.YtcigkafioinfoaaGreatDoorKt
import Derived.Test.YtcigkafioinfoaaGreatDoorKx
import Derived.Test.YtcigkafioinfoaaGreatDoorK4
import Derived.Test.YtcigkafioinfoaaGreatDoorK6
import Derived.Test.YtcigkafioinfoaaGreatDoorKv
set_option linter.unusedVariables false
set_option linter.unusedSimpArgs false
namespace Go.Proofs.YtcigkafioinfoaaGreatDoor
section
set_option maxRecDepth 100000
set_option maxHeartbeats 4000000
theorem i3_ {α : Type} {d : α} {a b : List α} {k : Nat} (ha : k < a.length) (hb : k < b.length) (h : a.take k = b.take k) (e : a.getD k d = b.getD k d) : a.take (k + 1) = b.take (k + 1) := by
 rw [List.take_add_one (l := a), List.take_add_one (l := b), h, T6_ ha, T6_ hb]
 rw [T8_, T8_, T6_ ha, T6_ hb] at e
 rw [show a[k] = b[k] by simpa using e]
theorem lf_ (a b : List Int) (ha : a.length ≤ 1000000000000) (hb : b.length ≤ 1000000000000) : ACall En 22 [.sl false (inR a), .sl false (inR b)] [] [.b (a == b)] [] := by
 refine al_ (fn := Tryz.f22) [] Tryz.func22 rfl rfl (by simp) fun C => ?_
 rw [ay_]
 simp only [Tryz.ntmps22, T7_, List.length_nil, Nat.reduceAdd, Nat.reduceSub, List.replicate_succ, List.replicate_zero, List.cons_append, List.nil_append, bs_]
 refine .seq (.rgn [] (by simp only [go_sem, seval, ad_, aa_]; rfl) ?_ ?_)
 ·first | trivial | simp
 refine .seq (.seq (.rgn [] (by simp only [go_sem, seval, ad_, aa_]; rfl) ?_ ?_))
 ·first | trivial | simp
 refine .condB (by simp only [go_sem, seval, ad_, aa_]; rfl) (by simp only [go_sem, seval, ad_, aa_]) (fun h10 => ?_) (fun h10 => ?_)
 ·refine .seq (.rgn [] (by simp only [go_sem, seval, ad_, aa_]; rfl) ?_ ?_)
  ·first | trivial | simp
  refine .ret ⟨.inr rfl, ?_⟩
  exact Out.plain (by simp only [Tryz.results22]; rfl) (by simp only [az_, bj_, go_sem, seval, ad_, aa_] <;> (split <;> rfl)) (by simp only [bg_, go_sem, seval, ad_, aa_] <;> (have : a ≠ b := (fun e => by simp [e] at h10); simp [this])) (by simp only [go_sem, seval, ad_, aa_])
 ·refine .skip (.seq (.seq (.rgn [] (by simp only [go_sem, seval, ad_, aa_]; rfl) ?_ ?_)))
  ·first | trivial | simp
  refine .block (.loopK (fun k : Nat => ⟨[.sl false (inR a), .sl false (inR b), .no, .no, .no, .i .i64 k, .no, .no, .no, .no, .no, .no, .no, .no, .no, .no, .no, .no, .no, .no, .no, .no, .no, .no, .no, .no], a7_ [], us []⟩) (fun k : Nat => k ≤ a.length ∧ a.take k = b.take k) (fun k : Nat => a.length - k) (0) ?_ ?_ (fun k hI => ?_))
  ·exact ⟨Nat.zero_le _, rfl⟩
  ·exact Can.weak (Weak.lit (by simp only [go_sem, seval, ad_, aa_, at_, leV, aq_, ar_, V.inn, us, T9_, Ta_] <;> (simp)) (by simp only [go_sem, seval, ad_, aa_, at_, leV, aq_, ar_, V.inn, us, T9_, Ta_]) (by simp only [go_sem, seval, ad_, aa_, at_, leV, aq_, ar_, V.inn, us, T9_, Ta_]))
  refine .seq (.seq (.rgn [] (by simp only [go_sem, seval, ad_, aa_]; rfl) ?_ ?_))
  ·first | trivial | simp
  refine .condB (by simp only [go_sem, seval, ad_, aa_]; rfl) (by simp only [go_sem, seval, ad_, aa_]) (fun h14 => ?_) (fun h14 => ?_)
  ·refine .skip (.seq (.block (.seq (.rgnD [] enM (by simp only [go_sem, seval, ad_, aa_, dj_ (show k < a.length by simpa using h14), dj_ (show k < b.length by simp at h14 h10; omega)]; rfl) (by rfl) ?_ ?_))))
   ·simp at h14 h10; simp; omega
   refine .condB (by simp only [go_sem, seval, ad_, aa_]; rfl) (by simp only [go_sem, seval, ad_, aa_]) (fun h25 => ?_) (fun h25 => ?_)
   ·refine .seq (.rgn [] (by simp only [go_sem, seval, ad_, aa_]; rfl) ?_ ?_)
    ·first | trivial | simp
    refine .ret ⟨.inr rfl, ?_⟩
    exact Out.plain (by simp only [Tryz.results22]; rfl) (by simp only [az_, bj_, go_sem, seval, ad_, aa_] <;> (split <;> rfl)) (by simp only [bg_, go_sem, seval, ad_, aa_] <;> (have h2 : a.getD k 0 ≠ b.getD k 0 := bne_iff_ne.1 h25; have : a ≠ b := (fun e => h2 (by rw [e])); simp [this])) (by simp only [go_sem, seval, ad_, aa_])
   ·refine .skip (.rgn [] (by simp only [go_sem, seval, ad_, aa_]; rfl) ?_ ?_)
    ·first | trivial | simp
    refine Exists.intro (k + 1) ⟨?_, ?_, ?_⟩
    ·simp only [T3_] at h14; simp at h10; exact ⟨by omega, i3_ (d := 0) (by omega) (by omega) hI.2 (by simpa using h25)⟩
    ·simp at h14; omega
    exact Can.weak (Weak.lit (by simp only [go_sem, seval, ad_, aa_, at_, leV, aq_, ar_, V.inn, us, T9_, Ta_] <;> (rw [bp_ (by simp at h14; omega) (by simp at h14; omega)]; simp)) (by simp only [go_sem, seval, ad_, aa_, at_, leV, aq_, ar_, V.inn, us, T9_, Ta_]) (by simp only [go_sem, seval, ad_, aa_, at_, leV, aq_, ar_, V.inn, us, T9_, Ta_]))
  ·refine .exit (.seq (.rgn [] (by simp only [go_sem, seval, ad_, aa_]; rfl) ?_ ?_))
   ·first | trivial | simp
   refine .ret ⟨.inr rfl, ?_⟩
   exact Out.plain (by simp only [Tryz.results22]; rfl) (by simp only [az_, bj_, go_sem, seval, ad_, aa_] <;> (split <;> rfl)) (by simp only [bg_, go_sem, seval, ad_, aa_] <;> (simp only [T4_] at h14; simp at h10; have q := hI.2; rw [T1_ (by omega), T1_ (by omega)] at q; simp [q])) (by simp only [go_sem, seval, ad_, aa_])
def hi_ (k : Int) (n : Nat) : List Int := (List.range n).map fun (i : Nat) => k + (i : Int)
theorem ax_ (k : Int) (n : Nat) : (hi_ k n).length = n := by simp [hi_]
theorem adl_ {k : Int} {n i : Nat} (h : i < n) : (hi_ k n).getD i 0 = k + i := by
 simp [hi_, T8_, h]
theorem r5_ {k : Int} {l : List Int} {i : Nat} (h : i < l.length) : (inR (hi_ k i ++ l.drop i)).set i (.i .i64 (k + i) :: ((inR (hi_ k i ++ l.drop i)).getD i []).drop 1) = inR (hi_ k (i + 1) ++ l.drop (i + 1)) := by
 rw [dj_ (by rw [T2_, ax_, List.length_drop]; omega)]
 have e : (hi_ k i ++ l.drop i).set i (k + i) = hi_ k (i + 1) ++ l.drop (i + 1) := by
  rw [List.set_append_right _ _ (by rw [ax_]; exact Nat.le_refl _), ax_, Nat.sub_self, List.drop_eq_getElem_cons h, List.set_cons_zero]
  simp [hi_, List.range_succ]
 rw [← e]
 simp only [inR, List.map_set, List.drop_succ_cons, List.drop_nil]
theorem xh_ (l : List Int) (k : Int) (hl : l.length ≤ 1000000) (h0 : 0 ≤ k) (h1 : k ≤ 1000000) : ACall En 25 [.ow 0 1 0 l.length, .i .i64 k] [⟨3, 1, inR l⟩] [.i .i64 (k + l.length)] [⟨3, 1, inR (hi_ k l.length)⟩] := by
 refine al_ (fn := Tryz.f25) [0] Tryz.func25 rfl rfl (by simp) fun C => ?_
 rw [ay_]
 simp only [Tryz.ntmps25, T7_, List.length_nil, Nat.reduceAdd, Nat.reduceSub, List.replicate_succ, List.replicate_zero, List.cons_append, List.nil_append, bs_]
 refine .seq (.rgn [] (by simp only [go_sem, seval, ad_, aa_]; rfl) ?_ ?_)
 ·(first | trivial | (simp; done) | (simp only [T3_] at h9; simp [ad_, ax_]; omega))
 refine .seq (.seq (.rgn [] (by simp only [go_sem, seval, ad_, aa_]; rfl) ?_ ?_))
 ·(first | trivial | (simp; done) | (simp only [T3_] at h9; simp [ad_, ax_]; omega))
 refine .block (.loopK (fun i : Nat => ⟨[.ow 0 1 0 l.length, .i .i64 (k + i), .no, .no, .no, .i .i64 i, .no, .no, .no, .no, .no, .no, .no, .no, .no, .no, .no, .no, .no], a7_ [(0, ⟨3, 1, inR (hi_ k i ++ l.drop i)⟩)], us [0]⟩) (fun i : Nat => i ≤ l.length) (fun i : Nat => l.length - i) (0) ?_ ?_ (fun i hI => ?_))
 ·simp
 ·exact Can.weak (Weak.lit (by simp only [go_sem, seval, ad_, aa_, at_, leV, aq_, ar_, V.inn, us, T9_, Ta_] <;> ((try simp))) (by simp only [go_sem, seval, ad_, aa_, at_, leV, aq_, ar_, V.inn, us, T9_, Ta_]) (by simp only [go_sem, seval, ad_, aa_, at_, leV, aq_, ar_, V.inn, us, T9_, Ta_] <;> ((try simp [hi_]))))
 refine .seq (.seq (.rgn [] (by simp only [go_sem, seval, ad_, aa_]; rfl) ?_ ?_))
 ·(first | trivial | (simp; done) | (simp only [T3_] at h9; simp [ad_, ax_]; omega))
 refine .condB (by simp only [go_sem, seval, ad_, aa_]; rfl) (by simp only [go_sem, seval, ad_, aa_]) (fun h9 => ?_) (fun h9 => ?_)
 ·refine .skip (.seq (.block (.seq (.rgn [] (by simp only [go_sem, seval, ad_, aa_]; rfl) ?_ ?_))))
  ·(first | trivial | (simp; done) | (simp only [T3_] at h9; simp [ad_, ax_]; omega))
  refine .rgn [] (by simp only [go_sem, seval, ad_, aa_]; rfl) ?_ ?_
  ·(first | trivial | (simp; done) | (simp only [T3_] at h9; simp [ad_, ax_]; omega))
  refine .rgn [] (by simp only [go_sem, seval, ad_, aa_]; rfl) ?_ ?_
  ·(first | trivial | (simp; done) | (simp only [T3_] at h9; simp [ad_, ax_]; omega))
  refine Exists.intro (i + 1) ⟨?_, ?_, ?_⟩
  ·simp only [T3_] at h9; omega
  ·simp only [T3_] at h9; omega
  exact Can.weak (Weak.lit (by simp only [go_sem, seval, ad_, aa_, at_, leV, aq_, ar_, V.inn, us, T9_, Ta_] <;> (simp only [T3_] at h9; exact ⟨by rw [bp_ (by omega) (by omega)]; omega, bp_ (n := ((i + 1 : Nat) : Int)) (by omega) (by omega)⟩)) (by simp only [go_sem, seval, ad_, aa_, at_, leV, aq_, ar_, V.inn, us, T9_, Ta_]) (by simp only [go_sem, seval, ad_, aa_, at_, leV, aq_, ar_, V.inn, us, T9_, Ta_] <;> (simp only [T3_] at h9; rw [r5_ (show i < l.length by omega)])))
 ·refine .exit (.seq (.rgn [] (by simp only [go_sem, seval, ad_, aa_]; rfl) ?_ ?_))
  ·(first | trivial | (simp; done) | (simp only [T3_] at h9; simp [ad_, ax_]; omega))
  refine .ret ⟨.inr rfl, ?_⟩
  exact Out.mem' (by simp only [Tryz.results25]; rfl) (by simp only [az_, bj_, go_sem, seval, ad_, aa_]) (by simp only [bg_, rns, rn, go_sem, seval, ad_, aa_] <;> (simp only [T4_] at h9; rw [show (i : Int) = l.length by omega])) (by simp) rfl (by decide) (by simp only [go_sem, seval, ad_, aa_]) (by simp only [av_, go_sem, seval, ad_, aa_]) (by simp only [ao_, go_sem, seval, ad_, aa_] <;> (simp only [T4_] at h9; rw [show i = l.length by omega]; simp))
theorem oq_ (n : Nat) (k : Int) (hl : n ≤ 1000000) (h0 : 0 ≤ k) (h1 : k ≤ 1000000) : ACall En 26 [.sl false (inR (hi_ k n)), .i .i64 k] [] [.i .i64 (k + n)] [] := by
 refine al_ (fn := Tryz.f26) [] Tryz.func26 rfl rfl (by simp) fun C => ?_
 rw [ay_]
 simp only [Tryz.ntmps26, T7_, List.length_nil, Nat.reduceAdd, Nat.reduceSub, List.replicate_succ, List.replicate_zero, List.cons_append, List.nil_append, bs_]
 refine .seq (.rgn [] (by simp only [go_sem, seval, ad_, aa_, ax_]; rfl) ?_ ?_)
 ·(first | trivial | (simp; done) | (simp only [T3_] at h9; simp [ad_, ax_]; omega))
 refine .seq (.seq (.rgn [] (by simp only [go_sem, seval, ad_, aa_, ax_]; rfl) ?_ ?_))
 ·(first | trivial | (simp; done) | (simp only [T3_] at h9; simp [ad_, ax_]; omega))
 refine .block (.loopK (fun i : Nat => ⟨[.sl false (inR (hi_ k n)), .i .i64 (k + i), .no, .no, .no, .i .i64 i, .no, .no, .no, .no, .no, .no, .no, .no, .no, .no, .no, .no, .no, .no, .no], a7_ [], us []⟩) (fun i : Nat => i ≤ n) (fun i : Nat => n - i) (0) ?_ ?_ (fun i hI => ?_))
 ·simp
 ·exact Can.weak (Weak.lit (by simp only [go_sem, seval, ad_, aa_, ax_, at_, leV, aq_, ar_, V.inn, us, T9_, Ta_] <;> ((try simp))) (by simp only [go_sem, seval, ad_, aa_, ax_, at_, leV, aq_, ar_, V.inn, us, T9_, Ta_]) (by simp only [go_sem, seval, ad_, aa_, ax_, at_, leV, aq_, ar_, V.inn, us, T9_, Ta_]))
 refine .seq (.seq (.rgn [] (by simp only [go_sem, seval, ad_, aa_, ax_]; rfl) ?_ ?_))
 ·(first | trivial | (simp; done) | (simp only [T3_] at h9; simp [ad_, ax_]; omega))
 refine .condB (by simp only [go_sem, seval, ad_, aa_, ax_]; rfl) (by simp only [go_sem, seval, ad_, aa_, ax_]) (fun h9 => ?_) (fun h9 => ?_)
 ·refine .skip (.seq (.block (.seq (.seq (.rgn [] (by simp only [go_sem, seval, ad_, aa_, ax_, dj_ (show i < (hi_ k n).length by rw [ax_]; simpa using h9), adl_ (show i < n by simpa using h9)]; rfl) ?_ ?_)))))
  ·(first | trivial | (simp; done) | (simp only [T3_] at h9; simp [ad_, ax_]; omega))
  refine .condB (by simp only [go_sem, seval, ad_, aa_, ax_]; rfl) (by simp only [go_sem, seval, ad_, aa_, ax_]) (fun h17 => ?_) (fun h17 => ?_)
  ·simp at h17
  ·refine .skip (.rgn [] (by simp only [go_sem, seval, ad_, aa_, ax_]; rfl) ?_ ?_)
   ·(first | trivial | (simp; done) | (simp only [T3_] at h9; simp [ad_, ax_]; omega))
   refine .rgn [] (by simp only [go_sem, seval, ad_, aa_, ax_]; rfl) ?_ ?_
   ·(first | trivial | (simp; done) | (simp only [T3_] at h9; simp [ad_, ax_]; omega))
   refine Exists.intro (i + 1) ⟨?_, ?_, ?_⟩
   ·simp only [T3_] at h9; omega
   ·simp only [T3_] at h9; omega
   exact Can.weak (Weak.lit (by simp only [go_sem, seval, ad_, aa_, ax_, at_, leV, aq_, ar_, V.inn, us, T9_, Ta_] <;> (simp only [T3_] at h9; exact ⟨by rw [bp_ (by omega) (by omega)]; omega, bp_ (n := ((i + 1 : Nat) : Int)) (by omega) (by omega)⟩)) (by simp only [go_sem, seval, ad_, aa_, ax_, at_, leV, aq_, ar_, V.inn, us, T9_, Ta_]) (by simp only [go_sem, seval, ad_, aa_, ax_, at_, leV, aq_, ar_, V.inn, us, T9_, Ta_]))
 ·refine .exit (.seq (.rgn [] (by simp only [go_sem, seval, ad_, aa_, ax_]; rfl) ?_ ?_))
  ·(first | trivial | (simp; done) | (simp only [T3_] at h9; simp [ad_, ax_]; omega))
  refine .ret ⟨.inr rfl, ?_⟩
  exact Out.plain (by simp only [Tryz.results26]; rfl) (by simp only [az_, bj_, go_sem, seval, ad_, aa_, ax_] <;> (split <;> rfl)) (by simp only [bg_, go_sem, seval, ad_, aa_, ax_] <;> (simp only [T4_] at h9; rw [show (i : Int) = n by omega])) (by simp only [go_sem, seval, ad_, aa_, ax_])
end
section
set_option maxRecDepth 100000
set_option maxHeartbeats 4000000
def torn (b : Str) (p : Int) (l : List Str) (s : Str) : Str :=
 s.take (ls_ b p s.length).toNat ++ ofI b (p + 1) l ++ s.drop ((ls_ b p s.length).toNat + (ls_ b (p + 1 + 1) 2).toNat)
end
end Go.Proofs.YtcigkafioinfoaaGreatDoor
