/- What programs say, as they are and turned into lines without types; what texts say, plainly. Conditions: none. -/
import Derived.Test.YtpikbndepapbhabGreatDoorKw
import Derived.Test.YtpikbndepapbhabGreatDoorKr
import Derived.Test.YtpikbndepapbhabGreatDoorKu
import Derived.Test.YtpikbndepapbhabGreatDoorKq
set_option linter.unusedVariables false
set_option linter.unusedSimpArgs false
namespace Go.Proofs.YtpikbndepapbhabGreatDoor
section
def fl_ (s : Str) : List Int × Bool := if (dz_ s).all (fun w => (c7_ w).isSome) then ca_ ((dz_ s).map fun w => (c7_ w).getD B0) else ([], false)
end
section
set_option maxRecDepth 100000
set_option maxHeartbeats 4000000
def rdl (ls : List Str) : List Bl := ls.map fun w => (c7_ w).getD B0
theorem cb_ (ls : List Str) : (rdl ls).length = ls.length := by simp [rdl]
theorem xh_ {ls : List Str} {k : Nat} (h : k < ls.length) : (rdl ls).getD k B0 = (c7_ (ls.getD k [])).getD B0 := by
 simp [rdl, T8_, T6_ h]
theorem aay_ (ls : List Str) : h0_ (rdl ls) = true := by
 refine List.all_eq_true.2 fun b hb => ?_
 obtain ⟨w, _, rfl⟩ := List.mem_map.1 hb
 obtain ⟨w1, w2⟩ := m1_ w
 cases h : c7_ w with
 | none => exact abq_
 | some b =>
  have : b = eg_ (cl_ w) := by
   by_cases hc : (b4_ w).isSome = true ∧ bok (eg_ (cl_ w)) = true ∧ dk_ (eg_ (cl_ w)) = w
   ·rw [jf_ hc.1 hc.2.1 hc.2.2] at h; exact (Option.some.inj h).symm
   ·rw [jg_ hc] at h; cases h
  rw [this]; exact rv_ w1
theorem st_ {s : Str} {k : Nat} (hk : k < (dz_ s).length) (h : (c7_ ((dz_ s).getD k [])).isSome = false) : fl_ s = ([], false) := by
 unfold fl_
 rw [if_neg]
 intro q
 have := List.all_eq_true.1 q _ (bp_ (d := []) hk)
 rw [h] at this; cases this
theorem qm_ {s : Str} (h : (dz_ s).all (fun w => (c7_ w).isSome) = true) : fl_ s = ca_ (rdl (dz_ s)) := by unfold fl_; rw [if_pos h]; rfl
theorem s4_ {l : List Bl} {k : Nat} (hk : k < l.length) : bLR (l.take (k + 1)) = bLR (l.take k) ++ [bC (l.getD k B0)] := by
 rw [List.take_add_one, T6_ hk, kp_, T8_, T6_ hk]; rfl
theorem ud_ {α : Type} {p : α → Bool} {l : List α} {k : Nat} {d : α} (h : k < l.length) : (l.take (k + 1)).all p = ((l.take k).all p && p (l.getD k d)) := by
 rw [List.take_add_one, T6_ h, List.all_append, T8_, T6_ h]; simp
theorem ly_ (s : Str) (hs : s.length ≤ 281474976710656) : ACall En 16 [.s s] [] [.ow 0 1 0 (fl_ s).1.length, .b (fl_ s).2] [⟨3, 1, inR (fl_ s).1⟩] := by
 have hL := n1_ s
 have hM := nc_ s
 have hG := @qm_ s
 have hB := @st_ s
 generalize hT : dz_ s = ls at *
 refine al_ (fn := Tryz.f16) [33] Tryz.func16 rfl rfl (by simp) fun C => ?_
 rw [aw_]
 simp only [Tryz.ntmps16, T7_, List.length_nil, Nat.reduceAdd, Nat.reduceSub, List.replicate_succ, List.replicate_zero, List.cons_append, List.nil_append, bo_]
 refine .seq (.rgn [] (by simp only [go_sem, seval, ab_, aa_, ad_, ae_, ac_]; rfl) ?_ ?_)
 ·(first | trivial | (simp; done) | (simpa using h13) | (simp at h13; simp [ai_, cb_]; omega))
 refine .seq (.rgn [] (by simp only [go_sem, seval, ab_, aa_, ad_, ae_, ac_]; rfl) ?_ ?_)
 ·(first | trivial | (simp; done) | (simpa using h13) | (simp at h13; simp [ai_, cb_]; omega))
 refine .seqJ (fun u : Unit => ⟨[.no, .no, .no, .no, .sl false (bLR (rdl ls)), .no, .no, .no, .no, .no, .no, .no, .no, .no, .no, .no, .no, .no, .no, .no, .no, .no, .no, .no, .no, .no, .no, .no, .no, .no, .no, .no], bc_ [], us []⟩) (fun u : Unit => ls.all (fun w => (c7_ w).isSome) = true) ?_ (fun u hJ => ?_)
 ·refine .seq (.rgn [a1_ (show ACall En 65 [.s s] [] [.sl false (bi_ ls)] [] from hT ▸ sc_ s hs)] (by simp only [go_sem, seval, ab_, aa_, ad_, ae_, ac_]; rfl) ?_ ?_)
  ·(first | trivial | (simp; done) | (simpa using h13) | (simp at h13; simp [ai_, cb_]; omega))
  refine .block (.loopK (fun k : Nat => ⟨[.no, .no, .no, .no, .ow 20 10 0 k, .no, .no, .no, .no, .no, .sl false (bi_ ls), .i .i64 ls.length, .i .i64 k, .no, .no, .no, .no, .no, .no, .no, .no, .no, .no, .no, .no, .no, .no, .no, .no, .no, .no, .no], bc_ [(20, ⟨35, 10, bLR ((rdl ls).take k)⟩)], us [20]⟩) (fun k : Nat => k ≤ ls.length ∧ (ls.take k).all (fun w => (c7_ w).isSome) = true) (fun k : Nat => ls.length - k) (0) ?_ ?_ (fun k hI => ?_))
  ·exact ⟨by simp, by simp⟩
  ·refine Can.trans (Can.ownSlot 4 20 35 10 (by simp only [go_sem, seval, ab_, aa_, ad_, ae_, ac_] <;> rfl) (by simp only [go_sem, seval, ab_, aa_, ad_, ae_, ac_]) (by simp only [go_sem, seval, ab_, aa_, ad_, ae_, ac_] <;> rfl)) ?_
   exact Can.weak (Weak.lit (by simp only [go_sem, seval, ab_, aa_, ad_, ae_, ac_, aq_, leV, ao_, ap_, V.inn, us, T9_, Ta_] <;> (simp)) (by simp only [go_sem, seval, ab_, aa_, ad_, ae_, ac_, aq_, leV, ao_, ap_, V.inn, us, T9_, Ta_]) (by simp only [go_sem, seval, ab_, aa_, ad_, ae_, ac_, aq_, leV, ao_, ap_, V.inn, us, T9_, Ta_] <;> (simp [bLR])))
  refine .seq (.rgn [] (by simp only [go_sem, seval, ab_, aa_, ad_, ae_, ac_]; rfl) ?_ ?_)
  ·(first | trivial | (simp; done) | (simpa using h13) | (simp at h13; simp [ai_, cb_]; omega))
  refine .seq (.condB (by simp only [go_sem, seval, ab_, aa_, ad_, ae_, ac_]; rfl) (by simp only [go_sem, seval, ab_, aa_, ad_, ae_, ac_]) (fun h13 => ?_) (fun h13 => ?_))
  ·refine .skip (.seq (.block (.seq (.rgn [] (by simp only [go_sem, seval, ab_, aa_, ad_, ae_, ac_, cj_ (show k < ls.length by simpa using h13)]; rfl) ?_ ?_))))
   ·(first | trivial | (simp; done) | (simpa using h13) | (simp at h13; simp [ai_, cb_]; omega))
   refine .seq (.rgn [ck_ (k < ls.length) (fun h => ig_ (ls.getD k []) (by have := hM _ (bp_ (d := []) h); omega))] (by simp only [go_sem, seval, ab_, aa_, ad_, ae_, ac_]; rfl) ?_ ?_)
   ·(first | trivial | (simp; done) | (simpa using h13) | (simp at h13; simp [ai_, cb_]; omega))
   refine .seq (.seq (.rgn [] (by simp only [go_sem, seval, ab_, aa_, ad_, ae_, ac_]; rfl) ?_ ?_))
   ·(first | trivial | (simp; done) | (simpa using h13) | (simp at h13; simp [ai_, cb_]; omega))
   refine .condB (by simp only [go_sem, seval, ab_, aa_, ad_, ae_, ac_]; rfl) (by simp only [go_sem, seval, ab_, aa_, ad_, ae_, ac_]) (fun h22 => ?_) (fun h22 => ?_)
   ·refine .seq (.rgn [] (by simp only [go_sem, seval, ab_, aa_, ad_, ae_, ac_]; rfl) ?_ ?_)
    ·(first | trivial | (simp; done) | (simpa using h13) | (simp at h13; simp [ai_, cb_]; omega))
    refine .can (Can.ownSlot 2 33 3 1 (by simp only [go_sem, seval, ab_, aa_, ad_, ae_, ac_] <;> rfl) (by simp only [go_sem, seval, ab_, aa_, ad_, ae_, ac_]) (by simp only [go_sem, seval, ab_, aa_, ad_, ae_, ac_] <;> rfl)) ?_
    refine .ret ⟨.inr rfl, ?_⟩
    exact Out.mem' (by simp only [Tryz.results16]; rfl) (by simp only [av_, a3_, go_sem, seval, ab_, aa_, ad_, ae_, ac_]) (by simp only [a2_, rns, rn, go_sem, seval, ab_, aa_, ad_, ae_, ac_] <;> (rw [hB (by simpa using h13) (by simpa using h22)]; simp)) (by simp) rfl (by decide) (by simp only [go_sem, seval, ab_, aa_, ad_, ae_, ac_]) (by simp only [an_, go_sem, seval, ab_, aa_, ad_, ae_, ac_]) (by simp only [ah_, go_sem, seval, ab_, aa_, ad_, ae_, ac_] <;> (rw [hB (by simpa using h13) (by simpa using h22)]; simp [inR]))
   ·refine .skip (.rgn [] (by simp only [go_sem, seval, ab_, aa_, ad_, ae_, ac_]; rfl) ?_ ?_)
    ·(first | trivial | (simp; done) | (simpa using h13) | (simp at h13; simp [ai_, cb_]; omega))
    refine .rgn [] (by simp only [go_sem, seval, ab_, aa_, ad_, ae_, ac_]; rfl) ?_ ?_
    ·(first | trivial | (simp; done) | (simpa using h13) | (simp at h13; simp [ai_, cb_]; omega))
    refine Exists.intro (k + 1) ⟨?_, ?_, ?_⟩
    ·simp at h13; exact ⟨by omega, by rw [ud_ (d := []) h13, hI.2]; simpa using h22⟩
    ·simp at h13; omega
    refine Can.trans (Can.swap 36 20 (by decide) (by decide) (by decide) (by decide) (by simp only [go_sem, seval, ab_, aa_, ad_, ae_, ac_, V.cl]) (by simp only [go_sem, seval, ab_, aa_, ad_, ae_, ac_, V.cl]) (by simp only [go_sem, seval, ab_, aa_, ad_, ae_, ac_, bf_, sw, swM, rnB] <;> rfl) (by simp only [go_sem, seval, ab_, aa_, ad_, ae_, ac_, bf_, sw, swM, rnB] <;> rfl) (by simp only [go_sem, seval, ab_, aa_, ad_, ae_, ac_, bf_, sw, swM, rnB] <;> rfl)) ?_
    exact Can.weak (Weak.lit (by simp only [go_sem, seval, ab_, aa_, ad_, ae_, ac_, aq_, leV, ao_, ap_, V.inn, us, T9_, Ta_] <;> (rw [bd_ (by simp at h13; omega) (by simp at h13; omega)]; simp)) (by simp only [go_sem, seval, ab_, aa_, ad_, ae_, ac_, aq_, leV, ao_, ap_, V.inn, us, T9_, Ta_]) (by simp only [go_sem, seval, ab_, aa_, ad_, ae_, ac_, aq_, leV, ao_, ap_, V.inn, us, T9_, Ta_] <;> (simp at h13; rw [s4_ (by rw [cb_]; exact h13), xh_ h13]; simp [ae_])))
  ·refine .exit ?_
   refine Exists.intro (()) ⟨?_, ?_⟩
   ·simp at h13; have h2 := hI.2; rw [T1_ (by omega)] at h2; exact h2
   refine Can.trans (Can.frz 20 (by simp only [go_sem, seval, ab_, aa_, ad_, ae_, ac_] <;> rfl) (by simp only [go_sem, seval, ab_, aa_, ad_, ae_, ac_]) (by simp only [go_sem, seval, ab_, aa_, ad_, ae_, ac_] <;> rfl) (by simp only [go_sem, seval, ab_, aa_, ad_, ae_, ac_] <;> rfl)) ?_
   exact Can.weak (Weak.lit (by simp only [go_sem, seval, ab_, aa_, ad_, ae_, ac_, aq_, leV, ao_, ap_, V.inn, us, T9_, Ta_] <;> (simp at h13; (obtain rfl : k = ls.length := (by omega)); simp [T1_, cb_, ai_, leV, ba_])) (by simp only [go_sem, seval, ab_, aa_, ad_, ae_, ac_, aq_, leV, ao_, ap_, V.inn, us, T9_, Ta_]) (by simp only [go_sem, seval, ab_, aa_, ad_, ae_, ac_, aq_, leV, ao_, ap_, V.inn, us, T9_, Ta_]))
 refine .seq (.rgn [bm_ [] [33] (l7_ (rdl ls) (aay_ ls) (by rw [cb_]; omega))] (by simp only [go_sem, seval, ab_, aa_, ad_, ae_, ac_]; rfl) ?_ ?_)
 ·(first | trivial | (simp; done) | (simpa using h13) | (simp at h13; simp [ai_, cb_]; omega))
 refine .ret ⟨.inr rfl, ?_⟩
 exact Out.mem' (by simp only [Tryz.results16]; rfl) (by simp only [av_, a3_, go_sem, seval, ab_, aa_, ad_, ae_, ac_]) (by simp only [a2_, rns, rn, go_sem, seval, ab_, aa_, ad_, ae_, ac_] <;> (rw [hG hJ])) (by simp) rfl (by decide) (by simp only [go_sem, seval, ab_, aa_, ad_, ae_, ac_]) (by simp only [an_, go_sem, seval, ab_, aa_, ad_, ae_, ac_]) (by simp only [ah_, go_sem, seval, ab_, aa_, ad_, ae_, ac_] <;> (rw [hG hJ]; (try simp [ce_, ac_])))
theorem o6_ (s : Str) (hs : s.length ≤ 281474976710656) : ACall En 16 [.s s] [] [.sl false (inR (fl_ s).1), .b (fl_ s).2] [] :=
 ACall.frz1 (ly_ s hs) (by simp [e5_, frz, af_, T1_])
end
section
set_option maxRecDepth 100000
set_option maxHeartbeats 4000000
end
end Go.Proofs.YtpikbndepapbhabGreatDoor
