/- What programs say, as they are and turned into lines without types; what texts say, plainly. Conditions: none. -/
import Derived.Test.YtcigkafioinfoaaGreatDoorKw
import Derived.Test.YtcigkafioinfoaaGreatDoorKr
import Derived.Test.YtcigkafioinfoaaGreatDoorKu
import Derived.Test.YtcigkafioinfoaaGreatDoorKq
set_option linter.unusedVariables false
set_option linter.unusedSimpArgs false
namespace Go.Proofs.YtcigkafioinfoaaGreatDoor
section
theorem aal_ (d : Nat) : ∀ (e : E) (N : List Str) (M : List Int), form e d = true → rk (bare e) N M = rk e N M := by
 induction d with
 | zero => intro e N M h; have := (bl_ h).1; omega
 | succ d ih =>
  intro e N M h
  have hd : ((d + 1 : Nat) : Int) - 1 = d := by omega
  have h0 := h
  rw [js_] at h0
  simp only [T5_] at h0
  obtain ⟨⟨_, hsh⟩, hf⟩ := h0
  rw [hd] at hf
  by_cases k1 : e.kind = 1
  ·have hk : e.kids = [] := by
    unfold shape at hsh; simp [k1] at hsh; exact hsh.2
   rw [d9_ (by omega) hk]
  by_cases k2 : e.kind = 2
  ·have hk : e.kids = [] := by
    unfold shape at hsh; simp [k2] at hsh; exact hsh.2
   rw [d9_ (by omega) hk]
  by_cases k3 : e.kind = 3
  ·have hk : e.kids.length = 2 := by
    unfold shape at hsh; simp [k3] at hsh; exact hsh.2
   have f0 := gz_ hf _ (bp_ (l := e.kids) (k := 0) (d := E0) (by omega))
   have f1 := gz_ hf _ (bp_ (l := e.kids) (k := 1) (d := E0) (by omega))
   rw [i3_ k3 hk, uc_ k3 hk, uc_ (by rfl) (by rfl)]
   show pv_ e.s (rk (bare (e.kids.getD 0 E0)) N M) (rk (bare (e.kids.getD 1 E0)) N M) = _
   rw [ih _ N M f0, ih _ N M f1]
  by_cases k4 : e.kind = 4
  ·have hk : e.kids.length = 1 := by
    unfold shape at hsh; simp [k4] at hsh; exact hsh.2
   have f0 := gz_ hf _ (bp_ (l := e.kids) (k := 0) (d := E0) (by omega))
   rw [k2_ k4 hk, ahb_ k4 hk, ih _ N M f0]
  ·unfold shape at hsh; simp [k1, k2, k3, k4] at hsh
abbrev ofS (s : Sl) : Bl := ⟨s.kind, s.name, s.expr, s.thn⟩
theorem xg_ {s : Sl} (h : sok s = true) (k : ¬ s.kind = 0) : eok s.expr = true := by
 have h0 := (ts_ h).1
 unfold cr_ at h0
 by_cases k1 : s.kind = 1
 ·simp [k1] at h0; exact h0.1.2
 by_cases k2 : s.kind = 2
 ·simp [k2] at h0; exact h0.1.2
 by_cases k3 : s.kind = 3
 ·simp [k3] at h0; exact h0.1.2
 ·simp [k, k1, k2, k3] at h0
theorem aaw_ {s : Sl} (h : sok s = true) (k : s.kind = 3) : eok s.thn = true := by
 have h0 := (ts_ h).1
 unfold cr_ at h0
 simp [k] at h0; exact h0.2
theorem aek_ {s : Sl} (h : sok s = true) (k : ¬ s.kind = 0) (N : List Str) (M : List Int) : ed_ (bof s) N M = ed_ (ofS s) N M := by
 have e1 : rk (bof s).expr N M = rk s.expr N M := by
  show rk (if s.kind = 0 then E0 else bare s.expr) N M = _
  rw [if_neg k]; exact aal_ 5 _ N M (bq_ (xg_ h k))
 unfold ed_
 by_cases k3 : s.kind = 3
 ·have e2 : rk (bof s).thn N M = rk s.thn N M := by
   show rk (if s.kind = 3 then bare s.thn else E0) N M = _
   rw [if_pos k3]; exact aal_ 5 _ N M (bq_ (aaw_ h k3))
  rw [e1, e2]; rfl
 ·have q1 : ¬ ((rk (bof s).expr N M).2 = true ∧ (bof s).kind = 3) := fun q => k3 q.2
  have q2 : ¬ ((rk (ofS s).expr N M).2 = true ∧ (ofS s).kind = 3) := fun q => k3 q.2
  rw [if_neg q1, if_neg q2, e1]
theorem aes_ {s : Sl} (h : sok s = true) (r : Rs) : d7_ r (bof s) = d7_ r (ofS s) := by
 by_cases k : s.kind = 0
 ·rw [m6_ (show (bof s).kind = 0 from k), m6_ (show (ofS s).kind = 0 from k)]
 ·unfold d7_
  rw [aek_ h k]; rfl
theorem xl_ : ∀ (l : List Sl) (r : Rs), l.all sok = true → (l.map bof).foldl d7_ r = (l.map ofS).foldl d7_ r
 | [], _, _ => rfl
 | s :: l, r, h => by
  simp only [List.all_cons, T5_] at h
  rw [List.map_cons, List.map_cons, List.foldl_cons, List.foldl_cons, aes_ h.1, xl_ l _ h.2]
def i0_ (l : List Sl) : List Int × Bool := if pok l then ((bt_ (l.map ofS)).said, (bt_ (l.map ofS)).ok) else ([], false)
theorem aao_ {l : List Sl} (h : pok l = true) : l.all sok = true := by simp only [pok, T5_] at h; exact h.2
theorem aa4_ {l : List Sl} (h : pok l = true) : lok (l.map bof) = true := by
 simp only [pok, T5_] at h
 simp only [lok, List.length_map, h.1.1, h.1.2, Bool.true_and]
 rw [List.all_map]
 exact List.all_eq_true.2 fun s hs => aap_ (List.all_eq_true.1 h.2 s hs)
theorem agu_ {l : List Sl} (h : pok l = true) : k1_ (l.map bof) = i0_ l := by
 unfold k1_ i0_ bt_
 rw [if_pos (aa4_ h), if_pos h, xl_ l _ (aao_ h)]
theorem v1_ {l : List Sl} (h : pok l = false) : i0_ l = ([], false) := by unfold i0_; rw [h]; rfl
theorem sa_ {l : List Sl} {k : Nat} (hl : pok l = true) (hk : k < l.length) (h : (bt_ ((l.map ofS).take k)).ok = true) (h0 : ¬ (l.getD k S0).kind = 0) (h2 : (ed_ (ofS (l.getD k S0)) (bt_ ((l.map ofS).take k)).names (bt_ ((l.map ofS).take k)).nums).2.2 = false) : i0_ l = ((bt_ ((l.map ofS).take k)).said, false) := by
 have hk' : k < (l.map ofS).length := by rw [List.length_map]; exact hk
 have hg : (l.map ofS).getD k B0 = ofS (l.getD k S0) := by simp [T8_, T6_ hk]
 have e := fy_ hk'
 rw [hg, rg_ h h0 h2] at e
 have e2 := rt_ (l := l.map ofS) (k := k + 1) (by omega) (by rw [e])
 unfold i0_; rw [if_pos hl, e2, e]
theorem vq_ {l : List Sl} {k : Nat} (hl : pok l = true) (hk : l.length ≤ k) (h : (bt_ ((l.map ofS).take k)).ok = true) : i0_ l = ((bt_ ((l.map ofS).take k)).said, true) := by
 rw [T1_ (by rw [List.length_map]; exact hk)] at h ⊢
 unfold i0_; rw [if_pos hl, h]
theorem ee_ {l : List Sl} {k : Nat} (hk : k < l.length) : (l.map ofS).getD k B0 = ofS (l.getD k S0) := by simp [T8_, T6_ hk]
def mu_ (s : Str) : List Int × Bool := if (dc_ s).all (fun w => (fq_ w).isSome) then k1_ ((dc_ s).map fun w => (fq_ w).getD B0) else ([], false)
theorem rd_ {b : Bl} (h : bok b = true) : fq_ (iw_ b) = some b := ab5_.2 ⟨h, rfl⟩
theorem ac1_ {l : List Bl} (h : lok l = true) : mu_ (cf_ (l.map iw_)) = k1_ l := by
 have h0 := h
 simp only [lok, T5_, T3_] at h0
 obtain ⟨⟨h1, h2⟩, h3⟩ := h0
 have hb : ∀ b ∈ l, bok b = true := fun b hb => List.all_eq_true.1 h3 b hb
 have e : dc_ (cf_ (l.map iw_)) = l.map iw_ := xt_ (fun w hw => by obtain ⟨b, q, rfl⟩ := List.mem_map.1 hw; exact pw_ (hb b q)) (by intro q; have := congrArg List.length q; rw [List.length_map] at this; simp only [List.length_nil] at this; omega) (by rw [List.length_map]; exact h2)
 unfold mu_
 rw [e, if_pos (List.all_eq_true.2 fun w hw => by obtain ⟨b, q, rfl⟩ := List.mem_map.1 hw; rw [rd_ (hb b q)]; rfl)]
 congr 1
 rw [List.map_map]
 conv => rhs; rw [← List.map_id l]
 exact List.map_congr_left fun b q => by show (fq_ (iw_ b)).getD B0 = id b; rw [rd_ (hb b q)]; rfl
theorem sc_ {s : Sl} (h : sok s = true) : emT s = iw_ (bof s) := by unfold emT iw_; rw [if_pos h]
theorem ui_ {l : List Sl} (h : pok l = true) : o6_ l = cf_ ((l.map bof).map iw_) := by
 unfold o6_; rw [if_pos h, List.map_map]
 congr 1
 exact List.map_congr_left fun s hs => sc_ (List.all_eq_true.1 (aao_ h) s hs)
theorem v9_ {l : List Sl} (h : pok l = true) : mu_ (o6_ l) = i0_ l := by
 rw [ui_ h, ac1_ (aa4_ h), agu_ h]
end
section
set_option maxRecDepth 100000
set_option maxHeartbeats 4000000
def rdl (ls : List Str) : List Bl := ls.map fun w => (fq_ w).getD B0
theorem eh_ (ls : List Str) : (rdl ls).length = ls.length := by simp [rdl]
theorem ais_ {ls : List Str} {k : Nat} (h : k < ls.length) : (rdl ls).getD k B0 = (fq_ (ls.getD k [])).getD B0 := by
 simp [rdl, T8_, T6_ h]
theorem amj_ (ls : List Str) : allB (rdl ls) = true := by
 refine List.all_eq_true.2 fun b hb => ?_
 obtain ⟨w, _, rfl⟩ := List.mem_map.1 hb
 obtain ⟨w1, w2⟩ := lt_ w
 cases h : fq_ w with
 | none => exact alh_
 | some b =>
  have : b = ff_ (ck_ w) := by
   by_cases hc : (b4_ w).isSome = true ∧ bok (ff_ (ck_ w)) = true ∧ wk_ (ff_ (ck_ w)) = w
   ·rw [qg_ hc.1 hc.2.1 hc.2.2] at h; exact (Option.some.inj h).symm
   ·rw [pe_ hc] at h; cases h
  rw [this]; exact aac_ w1
theorem ae7_ {s : Str} {k : Nat} (hk : k < (dc_ s).length) (h : (fq_ ((dc_ s).getD k [])).isSome = false) : mu_ s = ([], false) := by
 unfold mu_
 rw [if_neg]
 intro q
 have := List.all_eq_true.1 q _ (bp_ (d := []) hk)
 rw [h] at this; cases this
theorem abi_ {s : Str} (h : (dc_ s).all (fun w => (fq_ w).isSome) = true) : mu_ s = k1_ (rdl (dc_ s)) := by unfold mu_; rw [if_pos h]; rfl
theorem afm_ {l : List Bl} {k : Nat} (hk : k < l.length) : bLR (l.take (k + 1)) = bLR (l.take k) ++ [bC (l.getD k B0)] := by
 rw [List.take_add_one, T6_ hk, ajd_, T8_, T6_ hk]; rfl
theorem agf_ {α : Type} {p : α → Bool} {l : List α} {k : Nat} {d : α} (h : k < l.length) : (l.take (k + 1)).all p = ((l.take k).all p && p (l.getD k d)) := by
 rw [List.take_add_one, T6_ h, List.all_append, T8_, T6_ h]; simp
theorem wc_ (s : Str) (hs : s.length ≤ 281474976710656) : ACall En 15 [.s s] [] [.ow 0 1 0 (mu_ s).1.length, .b (mu_ s).2] [⟨3, 1, inR (mu_ s).1⟩] := by
 have hL := qd_ s
 have hM := kf_ s
 have hG := @abi_ s
 have hB := @ae7_ s
 generalize hT : dc_ s = ls at *
 refine aj_ (fn := Tryz.f15) [33] Tryz.func15 rfl rfl (by simp) fun C => ?_
 rw [ay_]
 simp only [Tryz.ntmps15, T7_, List.length_nil, Nat.reduceAdd, Nat.reduceSub, List.replicate_succ, List.replicate_zero, List.cons_append, List.nil_append, bu_]
 refine .seq (.rgn [] (by simp only [go_sem, seval, ab_, aa_, av_, at_, ac_]; rfl) ?_ ?_)
 ·(first | trivial | (simp; done) | (simpa using h13) | (simp at h13; simp [ba_, eh_]; omega))
 refine .seq (.rgn [] (by simp only [go_sem, seval, ab_, aa_, av_, at_, ac_]; rfl) ?_ ?_)
 ·(first | trivial | (simp; done) | (simpa using h13) | (simp at h13; simp [ba_, eh_]; omega))
 refine .seqJ (fun u : Unit => ⟨[.no, .no, .no, .no, .sl false (bLR (rdl ls)), .no, .no, .no, .no, .no, .no, .no, .no, .no, .no, .no, .no, .no, .no, .no, .no, .no, .no, .no, .no, .no, .no, .no, .no, .no, .no, .no], bh_ [], us []⟩) (fun u : Unit => ls.all (fun w => (fq_ w).isSome) = true) ?_ (fun u hJ => ?_)
 ·refine .seq (.rgn [a8_ (show ACall En 57 [.s s] [] [.sl false (bo_ ls)] [] from hT ▸ t1_ s hs)] (by simp only [go_sem, seval, ab_, aa_, av_, at_, ac_]; rfl) ?_ ?_)
  ·(first | trivial | (simp; done) | (simpa using h13) | (simp at h13; simp [ba_, eh_]; omega))
  refine .block (.loopK (fun k : Nat => ⟨[.no, .no, .no, .no, .ow 20 10 0 k, .no, .no, .no, .no, .no, .sl false (bo_ ls), .i .i64 ls.length, .i .i64 k, .no, .no, .no, .no, .no, .no, .no, .no, .no, .no, .no, .no, .no, .no, .no, .no, .no, .no, .no], bh_ [(20, ⟨83, 10, bLR ((rdl ls).take k)⟩)], us [20]⟩) (fun k : Nat => k ≤ ls.length ∧ (ls.take k).all (fun w => (fq_ w).isSome) = true) (fun k : Nat => ls.length - k) (0) ?_ ?_ (fun k hI => ?_))
  ·exact ⟨by simp, by simp⟩
  ·refine Can.trans (Can.ownSlot 4 20 83 10 (by simp only [go_sem, seval, ab_, aa_, av_, at_, ac_] <;> rfl) (by simp only [go_sem, seval, ab_, aa_, av_, at_, ac_]) (by simp only [go_sem, seval, ab_, aa_, av_, at_, ac_] <;> rfl)) ?_
   exact Can.weak (Weak.lit (by simp only [go_sem, seval, ab_, aa_, av_, at_, ac_, ar_, leV, ap_, aq_, V.inn, us, T9_, Ta_] <;> (simp)) (by simp only [go_sem, seval, ab_, aa_, av_, at_, ac_, ar_, leV, ap_, aq_, V.inn, us, T9_, Ta_]) (by simp only [go_sem, seval, ab_, aa_, av_, at_, ac_, ar_, leV, ap_, aq_, V.inn, us, T9_, Ta_] <;> (simp [bLR])))
  refine .seq (.rgn [] (by simp only [go_sem, seval, ab_, aa_, av_, at_, ac_]; rfl) ?_ ?_)
  ·(first | trivial | (simp; done) | (simpa using h13) | (simp at h13; simp [ba_, eh_]; omega))
  refine .seq (.condB (by simp only [go_sem, seval, ab_, aa_, av_, at_, ac_]; rfl) (by simp only [go_sem, seval, ab_, aa_, av_, at_, ac_]) (fun h13 => ?_) (fun h13 => ?_))
  ·refine .skip (.seq (.block (.seq (.rgn [] (by simp only [go_sem, seval, ab_, aa_, av_, at_, ac_, cc_ (show k < ls.length by simpa using h13)]; rfl) ?_ ?_))))
   ·(first | trivial | (simp; done) | (simpa using h13) | (simp at h13; simp [ba_, eh_]; omega))
   refine .seq (.rgn [ce_ (k < ls.length) (fun h => wp_ (ls.getD k []) (by have := hM _ (bp_ (d := []) h); omega))] (by simp only [go_sem, seval, ab_, aa_, av_, at_, ac_]; rfl) ?_ ?_)
   ·(first | trivial | (simp; done) | (simpa using h13) | (simp at h13; simp [ba_, eh_]; omega))
   refine .seq (.seq (.rgn [] (by simp only [go_sem, seval, ab_, aa_, av_, at_, ac_]; rfl) ?_ ?_))
   ·(first | trivial | (simp; done) | (simpa using h13) | (simp at h13; simp [ba_, eh_]; omega))
   refine .condB (by simp only [go_sem, seval, ab_, aa_, av_, at_, ac_]; rfl) (by simp only [go_sem, seval, ab_, aa_, av_, at_, ac_]) (fun h22 => ?_) (fun h22 => ?_)
   ·refine .seq (.rgn [] (by simp only [go_sem, seval, ab_, aa_, av_, at_, ac_]; rfl) ?_ ?_)
    ·(first | trivial | (simp; done) | (simpa using h13) | (simp at h13; simp [ba_, eh_]; omega))
    refine .can (Can.ownSlot 2 33 3 1 (by simp only [go_sem, seval, ab_, aa_, av_, at_, ac_] <;> rfl) (by simp only [go_sem, seval, ab_, aa_, av_, at_, ac_]) (by simp only [go_sem, seval, ab_, aa_, av_, at_, ac_] <;> rfl)) ?_
    refine .ret ⟨.inr rfl, ?_⟩
    exact Out.mem' (by simp only [Tryz.results15]; rfl) (by simp only [az_, bc_, go_sem, seval, ab_, aa_, av_, at_, ac_]) (by simp only [bb_, rns, rn, go_sem, seval, ab_, aa_, av_, at_, ac_] <;> (rw [hB (by simpa using h13) (by simpa using h22)]; simp)) (by simp) rfl (by decide) (by simp only [go_sem, seval, ab_, aa_, av_, at_, ac_]) (by simp only [ao_, go_sem, seval, ab_, aa_, av_, at_, ac_]) (by simp only [ai_, go_sem, seval, ab_, aa_, av_, at_, ac_] <;> (rw [hB (by simpa using h13) (by simpa using h22)]; simp [inR]))
   ·refine .skip (.rgn [] (by simp only [go_sem, seval, ab_, aa_, av_, at_, ac_]; rfl) ?_ ?_)
    ·(first | trivial | (simp; done) | (simpa using h13) | (simp at h13; simp [ba_, eh_]; omega))
    refine .rgn [] (by simp only [go_sem, seval, ab_, aa_, av_, at_, ac_]; rfl) ?_ ?_
    ·(first | trivial | (simp; done) | (simpa using h13) | (simp at h13; simp [ba_, eh_]; omega))
    refine Exists.intro (k + 1) ⟨?_, ?_, ?_⟩
    ·simp at h13; exact ⟨by omega, by rw [agf_ (d := []) h13, hI.2]; simpa using h22⟩
    ·simp at h13; omega
    refine Can.trans (Can.swap 36 20 (by decide) (by decide) (by decide) (by decide) (by simp only [go_sem, seval, ab_, aa_, av_, at_, ac_, V.cl]) (by simp only [go_sem, seval, ab_, aa_, av_, at_, ac_, V.cl]) (by simp only [go_sem, seval, ab_, aa_, av_, at_, ac_, bj_, sw, swM, rnB] <;> rfl) (by simp only [go_sem, seval, ab_, aa_, av_, at_, ac_, bj_, sw, swM, rnB] <;> rfl) (by simp only [go_sem, seval, ab_, aa_, av_, at_, ac_, bj_, sw, swM, rnB] <;> rfl)) ?_
    exact Can.weak (Weak.lit (by simp only [go_sem, seval, ab_, aa_, av_, at_, ac_, ar_, leV, ap_, aq_, V.inn, us, T9_, Ta_] <;> (rw [bi_ (by simp at h13; omega) (by simp at h13; omega)]; simp)) (by simp only [go_sem, seval, ab_, aa_, av_, at_, ac_, ar_, leV, ap_, aq_, V.inn, us, T9_, Ta_]) (by simp only [go_sem, seval, ab_, aa_, av_, at_, ac_, ar_, leV, ap_, aq_, V.inn, us, T9_, Ta_] <;> (simp at h13; rw [afm_ (by rw [eh_]; exact h13), ais_ h13]; simp [at_])))
  ·refine .exit ?_
   refine Exists.intro (()) ⟨?_, ?_⟩
   ·simp at h13; have h2 := hI.2; rw [T1_ (by omega)] at h2; exact h2
   refine Can.trans (Can.frz 20 (by simp only [go_sem, seval, ab_, aa_, av_, at_, ac_] <;> rfl) (by simp only [go_sem, seval, ab_, aa_, av_, at_, ac_]) (by simp only [go_sem, seval, ab_, aa_, av_, at_, ac_] <;> rfl) (by simp only [go_sem, seval, ab_, aa_, av_, at_, ac_] <;> rfl)) ?_
   exact Can.weak (Weak.lit (by simp only [go_sem, seval, ab_, aa_, av_, at_, ac_, ar_, leV, ap_, aq_, V.inn, us, T9_, Ta_] <;> (simp at h13; (obtain rfl : k = ls.length := (by omega)); simp [T1_, eh_, ba_, leV, be_])) (by simp only [go_sem, seval, ab_, aa_, av_, at_, ac_, ar_, leV, ap_, aq_, V.inn, us, T9_, Ta_]) (by simp only [go_sem, seval, ab_, aa_, av_, at_, ac_, ar_, leV, ap_, aq_, V.inn, us, T9_, Ta_]))
 refine .seq (.rgn [bx_ [] [33] (xc_ (rdl ls) (amj_ ls) (by rw [eh_]; omega))] (by simp only [go_sem, seval, ab_, aa_, av_, at_, ac_]; rfl) ?_ ?_)
 ·(first | trivial | (simp; done) | (simpa using h13) | (simp at h13; simp [ba_, eh_]; omega))
 refine .ret ⟨.inr rfl, ?_⟩
 exact Out.mem' (by simp only [Tryz.results15]; rfl) (by simp only [az_, bc_, go_sem, seval, ab_, aa_, av_, at_, ac_]) (by simp only [bb_, rns, rn, go_sem, seval, ab_, aa_, av_, at_, ac_] <;> (rw [hG hJ])) (by simp) rfl (by decide) (by simp only [go_sem, seval, ab_, aa_, av_, at_, ac_]) (by simp only [ao_, go_sem, seval, ab_, aa_, av_, at_, ac_]) (by simp only [ai_, go_sem, seval, ab_, aa_, av_, at_, ac_] <;> (rw [hG hJ]; (try simp [b7_, ac_])))
theorem za_ (s : Str) (hs : s.length ≤ 281474976710656) : ACall En 15 [.s s] [] [.sl false (inR (mu_ s).1), .b (mu_ s).2] [] :=
 ACall.frz1 (wc_ s hs) (by simp [fu_, frz, ae_, T1_])
end
section
set_option maxRecDepth 100000
set_option maxHeartbeats 4000000
theorem sy_ {l : List Sl} {k : Nat} (hk : k < l.length) : k < (l.map ofS).length := by rw [List.length_map]; exact hk
theorem fi_ {l : List Sl} {k : Nat} (hk : k ≤ l.length) (h16 : l.length ≤ 16) : (bt_ ((l.map ofS).take k)).names.length = (bt_ ((l.map ofS).take k)).nums.length ∧ (bt_ ((l.map ofS).take k)).names.length ≤ 16 ∧ (bt_ ((l.map ofS).take k)).said.length ≤ 16 := gs_ (by rw [List.length_map]; exact hk) (by rw [List.length_map]; exact h16)
theorem ki_ {l : List Sl} {k : Nat} (hk : k < l.length) (h : (l.getD k S0).kind = 0) : bt_ ((l.map ofS).take (k + 1)) = bt_ ((l.map ofS).take k) := jv_ (sy_ hk) (by rw [ee_ hk]; exact h)
theorem na_ {l : List Sl} {k : Nat} (hk : k < l.length) (h : (bt_ ((l.map ofS).take k)).ok = true) (h1 : (l.getD k S0).kind = 1) (h2 : (ed_ (ofS (l.getD k S0)) (bt_ ((l.map ofS).take k)).names (bt_ ((l.map ofS).take k)).nums).2.2 = true) :
  bt_ ((l.map ofS).take (k + 1)) = { bt_ ((l.map ofS).take k) with names := (bt_ ((l.map ofS).take k)).names ++ [(l.getD k S0).name], nums := (bt_ ((l.map ofS).take k)).nums ++ [(rk (l.getD k S0).expr (bt_ ((l.map ofS).take k)).names (bt_ ((l.map ofS).take k)).nums).1] } := by
 have := ld_ (sy_ hk) h (by rw [ee_ hk]; exact h1) (by rw [ee_ hk]; exact h2)
 rw [ee_ hk] at this; exact this
theorem mv_ {l : List Sl} {k : Nat} (hk : k < l.length) (h : (bt_ ((l.map ofS).take k)).ok = true) (h0 : ¬ (l.getD k S0).kind = 0) (h1 : ¬ (l.getD k S0).kind = 1) (h2 : (ed_ (ofS (l.getD k S0)) (bt_ ((l.map ofS).take k)).names (bt_ ((l.map ofS).take k)).nums).2.2 = true) (h3 : (l.getD k S0).kind = 2 ∨ ¬ (rk (l.getD k S0).expr (bt_ ((l.map ofS).take k)).names (bt_ ((l.map ofS).take k)).nums).1 = 0) :
  bt_ ((l.map ofS).take (k + 1)) = { bt_ ((l.map ofS).take k) with said := (bt_ ((l.map ofS).take k)).said ++ [(ed_ (ofS (l.getD k S0)) (bt_ ((l.map ofS).take k)).names (bt_ ((l.map ofS).take k)).nums).2.1] } := by
 have := l1_ (sy_ hk) h (by rw [ee_ hk]; exact h0) (by rw [ee_ hk]; exact h1) (by rw [ee_ hk]; exact h2) (by rw [ee_ hk]; exact h3)
 rw [ee_ hk] at this; exact this
theorem kg_ {l : List Sl} {k : Nat} (hk : k < l.length) (h : (bt_ ((l.map ofS).take k)).ok = true) (h0 : ¬ (l.getD k S0).kind = 0) (h1 : ¬ (l.getD k S0).kind = 1) (h2 : (ed_ (ofS (l.getD k S0)) (bt_ ((l.map ofS).take k)).names (bt_ ((l.map ofS).take k)).nums).2.2 = true) (h3 : ¬ (l.getD k S0).kind = 2) (h4 : (rk (l.getD k S0).expr (bt_ ((l.map ofS).take k)).names (bt_ ((l.map ofS).take k)).nums).1 = 0) :
  bt_ ((l.map ofS).take (k + 1)) = bt_ ((l.map ofS).take k) := jt_ (sy_ hk) h (by rw [ee_ hk]; exact h0) (by rw [ee_ hk]; exact h1) (by rw [ee_ hk]; exact h2) (by rw [ee_ hk]; exact h3) (by rw [ee_ hk]; exact h4)
theorem u3_ (l : List Sl) (hs : vz_ l = true) (hl : l.length < 4611686018427387904) : ACall En 17 [.sl false (sR l)] [] [.ow 0 1 0 (i0_ l).1.length, .b (i0_ l).2] [⟨3, 1, inR (i0_ l).1⟩] := by
 have F1 : ∀ k, pok l = true → k < l.length → ¬ (l.getD k S0).kind = 0 → form (l.getD k S0).expr ((5 : Nat) : Int) = true := fun k h hk hk0 => bq_ (xg_ ((er_ h).2.2 k hk) hk0)
 have F2 : ∀ k, pok l = true → k < l.length → (l.getD k S0).kind = 3 → form (l.getD k S0).thn ((5 : Nat) : Int) = true := fun k h hk hk0 => bq_ (aaw_ ((er_ h).2.2 k hk) hk0)
 refine aj_ (fn := Tryz.f17) [22] Tryz.func17 rfl rfl (by simp) fun C => ?_
 rw [ay_]
 simp only [Tryz.ntmps17, T7_, List.length_nil, Nat.reduceAdd, Nat.reduceSub, List.replicate_succ, List.replicate_zero, List.cons_append, List.nil_append, bu_]
 refine .seq (.rgn [] (by simp only [go_sem, seval, a3_, au_, ae_, ac_, ag_]; rfl) ?_ ?_)
 ·first | trivial | simp
 refine .seq (.seq (.rgn [a8_ (abm_ l hs hl)] (by simp only [go_sem, seval, a3_, au_, ae_, ac_, ag_]; rfl) ?_ ?_))
 ·first | trivial | simp
 refine .condB (by simp only [go_sem, seval, a3_, au_, ae_, ac_, ag_]; rfl) (by simp only [go_sem, seval, a3_, au_, ae_, ac_, ag_]) (fun h14 => ?_) (fun h14 => ?_)
 ·refine .seq (.rgn [] (by simp only [go_sem, seval, a3_, au_, ae_, ac_, ag_]; rfl) ?_ ?_)
  ·first | trivial | simp
  refine .can (Can.ownSlot 2 22 3 1 (by simp only [go_sem, seval, a3_, au_, ae_, ac_, ag_] <;> rfl) (by simp only [go_sem, seval, a3_, au_, ae_, ac_, ag_]) (by simp only [go_sem, seval, a3_, au_, ae_, ac_, ag_] <;> rfl)) ?_
  refine .ret ⟨.inr rfl, ?_⟩
  exact Out.mem' (by simp only [Tryz.results17]; rfl) (by simp only [az_, bc_, go_sem, seval, a3_, au_, ae_, ac_, ag_]) (by simp only [bb_, rns, rn, go_sem, seval, a3_, au_, ae_, ac_, ag_] <;> (rw [v1_ (by simpa using h14)]; try simp)) (by simp) rfl (by decide) (by simp only [go_sem, seval, a3_, au_, ae_, ac_, ag_]) (by simp only [ao_, go_sem, seval, a3_, au_, ae_, ac_, ag_]) (by simp only [ai_, go_sem, seval, a3_, au_, ae_, ac_, ag_] <;> (rw [v1_ (by simpa using h14)]; simp [inR]))
 ·refine .skip (.seq (.rgn [] (by simp only [go_sem, seval, a3_, au_, ae_, ac_, ag_]; rfl) ?_ ?_))
  ·first | trivial | simp
  refine .seq (.rgn [] (by simp only [go_sem, seval, a3_, au_, ae_, ac_, ag_]; rfl) ?_ ?_)
  ·first | trivial | simp
  refine .seq (.seq (.rgn [] (by simp only [go_sem, seval, a3_, au_, ae_, ac_, ag_]; rfl) ?_ ?_))
  ·first | trivial | simp
  refine .block (.loopK (fun k : Nat => ⟨[.no, .no, .no, .no, .ow 20 1 0 (bt_ ((l.map ofS).take k)).names.length, .ow 21 1 0 (bt_ ((l.map ofS).take k)).nums.length, .ow 22 1 0 (bt_ ((l.map ofS).take k)).said.length, .no, .no, .no, .no, .no, .no, .no, .no, .sl false (sR l), .i .i64 l.length, .i .i64 k, .no, .no, .no, .no, .no, .no, .no, .no, .no, .no, .no, .no, .no, .no, .no, .no, .no, .no, .no, .no, .no, .no, .no, .no, .no, .no, .no, .no, .no, .no, .no, .no, .no, .no, .no, .no, .no, .no, .no, .no, .no, .no, .no, .no, .no, .no, .no, .no, .no, .no, .no, .no, .no, .no, .no, .no, .no, .no, .no, .no, .no, .no], bh_ [(20, ⟨9, 1, bo_ (bt_ ((l.map ofS).take k)).names⟩), (21, ⟨3, 1, inR (bt_ ((l.map ofS).take k)).nums⟩), (22, ⟨3, 1, inR (bt_ ((l.map ofS).take k)).said⟩)], us [20, 21, 22]⟩) (fun k : Nat => k ≤ l.length ∧ (bt_ ((l.map ofS).take k)).ok = true ∧ pok l = true) (fun k : Nat => l.length - k) (0) ?_ ?_ (fun k hI => ?_))
  ·exact ⟨Nat.zero_le _, by simp [bt_], by simpa using h14⟩
  ·refine Can.trans (Can.ownSlot 4 20 9 1 (by simp only [go_sem, seval, a3_, au_, ae_, ac_, ag_] <;> rfl) (by simp only [go_sem, seval, a3_, au_, ae_, ac_, ag_]) (by simp only [go_sem, seval, a3_, au_, ae_, ac_, ag_] <;> rfl)) ?_
   refine Can.trans (Can.ownSlot 5 21 3 1 (by simp only [go_sem, seval, a3_, au_, ae_, ac_, ag_] <;> rfl) (by simp only [go_sem, seval, a3_, au_, ae_, ac_, ag_]) (by simp only [go_sem, seval, a3_, au_, ae_, ac_, ag_] <;> rfl)) ?_
   refine Can.trans (Can.ownSlot 6 22 3 1 (by simp only [go_sem, seval, a3_, au_, ae_, ac_, ag_] <;> rfl) (by simp only [go_sem, seval, a3_, au_, ae_, ac_, ag_]) (by simp only [go_sem, seval, a3_, au_, ae_, ac_, ag_] <;> rfl)) ?_
   exact Can.weak (Weak.lit (by simp only [go_sem, seval, a3_, au_, ae_, ac_, ag_, ar_, leV, ap_, aq_, V.inn, us, T9_, Ta_] <;> (simp [bt_])) (by simp only [go_sem, seval, a3_, au_, ae_, ac_, ag_, ar_, leV, ap_, aq_, V.inn, us, T9_, Ta_]) (by simp only [go_sem, seval, a3_, au_, ae_, ac_, ag_, ar_, leV, ap_, aq_, V.inn, us, T9_, Ta_] <;> (simp [bt_, bo_, inR])))
  refine .seq (.rgn [] (by simp only [go_sem, seval, a3_, au_, ae_, ac_, ag_]; rfl) ?_ ?_)
  ·first | trivial | simp
  refine .seq (.condB (by simp only [go_sem, seval, a3_, au_, ae_, ac_, ag_]; rfl) (by simp only [go_sem, seval, a3_, au_, ae_, ac_, ag_]) (fun h18 => ?_) (fun h18 => ?_))
  ·refine .skip (.seq (.block (.seq (.rgn [] (by simp only [go_sem, seval, a3_, au_, ae_, ac_, ag_, ae8_ (show k < l.length by simpa using h18), ag_]; rfl) ?_ ?_))))
   ·simp at h18; simp; omega
   refine .seq (.seq (.rgn [] (by simp only [go_sem, seval, a3_, au_, ae_, ac_, ag_]; rfl) ?_ ?_))
   ·first | trivial | simp
   refine .condB (by simp only [go_sem, seval, a3_, au_, ae_, ac_, ag_]; rfl) (by simp only [go_sem, seval, a3_, au_, ae_, ac_, ag_]) (fun h23 => ?_) (fun h23 => ?_)
   ·refine .exit (.rgn [] (by simp only [go_sem, seval, a3_, au_, ae_, ac_, ag_]; rfl) ?_ ?_)
    ·first | trivial | simp
    refine Exists.intro (k + 1) ⟨?_, ?_, ?_⟩
    ·have hk : k < l.length := (by simpa using h18); have e := ki_ hk (by simpa using h23); exact ⟨by omega, by rw [e]; exact hI.2.1, hI.2.2⟩
    ·simp at h18; omega
    exact Can.weak (Weak.lit (by simp only [go_sem, seval, a3_, au_, ae_, ac_, ag_, ar_, leV, ap_, aq_, V.inn, us, T9_, Ta_] <;> ((have hk : k < l.length := (by simpa using h18)); (have e := ki_ hk (by simpa using h23)); rw [e, bi_ (by omega) (by omega)]; simp)) (by simp only [go_sem, seval, a3_, au_, ae_, ac_, ag_, ar_, leV, ap_, aq_, V.inn, us, T9_, Ta_]) (by simp only [go_sem, seval, a3_, au_, ae_, ac_, ag_, ar_, leV, ap_, aq_, V.inn, us, T9_, Ta_] <;> ((have hk : k < l.length := (by simpa using h18)); (have e := ki_ hk (by simpa using h23)); rw [e]; simp)))
   ·refine .skip (.seq (.rgn [rw_ (k3_ 5 (l.getD k S0).expr (bt_ ((l.map ofS).take k)).names (bt_ ((l.map ofS).take k)).nums (F1 k hI.2.2 (by simpa using h18) (by simpa using h23)) (fi_ hI.1 (er_ hI.2.2).2.1).1 (by have := (fi_ hI.1 (er_ hI.2.2).2.1).2.1; omega))] (by simp only [go_sem, seval, a3_, au_, ae_, ac_, ag_]; rfl) ?_ ?_))
    ·(first | (simp [T1_, ab_, ae_, be_]; done))
    refine .seq (.rgn [] (by simp only [go_sem, seval, a3_, au_, ae_, ac_, ag_]; rfl) ?_ ?_)
    ·first | trivial | simp
    refine .seqJ (fun q : Int × Bool => ⟨[.no, .no, .no, .no, .ow 20 1 0 (bt_ ((l.map ofS).take k)).names.length, .ow 21 1 0 (bt_ ((l.map ofS).take k)).nums.length, .ow 22 1 0 (bt_ ((l.map ofS).take k)).said.length, .no, .pt 18 11 0 0, .i .i64 (rk (l.getD k S0).expr (bt_ ((l.map ofS).take k)).names (bt_ ((l.map ofS).take k)).nums).1, .b q.2, .i .i64 q.1, .no, .no, .no, .sl false (sR l), .i .i64 l.length, .i .i64 k, .no, .no, .no, .no, .no, .no, .no, .no, .no, .no, .no, .no, .no, .no, .no, .no, .no, .no, .no, .no, .no, .no, .no, .no, .no, .no, .no, .no, .no, .no, .no, .no, .no, .no, .no, .no, .no, .no, .no, .no, .no, .no, .no, .no, .no, .no, .no, .no, .no, .no, .no, .no, .no, .no, .no, .no, .no, .no, .no, .no, .no, .no], bh_ [(18, ⟨35, 11, [sC (l.getD k S0)]⟩), (20, ⟨9, 1, bo_ (bt_ ((l.map ofS).take k)).names⟩), (21, ⟨3, 1, inR (bt_ ((l.map ofS).take k)).nums⟩), (22, ⟨3, 1, inR (bt_ ((l.map ofS).take k)).said⟩)], us [20, 21, 22, 18]⟩) (fun q : Int × Bool => q = ((ed_ (ofS (l.getD k S0)) (bt_ ((l.map ofS).take k)).names (bt_ ((l.map ofS).take k)).nums).2.1, (ed_ (ofS (l.getD k S0)) (bt_ ((l.map ofS).take k)).names (bt_ ((l.map ofS).take k)).nums).2.2)) ?_ (fun q hJ => ?_)
    ·refine .seq (.rgn [] (by simp only [go_sem, seval, a3_, au_, ae_, ac_, ag_]; rfl) ?_ ?_)
     ·first | trivial | simp
     refine .condB (by simp only [go_sem, seval, a3_, au_, ae_, ac_, ag_]; rfl) (by simp only [go_sem, seval, a3_, au_, ae_, ac_, ag_]) (fun h38 => ?_) (fun h38 => ?_)
     ·refine .rgn [rw_ (k3_ 5 (l.getD k S0).thn (bt_ ((l.map ofS).take k)).names (bt_ ((l.map ofS).take k)).nums (F2 k hI.2.2 (by simpa using h18) (by simp at h38; exact h38.2)) (fi_ hI.1 (er_ hI.2.2).2.1).1 (by have := (fi_ hI.1 (er_ hI.2.2).2.1).2.1; omega))] (by simp only [go_sem, seval, a3_, au_, ae_, ac_, ag_]; rfl) ?_ ?_
      ·(first | (simp [T1_, ab_, ae_, be_]; done))
      refine Exists.intro (((rk (l.getD k S0).thn (bt_ ((l.map ofS).take k)).names (bt_ ((l.map ofS).take k)).nums).1, (rk (l.getD k S0).thn (bt_ ((l.map ofS).take k)).names (bt_ ((l.map ofS).take k)).nums).2)) ⟨?_, ?_⟩
      ·unfold ed_; first | (rw [if_pos (by simp at h38 ⊢; exact h38)]; done) | (rw [if_neg (by simp at h38 ⊢; exact h38)]; done)
      exact Can.weak (Weak.lit (by simp only [go_sem, seval, a3_, au_, ae_, ac_, ag_, ar_, leV, ap_, aq_, V.inn, us, T9_, Ta_]) (by simp only [go_sem, seval, a3_, au_, ae_, ac_, ag_, ar_, leV, ap_, aq_, V.inn, us, T9_, Ta_]) (by simp only [go_sem, seval, a3_, au_, ae_, ac_, ag_, ar_, leV, ap_, aq_, V.inn, us, T9_, Ta_]))
     ·refine .skip ?_
      refine Exists.intro (((rk (l.getD k S0).expr (bt_ ((l.map ofS).take k)).names (bt_ ((l.map ofS).take k)).nums).1, (rk (l.getD k S0).expr (bt_ ((l.map ofS).take k)).names (bt_ ((l.map ofS).take k)).nums).2)) ⟨?_, ?_⟩
      ·unfold ed_; first | (rw [if_pos (by simp at h38 ⊢; exact h38)]; done) | (rw [if_neg (by simp at h38 ⊢; exact h38)]; done)
      exact Can.weak (Weak.lit (by simp only [go_sem, seval, a3_, au_, ae_, ac_, ag_, ar_, leV, ap_, aq_, V.inn, us, T9_, Ta_]) (by simp only [go_sem, seval, a3_, au_, ae_, ac_, ag_, ar_, leV, ap_, aq_, V.inn, us, T9_, Ta_]) (by simp only [go_sem, seval, a3_, au_, ae_, ac_, ag_, ar_, leV, ap_, aq_, V.inn, us, T9_, Ta_]))
    refine .block (.seq (.rgn [] (by simp only [go_sem, seval, a3_, au_, ae_, ac_, ag_]; rfl) ?_ ?_))
    ·first | trivial | simp
    refine .condB (by simp only [go_sem, seval, a3_, au_, ae_, ac_, ag_]; rfl) (by simp only [go_sem, seval, a3_, au_, ae_, ac_, ag_]) (fun h47 => ?_) (fun h47 => ?_)
    ·refine .seq (.rgn [bx_ [22] [] (j4_ (bt_ ((l.map ofS).take k)).said (bt_ ((l.map ofS).take k)).said.length rfl (by have := (fi_ hI.1 (er_ hI.2.2).2.1).2.2; omega))] (by simp only [go_sem, seval, a3_, au_, ae_, ac_, ag_]; rfl) ?_ ?_)
     ·first | trivial | simp
     refine .ret ⟨.inr rfl, ?_⟩
     exact Out.mem' (by simp only [Tryz.results17]; rfl) (by simp only [az_, bc_, go_sem, seval, a3_, au_, ae_, ac_, ag_]) (by simp only [bb_, rns, rn, go_sem, seval, a3_, au_, ae_, ac_, ag_] <;> (rw [sa_ hI.2.2 (by simpa using h18) hI.2.1 (by simpa using h23) (by rw [hJ] at h47; simpa using h47)]; try simp)) (by simp) rfl (by decide) (by simp only [go_sem, seval, a3_, au_, ae_, ac_, ag_]) (by simp only [ao_, go_sem, seval, a3_, au_, ae_, ac_, ag_]) (by simp only [ai_, go_sem, seval, a3_, au_, ae_, ac_, ag_] <;> (rw [sa_ hI.2.2 (by simpa using h18) hI.2.1 (by simpa using h23) (by rw [hJ] at h47; simpa using h47)]; (try simp [b7_, ac_])))
    ·refine .seq (.rgn [] (by simp only [go_sem, seval, a3_, au_, ae_, ac_, ag_]; rfl) ?_ ?_)
     ·first | trivial | simp
     refine .condB (by simp only [go_sem, seval, a3_, au_, ae_, ac_, ag_]; rfl) (by simp only [go_sem, seval, a3_, au_, ae_, ac_, ag_]) (fun h52 => ?_) (fun h52 => ?_)
     ·refine .rgn [] (by simp only [go_sem, seval, a3_, au_, ae_, ac_, ag_]; rfl) ?_ ?_
      ·have := fi_ hI.1 (er_ hI.2.2).2.1; simp; omega
      refine .rgn [] (by simp only [go_sem, seval, a3_, au_, ae_, ac_, ag_]; rfl) ?_ ?_
      ·first | trivial | simp
      refine Exists.intro (k + 1) ⟨?_, ?_, ?_⟩
      ·have hk : k < l.length := (by simpa using h18); have e := na_ hk hI.2.1 (by simpa using h52) (by rw [hJ] at h47; simpa using h47); exact ⟨by omega, by rw [e]; exact hI.2.1, hI.2.2⟩
      ·simp at h18; omega
      refine Can.trans (Can.swap 70 20 (by decide) (by decide) (by decide) (by decide) (by simp only [go_sem, seval, a3_, au_, ae_, ac_, ag_, V.cl]) (by simp only [go_sem, seval, a3_, au_, ae_, ac_, ag_, V.cl]) (by simp only [go_sem, seval, a3_, au_, ae_, ac_, ag_, bj_, sw, swM, rnB] <;> rfl) (by simp only [go_sem, seval, a3_, au_, ae_, ac_, ag_, bj_, sw, swM, rnB] <;> rfl) (by simp only [go_sem, seval, a3_, au_, ae_, ac_, ag_, bj_, sw, swM, rnB] <;> rfl)) ?_
      refine Can.trans (Can.swap 74 21 (by decide) (by decide) (by decide) (by decide) (by simp only [go_sem, seval, a3_, au_, ae_, ac_, ag_, V.cl]) (by simp only [go_sem, seval, a3_, au_, ae_, ac_, ag_, V.cl]) (by simp only [go_sem, seval, a3_, au_, ae_, ac_, ag_, bj_, sw, swM, rnB] <;> rfl) (by simp only [go_sem, seval, a3_, au_, ae_, ac_, ag_, bj_, sw, swM, rnB] <;> rfl) (by simp only [go_sem, seval, a3_, au_, ae_, ac_, ag_, bj_, sw, swM, rnB] <;> rfl)) ?_
      exact Can.weak (Weak.lit (by simp only [go_sem, seval, a3_, au_, ae_, ac_, ag_, ar_, leV, ap_, aq_, V.inn, us, T9_, Ta_] <;> ((have hk : k < l.length := (by simpa using h18)); (have e := na_ hk hI.2.1 (by simpa using h52) (by rw [hJ] at h47; simpa using h47)); rw [e, bi_ (by omega) (by omega)]; simp)) (by simp only [go_sem, seval, a3_, au_, ae_, ac_, ag_, ar_, leV, ap_, aq_, V.inn, us, T9_, Ta_]) (by simp only [go_sem, seval, a3_, au_, ae_, ac_, ag_, ar_, leV, ap_, aq_, V.inn, us, T9_, Ta_] <;> ((have hk : k < l.length := (by simpa using h18)); (have e := na_ hk hI.2.1 (by simpa using h52) (by rw [hJ] at h47; simpa using h47)); rw [e]; simp [qq_, jx_])))
     ·refine .seq (.rgn [] (by simp only [go_sem, seval, a3_, au_, ae_, ac_, ag_]; rfl) ?_ ?_)
      ·first | trivial | simp
      refine .condB (by simp only [go_sem, seval, a3_, au_, ae_, ac_, ag_]; rfl) (by simp only [go_sem, seval, a3_, au_, ae_, ac_, ag_]) (fun h65 => ?_) (fun h65 => ?_)
      ·refine .rgn [] (by simp only [go_sem, seval, a3_, au_, ae_, ac_, ag_]; rfl) ?_ ?_
       ·have := fi_ hI.1 (er_ hI.2.2).2.1; simp; omega
       refine .rgn [] (by simp only [go_sem, seval, a3_, au_, ae_, ac_, ag_]; rfl) ?_ ?_
       ·first | trivial | simp
       refine Exists.intro (k + 1) ⟨?_, ?_, ?_⟩
       ·have hk : k < l.length := (by simpa using h18); have e := mv_ hk hI.2.1 (by simpa using h23) (by simpa using h52) (by rw [hJ] at h47; simpa using h47) (by simp at h65; exact h65); exact ⟨by omega, by rw [e]; exact hI.2.1, hI.2.2⟩
       ·simp at h18; omega
       refine Can.trans (Can.swap 86 22 (by decide) (by decide) (by decide) (by decide) (by simp only [go_sem, seval, a3_, au_, ae_, ac_, ag_, V.cl]) (by simp only [go_sem, seval, a3_, au_, ae_, ac_, ag_, V.cl]) (by simp only [go_sem, seval, a3_, au_, ae_, ac_, ag_, bj_, sw, swM, rnB] <;> rfl) (by simp only [go_sem, seval, a3_, au_, ae_, ac_, ag_, bj_, sw, swM, rnB] <;> rfl) (by simp only [go_sem, seval, a3_, au_, ae_, ac_, ag_, bj_, sw, swM, rnB] <;> rfl)) ?_
       exact Can.weak (Weak.lit (by simp only [go_sem, seval, a3_, au_, ae_, ac_, ag_, ar_, leV, ap_, aq_, V.inn, us, T9_, Ta_] <;> ((have hk : k < l.length := (by simpa using h18)); (have e := mv_ hk hI.2.1 (by simpa using h23) (by simpa using h52) (by rw [hJ] at h47; simpa using h47) (by simp at h65; exact h65)); rw [e, bi_ (by omega) (by omega)]; simp)) (by simp only [go_sem, seval, a3_, au_, ae_, ac_, ag_, ar_, leV, ap_, aq_, V.inn, us, T9_, Ta_]) (by simp only [go_sem, seval, a3_, au_, ae_, ac_, ag_, ar_, leV, ap_, aq_, V.inn, us, T9_, Ta_] <;> ((have hk : k < l.length := (by simpa using h18)); (have e := mv_ hk hI.2.1 (by simpa using h23) (by simpa using h52) (by rw [hJ] at h47; simpa using h47) (by simp at h65; exact h65)); rw [e]; simp [jx_, hJ])))
      ·refine .skip (.rgn [] (by simp only [go_sem, seval, a3_, au_, ae_, ac_, ag_]; rfl) ?_ ?_)
       ·first | trivial | simp
       refine Exists.intro (k + 1) ⟨?_, ?_, ?_⟩
       ·have hk : k < l.length := (by simpa using h18); have e := kg_ hk hI.2.1 (by simpa using h23) (by simpa using h52) (by rw [hJ] at h47; simpa using h47) (by simp at h65; exact h65.1) (by simp at h65; exact h65.2); exact ⟨by omega, by rw [e]; exact hI.2.1, hI.2.2⟩
       ·simp at h18; omega
       exact Can.weak (Weak.lit (by simp only [go_sem, seval, a3_, au_, ae_, ac_, ag_, ar_, leV, ap_, aq_, V.inn, us, T9_, Ta_] <;> ((have hk : k < l.length := (by simpa using h18)); (have e := kg_ hk hI.2.1 (by simpa using h23) (by simpa using h52) (by rw [hJ] at h47; simpa using h47) (by simp at h65; exact h65.1) (by simp at h65; exact h65.2)); rw [e, bi_ (by omega) (by omega)]; simp)) (by simp only [go_sem, seval, a3_, au_, ae_, ac_, ag_, ar_, leV, ap_, aq_, V.inn, us, T9_, Ta_]) (by simp only [go_sem, seval, a3_, au_, ae_, ac_, ag_, ar_, leV, ap_, aq_, V.inn, us, T9_, Ta_] <;> ((have hk : k < l.length := (by simpa using h18)); (have e := kg_ hk hI.2.1 (by simpa using h23) (by simpa using h52) (by rw [hJ] at h47; simpa using h47) (by simp at h65; exact h65.1) (by simp at h65; exact h65.2)); rw [e]; simp)))
  ·refine .exit (.seq (.rgn [bx_ [22] [] (j4_ (bt_ ((l.map ofS).take k)).said (bt_ ((l.map ofS).take k)).said.length rfl (by have := (fi_ hI.1 (er_ hI.2.2).2.1).2.2; omega))] (by simp only [go_sem, seval, a3_, au_, ae_, ac_, ag_]; rfl) ?_ ?_))
   ·first | trivial | simp
   refine .ret ⟨.inr rfl, ?_⟩
   exact Out.mem' (by simp only [Tryz.results17]; rfl) (by simp only [az_, bc_, go_sem, seval, a3_, au_, ae_, ac_, ag_]) (by simp only [bb_, rns, rn, go_sem, seval, a3_, au_, ae_, ac_, ag_] <;> (rw [vq_ hI.2.2 (by simpa using h18) hI.2.1]; try simp)) (by simp) rfl (by decide) (by simp only [go_sem, seval, a3_, au_, ae_, ac_, ag_]) (by simp only [ao_, go_sem, seval, a3_, au_, ae_, ac_, ag_]) (by simp only [ai_, go_sem, seval, a3_, au_, ae_, ac_, ag_] <;> (rw [vq_ hI.2.2 (by simpa using h18) hI.2.1]; (try simp [b7_, ac_])))
theorem yi_ (l : List Sl) (hs : vz_ l = true) (hl : l.length < 4611686018427387904) : ACall En 17 [.sl false (sR l)] [] [.sl false (inR (i0_ l).1), .b (i0_ l).2] [] :=
 ACall.frz1 (u3_ l hs hl) (by simp [fu_, frz, ae_, T1_])
end
end Go.Proofs.YtcigkafioinfoaaGreatDoor
