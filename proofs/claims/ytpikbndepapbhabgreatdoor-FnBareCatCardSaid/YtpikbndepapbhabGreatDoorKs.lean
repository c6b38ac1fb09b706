/- What is drawn: programs, and lists of lines without types. Conditions: none. -/
import Derived.Test.YtpikbndepapbhabGreatDoorKb
import Derived.Test.YtpikbndepapbhabGreatDoorKr
set_option linter.unusedVariables false
set_option linter.unusedSimpArgs false
namespace Go.Proofs.YtpikbndepapbhabGreatDoor
section
set_option maxRecDepth 100000
set_option maxHeartbeats 4000000
def vp_ (b : Str) (p : Int) (i : Nat) : Sl := ⟨1, ([[120], [121], [122]] : List Str).getD i [], wInt, .mk 1 (b0_ b (p + i) 9) [] [], E0⟩
def hg_ (b : Str) (p : Int) (k : Nat) : List Sl := (List.range k).map (vp_ b p)
theorem n8_ (b : Str) (p : Int) (k : Nat) : hg_ b p (k + 1) = hg_ b p k ++ [vp_ b p k] := by simp [hg_, List.range_succ]
theorem i0_ (b : Str) (p : Int) (k : Nat) : (hg_ b p k).length = k := by simp [hg_]
def dj_ (b : Str) : Nat → Int → List Sl × Int
 | 0, p => ([], p)
 | n + 1, p => ((dj_ b n p).1 ++ [(b8_ b (dj_ b n p).2).1], (b8_ b (dj_ b n p).2).2)
def okS (s : Sl) : Bool := lb_ s && wf s.expr && wf s.thn
theorem id_ (b : Str) {p : Int} (hp : 0 ≤ p) (hp2 : p < 1000000) : ∀ n : Nat, n ≤ 1000 → p ≤ (dj_ b n p).2 ∧ (dj_ b n p).2 ≤ p + 300 * n ∧ (dj_ b n p).1.length = n ∧ (dj_ b n p).1.all okS = true
 | 0, _ => by simp [dj_]
 | n + 1, h => by
  obtain ⟨h1, h2, h3, h4⟩ := id_ b hp hp2 n (by omega)
  obtain ⟨q1, q2, q3, q4, q5, _⟩ := kg_ b (p := (dj_ b n p).2) (by omega) (by omega)
  simp only [dj_, T2_, List.length_singleton, List.all_append, List.all_cons, List.all_nil, h4, okS, q3, q4, q5, Bool.and_self, Bool.and_true]
  refine ⟨by omega, by omega, by omega, trivial⟩
theorem afq_ (b : Str) {p : Int} (hp : 0 ≤ p) (hp2 : p < 1000000) (i : Nat) (hi : i < 3) : okS (vp_ b p i) = true := by
 have hk : i = 0 ∨ i = 1 ∨ i = 2 := by omega
 rcases hk with rfl | rfl | rfl <;> simp [okS, vp_, lb_, sm, sms, wf, wfs, wInt, E0]
theorem ta_ (b : Str) {p : Int} (hp : 0 ≤ p) (hp2 : p < 1000000) : ∀ k, k ≤ 3 → (hg_ b p k).all okS = true
 | 0, _ => rfl
 | k + 1, h => by rw [n8_, List.all_append, ta_ b hp hp2 k (by omega)]; simp [afq_ b hp hp2 k (by omega)]
def dPa (b : Str) (p : Int) : List Sl × Int := if 0 < b0_ b p 4 then (hg_ b (p + 1) 3, p + 4) else ([], p + 1)
def dPn (b : Str) (p : Int) : Nat := (1 + b0_ b (dPa b p).2 6).toNat
def cv_ (b : Str) (p : Int) : List Sl × Int := ((dPa b p).1 ++ (dj_ b (dPn b p) ((dPa b p).2 + 1)).1, (dj_ b (dPn b p) ((dPa b p).2 + 1)).2)
theorem adv_ (b : Str) {p : Int} (hp : 0 ≤ p) (hp2 : p < 100000) : p ≤ (dPa b p).2 ∧ (dPa b p).2 ≤ p + 4 ∧ (dPa b p).1.length ≤ 3 ∧ (dPa b p).1.all okS = true := by
 unfold dPa; split
 ·exact ⟨by dsimp only; omega, by dsimp only; omega, by simp [i0_], ta_ b (by omega) (by omega) 3 (by omega)⟩
 ·exact ⟨by dsimp only; omega, by dsimp only; omega, by simp, rfl⟩
theorem abt_ (b : Str) {p : Int} (hp : 0 ≤ p) (hp2 : p < 100000) : 1 ≤ dPn b p ∧ dPn b p ≤ 6 ∧ (dPn b p : Int) = 1 + b0_ b (dPa b p).2 6 := by
 have h := adv_ b hp hp2
 have := ev_ b (p := (dPa b p).2) (n := 6) (by omega) (by omega) (by omega)
 unfold dPn; omega
theorem is_ (b : Str) {p : Int} (hp : 0 ≤ p) (hp2 : p < 100000) : p ≤ (cv_ b p).2 ∧ (cv_ b p).2 ≤ p + 2000 ∧ (cv_ b p).1.length ≤ 9 ∧ 1 ≤ (cv_ b p).1.length ∧ (cv_ b p).1.all okS = true := by
 obtain ⟨h1, h2, h3, h4⟩ := adv_ b hp hp2
 obtain ⟨n1, n2, n3⟩ := abt_ b hp hp2
 obtain ⟨q1, q2, q3, q4⟩ := id_ b (p := (dPa b p).2 + 1) (by omega) (by omega) (dPn b p) (by omega)
 unfold cv_
 exact ⟨by dsimp only; omega, by dsimp only; omega, by simp only [T2_]; omega, by simp only [T2_]; omega, by simp only [List.all_append, h4, q4, Bool.and_self]⟩
theorem t1_ {s : Sl} (h : okS s = true) : lb_ s = true ∧ wf s.expr = true ∧ wf s.thn = true := by
 simp only [okS, T5_] at h; exact ⟨h.1.1, h.1.2, h.2⟩
theorem aeo_ {k : Nat} (h : k < 3) : ([[V.s [120]], [V.s [121]], [V.s [122]]] : List (List V)).getD k [] = [.s (([[120], [121], [122]] : List Str).getD k [])] := by
 have hk : k = 0 ∨ k = 1 ∨ k = 2 := by omega
 rcases hk with rfl | rfl | rfl <;> rfl
theorem aft_ (b : Str) (p : Int) (k : Nat) : sC (vp_ b p k) = [.i .i64 1, .s (([[120], [121], [122]] : List Str).getD k []), .s wInt, .i .i64 1, .i .i64 (b0_ b (p + k) 9), .s [], .sl false [], .i .i64 0, .i .i64 0, .s [], .sl false []] := by
 rw [am_]; simp only [vp_, E.kind_mk, E.n_mk, E.s_mk, E.kids_mk, gz_, gx_, g0_, cy_, dn_]
theorem ad1_ (b : Str) (p : Int) (k : Nat) : sR (hg_ b p (k + 1)) = sR (hg_ b p k) ++ [sC (vp_ b p k)] := by rw [n8_, v4_]; rfl
theorem bg_ : ∀ (a : List (List V)) (r r' : List V), ler (a ++ [r]) (a ++ [r']) = les r r'
 | [], r, r' => by simp [ler]
 | x :: a, r, r' => by have := bg_ a r r'; simp [ler, ej_, this]
theorem be_ (b : Str) (p : Int) : ∀ n : Nat, (dj_ b n p).1.length = n
 | 0 => rfl
 | n + 1 => by simp [dj_, be_ b p n]
theorem ae0_ (s : Sl) : sR [s] = [sC s] := rfl
theorem t0_ (b : Str) (n : Nat) (p : Int) : dj_ b (n + 1) p = ((dj_ b n p).1 ++ [(b8_ b (dj_ b n p).2).1], (b8_ b (dj_ b n p).2).2) := rfl
theorem yr_ (b : Str) (p : Int) (hb : b.length ≤ 2000) (hp : 0 ≤ p) (hp2 : p < 100000) : ACall En 52 [.pt 0 2 0 0] [rdB b p] [.ow 1 11 0 (cv_ b p).1.length] [rdB b (cv_ b p).2, ⟨55, 11, sR (cv_ b p).1⟩] := by
 obtain ⟨h1, h2, h3, h4⟩ := adv_ b hp hp2
 obtain ⟨n1, n2, n3⟩ := abt_ b hp hp2
 have e1 : decide (b0_ b p 4 > 0) = true → dPa b p = (hg_ b (p + 1) 3, p + 4) := fun h => by unfold dPa; rw [if_pos (by simpa using h)]
 have e2 : decide (b0_ b p 4 > 0) = false → dPa b p = ([], p + 1) := fun h => by unfold dPa; rw [if_neg (by simpa using h)]
 have D := fun n (hn : n ≤ 6) => id_ b (p := (dPa b p).2 + 1) (by omega) (by omega) n (by omega)
 refine al_ (fn := Tryz.f52) [0, 60] Tryz.func52 rfl rfl (by simp) fun C => ?_
 rw [aw_]
 simp only [Tryz.ntmps52, T7_, List.length_nil, Nat.reduceAdd, Nat.reduceSub, List.replicate_succ, List.replicate_zero, List.cons_append, List.nil_append, bo_]
 refine .seq (.rgn [] (by simp only [go_sem, seval, bg_, T2_, be_, ah_, an_, az_, ak_, am_, aj_, ag_]; rfl) ?_ ?_)
 ·first | trivial | simp
 refine .seq (.rgn [] (by simp only [go_sem, seval, bg_, T2_, be_, ah_, an_, az_, ak_, am_, aj_, ag_]; rfl) ?_ ?_)
 ·first | trivial | simp
 refine .seqJ (fun u : Unit => ⟨[.pt 0 2 0 0, .no, .no, .ow 60 11 0 (dPa b p).1.length, .no, .no, .no, .no, .no, .no, .no, .no, .no, .no, .no, .no, .no, .no, .no, .no, .no, .no, .no, .no, .no, .no, .no, .no, .no, .no, .no, .no, .no, .no, .no, .no, .no, .no], bc_ [(0, rdB b (dPa b p).2), (60, ⟨55, 11, sR (dPa b p).1⟩)], us [60]⟩) (fun u : Unit => True) ?_ (fun u hJ => ?_)
 ·refine .seq (.rgn [bm_ [0] [] (di_ b p 4 hb hp (by omega))] (by simp only [go_sem, seval, bg_, T2_, be_, ah_, an_, az_, ak_, am_, aj_, ag_]; rfl) ?_ ?_)
  ·first | trivial | simp
  refine .condB (by simp only [go_sem, seval, bg_, T2_, be_, ah_, an_, az_, ak_, am_, aj_, ag_]; rfl) (by simp only [go_sem, seval, bg_, T2_, be_, ah_, an_, az_, ak_, am_, aj_, ag_]) (fun h9 => ?_) (fun h9 => ?_)
  ·refine .seq (.rgn [] (by simp only [go_sem, seval, bg_, T2_, be_, ah_, an_, az_, ak_, am_, aj_, ag_]; rfl) ?_ ?_)
   ·first | trivial | simp
   refine .block (.loopK (fun k : Nat => ⟨[.pt 0 2 0 0, .no, .no, .ow 60 11 0 k, .i .i64 k, .no, .no, .no, .no, .no, .no, .no, .no, .no, .no, .no, .no, .no, .no, .no, .no, .no, .no, .no, .no, .no, .no, .no, .no, .no, .no, .no, .no, .no, .no, .no, .no, .no], bc_ [(0, rdB b (p + 1 + k)), (60, ⟨55, 11, sR (hg_ b (p + 1) k)⟩)], us [60]⟩) (fun k : Nat => k ≤ 3) (fun k : Nat => 3 - k) (0) ?_ ?_ (fun k hI => ?_))
   ·simp
   ·refine Can.trans (Can.ownSlot 3 60 55 11 (by simp only [go_sem, seval, bg_, T2_, be_, ah_, an_, az_, ak_, am_, aj_, ag_] <;> rfl) (by simp only [go_sem, seval, bg_, T2_, be_, ah_, an_, az_, ak_, am_, aj_, ag_]) (by simp only [go_sem, seval, bg_, T2_, be_, ah_, an_, az_, ak_, am_, aj_, ag_] <;> rfl)) ?_
    exact Can.weak (Weak.lit (by simp only [go_sem, seval, bg_, T2_, be_, ah_, an_, az_, ak_, am_, aj_, ag_, aq_, leV, ao_, ap_, V.inn, us, T9_, Ta_] <;> (simp)) (by simp only [go_sem, seval, bg_, T2_, be_, ah_, an_, az_, ak_, am_, aj_, ag_, aq_, leV, ao_, ap_, V.inn, us, T9_, Ta_]) (by simp only [go_sem, seval, bg_, T2_, be_, ah_, an_, az_, ak_, am_, aj_, ag_, aq_, leV, ao_, ap_, V.inn, us, T9_, Ta_] <;> (simp [hg_, sR])))
   refine .seq (.seq (.rgn [] (by simp only [go_sem, seval, bg_, T2_, be_, ah_, an_, az_, ak_, am_, aj_, ag_]; rfl) ?_ ?_))
   ·first | trivial | simp
   refine .condB (by simp only [go_sem, seval, bg_, T2_, be_, ah_, an_, az_, ak_, am_, aj_, ag_]; rfl) (by simp only [go_sem, seval, bg_, T2_, be_, ah_, an_, az_, ak_, am_, aj_, ag_]) (fun h11 => ?_) (fun h11 => ?_)
   ·refine .skip (.seq (.block (.rgnD [bm_ [0] [] (di_ b (p + 1 + k) 9 hb (by omega) (by omega))] enM (by simp only [go_sem, seval, bg_, T2_, be_, ah_, an_, az_, ak_, am_, aj_, ag_, aeo_ (show k < 3 by simp at h11; omega)]; rfl) (by rfl) ?_ ?_)))
    ·simp only [T3_] at h11; simp [cm_, i0_]; omega
    refine .rgn [] (by simp only [go_sem, seval, bg_, T2_, be_, ah_, an_, az_, ak_, am_, aj_, ag_]; rfl) ?_ ?_
    ·first | trivial | simp
    refine Exists.intro (k + 1) ⟨?_, ?_, ?_⟩
    ·simp at h11; omega
    ·simp at h11; omega
    refine Can.trans (Can.swap 34 60 (by decide) (by decide) (by decide) (by decide) (by simp only [go_sem, seval, bg_, T2_, be_, ah_, an_, az_, ak_, am_, aj_, ag_, V.cl]) (by simp only [go_sem, seval, bg_, T2_, be_, ah_, an_, az_, ak_, am_, aj_, ag_, V.cl]) (by simp only [go_sem, seval, bg_, T2_, be_, ah_, an_, az_, ak_, am_, aj_, ag_, bf_, sw, swM, rnB] <;> rfl) (by simp only [go_sem, seval, bg_, T2_, be_, ah_, an_, az_, ak_, am_, aj_, ag_, bf_, sw, swM, rnB] <;> rfl) (by simp only [go_sem, seval, bg_, T2_, be_, ah_, an_, az_, ak_, am_, aj_, ag_, bf_, sw, swM, rnB] <;> rfl)) ?_
    refine Can.trans (Can.leAt 60 (sR (hg_ b (p + 1) k) ++ [[.i .i64 1, .s (([[120], [121], [122]] : List Str).getD k []), .s [105, 110, 116], .i .i64 1, .i .i64 (b0_ b (p + 1 + k) 9), .s [], .sl false [], .i .i64 0, .i .i64 0, .s [], .sl false []]]) (by simp only [go_sem, seval, bg_, T2_, be_, ah_, an_, az_, ak_, am_, aj_, ag_] <;> rfl) (by simp only [go_sem, seval, bg_, T2_, be_, ah_, an_, az_, ak_, am_, aj_, ag_, ler, les, leV] <;> (first | trivial | simp)) (by simp only [go_sem, seval, bg_, T2_, be_, ah_, an_, az_, ak_, am_, aj_, ag_] <;> rfl)) ?_
    exact Can.weak (Weak.lit (by simp only [go_sem, seval, bg_, T2_, be_, ah_, an_, az_, ak_, am_, aj_, ag_, aq_, leV, ao_, ap_, V.inn, us, T9_, Ta_] <;> (rw [bd_ (by omega) (by omega)]; simp)) (by simp only [go_sem, seval, bg_, T2_, be_, ah_, an_, az_, ak_, am_, aj_, ag_, aq_, leV, ao_, ap_, V.inn, us, T9_, Ta_]) (by simp only [go_sem, seval, bg_, T2_, be_, ah_, an_, az_, ak_, am_, aj_, ag_, aq_, leV, ao_, ap_, V.inn, us, T9_, Ta_] <;> (rw [show p + 1 + (k : Int) + 1 = p + 1 + ((k + 1 : Nat) : Int) by omega, ad1_, aft_]; simp [wInt])))
   ·refine .exit ?_
    refine Exists.intro (()) ⟨?_, ?_⟩
    ·trivial
    exact Can.weak (Weak.lit (by simp only [go_sem, seval, bg_, T2_, be_, ah_, an_, az_, ak_, am_, aj_, ag_, aq_, leV, ao_, ap_, V.inn, us, T9_, Ta_] <;> (first | (have q := e1 h9; simp at h11; (obtain rfl : k = 3 := (by omega)); rw [q]; simp [i0_]; done) | (have q := e2 h9; rw [q]; simp; done))) (by simp only [go_sem, seval, bg_, T2_, be_, ah_, an_, az_, ak_, am_, aj_, ag_, aq_, leV, ao_, ap_, V.inn, us, T9_, Ta_]) (by simp only [go_sem, seval, bg_, T2_, be_, ah_, an_, az_, ak_, am_, aj_, ag_, aq_, leV, ao_, ap_, V.inn, us, T9_, Ta_] <;> (first | (have q := e1 h9; simp at h11; (obtain rfl : k = 3 := (by omega)); rw [q]; simp; omega) | (have q := e2 h9; rw [q]; simp [sR]; done))))
  ·refine .skip ?_
   refine Exists.intro (()) ⟨?_, ?_⟩
   ·trivial
   refine Can.trans (Can.ownSlot 3 60 55 11 (by simp only [go_sem, seval, bg_, T2_, be_, ah_, an_, az_, ak_, am_, aj_, ag_] <;> rfl) (by simp only [go_sem, seval, bg_, T2_, be_, ah_, an_, az_, ak_, am_, aj_, ag_]) (by simp only [go_sem, seval, bg_, T2_, be_, ah_, an_, az_, ak_, am_, aj_, ag_] <;> rfl)) ?_
   exact Can.weak (Weak.lit (by simp only [go_sem, seval, bg_, T2_, be_, ah_, an_, az_, ak_, am_, aj_, ag_, aq_, leV, ao_, ap_, V.inn, us, T9_, Ta_] <;> (first | (have q := e1 h9; simp at h11; (obtain rfl : k = 3 := (by omega)); rw [q]; simp [i0_]; done) | (have q := e2 h9; rw [q]; simp; done))) (by simp only [go_sem, seval, bg_, T2_, be_, ah_, an_, az_, ak_, am_, aj_, ag_, aq_, leV, ao_, ap_, V.inn, us, T9_, Ta_]) (by simp only [go_sem, seval, bg_, T2_, be_, ah_, an_, az_, ak_, am_, aj_, ag_, aq_, leV, ao_, ap_, V.inn, us, T9_, Ta_] <;> (first | (have q := e1 h9; simp at h11; (obtain rfl : k = 3 := (by omega)); rw [q]; simp; omega) | (have q := e2 h9; rw [q]; simp [sR]; done))))
 refine .seq (.seq (.rgn [bm_ [0] [] (di_ b (dPa b p).2 6 hb (by omega) (by omega))] (by simp only [go_sem, seval, bg_, T2_, be_, ah_, an_, az_, ak_, am_, aj_, ag_, bd_ (show -9223372036854775808 ≤ 1 + b0_ b (dPa b p).2 6 by omega) (by omega)]; rfl) ?_ ?_))
 ·first | trivial | simp
 refine .block (.loopK (fun n : Nat => ⟨[.pt 0 2 0 0, .no, .no, .ow 60 11 0 ((dPa b p).1.length + n), .no, .i .i64 ((dPn b p - n : Nat) : Int), .no, .no, .no, .no, .no, .no, .no, .no, .no, .no, .no, .no, .no, .no, .no, .no, .no, .no, .no, .no, .no, .no, .no, .no, .no, .no, .no, .no, .no, .no, .no, .no], bc_ [(0, rdB b (dj_ b n ((dPa b p).2 + 1)).2), (60, ⟨55, 11, sR ((dPa b p).1 ++ (dj_ b n ((dPa b p).2 + 1)).1)⟩)], us [60]⟩) (fun n : Nat => n ≤ dPn b p) (fun n : Nat => dPn b p - n) (0) ?_ ?_ (fun n hI => ?_))
 ·simp
 ·exact Can.weak (Weak.lit (by simp only [go_sem, seval, bg_, T2_, be_, ah_, an_, az_, ak_, am_, aj_, ag_, aq_, leV, ao_, ap_, V.inn, us, T9_, Ta_] <;> (rw [← n3]; simp)) (by simp only [go_sem, seval, bg_, T2_, be_, ah_, an_, az_, ak_, am_, aj_, ag_, aq_, leV, ao_, ap_, V.inn, us, T9_, Ta_]) (by simp only [go_sem, seval, bg_, T2_, be_, ah_, an_, az_, ak_, am_, aj_, ag_, aq_, leV, ao_, ap_, V.inn, us, T9_, Ta_] <;> (simp [dj_])))
 refine .seq (.seq (.rgn [] (by simp only [go_sem, seval, bg_, T2_, be_, ah_, an_, az_, ak_, am_, aj_, ag_]; rfl) ?_ ?_))
 ·first | trivial | simp
 refine .condB (by simp only [go_sem, seval, bg_, T2_, be_, ah_, an_, az_, ak_, am_, aj_, ag_]; rfl) (by simp only [go_sem, seval, bg_, T2_, be_, ah_, an_, az_, ak_, am_, aj_, ag_]) (fun h29 => ?_) (fun h29 => ?_)
 ·refine .skip (.seq (.block (.rgn [bm_ [0] [] (sn_ b (dj_ b n ((dPa b p).2 + 1)).2 hb (by have := id_ b (p := (dPa b p).2 + 1) (by omega) (by omega) n (by omega); omega) (by have := id_ b (p := (dPa b p).2 + 1) (by omega) (by omega) n (by omega); omega))] (by simp only [go_sem, seval, bg_, T2_, be_, ah_, an_, az_, ak_, am_, aj_, ag_]; rfl) ?_ ?_)))
  ·simp only [T3_] at h29; have q := D n (by omega); simp [az_]; omega
  refine .rgn [] (by simp only [go_sem, seval, bg_, T2_, be_, ah_, an_, az_, ak_, am_, aj_, ag_]; rfl) ?_ ?_
  ·first | trivial | simp
  refine Exists.intro (n + 1) ⟨?_, ?_, ?_⟩
  ·simp at h29; omega
  ·simp at h29; omega
  refine Can.trans (Can.swap 46 60 (by decide) (by decide) (by decide) (by decide) (by simp only [go_sem, seval, bg_, T2_, be_, ah_, an_, az_, ak_, am_, aj_, ag_, V.cl]) (by simp only [go_sem, seval, bg_, T2_, be_, ah_, an_, az_, ak_, am_, aj_, ag_, V.cl]) (by simp only [go_sem, seval, bg_, T2_, be_, ah_, an_, az_, ak_, am_, aj_, ag_, bf_, sw, swM, rnB] <;> rfl) (by simp only [go_sem, seval, bg_, T2_, be_, ah_, an_, az_, ak_, am_, aj_, ag_, bf_, sw, swM, rnB] <;> rfl) (by simp only [go_sem, seval, bg_, T2_, be_, ah_, an_, az_, ak_, am_, aj_, ag_, bf_, sw, swM, rnB] <;> rfl)) ?_
  exact Can.weak (Weak.lit (by simp only [go_sem, seval, bg_, T2_, be_, ah_, an_, az_, ak_, am_, aj_, ag_, aq_, leV, ao_, ap_, V.inn, us, T9_, Ta_] <;> (simp only [T3_] at h29; rw [bd_ (by omega) (by omega)]; (try simp); omega)) (by simp only [go_sem, seval, bg_, T2_, be_, ah_, an_, az_, ak_, am_, aj_, ag_, aq_, leV, ao_, ap_, V.inn, us, T9_, Ta_]) (by simp only [go_sem, seval, bg_, T2_, be_, ah_, an_, az_, ak_, am_, aj_, ag_, aq_, leV, ao_, ap_, V.inn, us, T9_, Ta_] <;> (rw [t0_]; simp [v4_, ae0_, am_])))
 ·refine .exit (.seq (.rgn [] (by simp only [go_sem, seval, bg_, T2_, be_, ah_, an_, az_, ak_, am_, aj_, ag_]; rfl) ?_ ?_))
  ·first | trivial | simp
  refine .ret ⟨.inr rfl, ?_⟩
  exact Out.mem' (by simp only [Tryz.results52]; rfl) (by simp only [av_, a3_, go_sem, seval, bg_, T2_, be_, ah_, an_, az_, ak_, am_, aj_, ag_]) (by simp only [a2_, rns, rn, go_sem, seval, bg_, T2_, be_, ah_, an_, az_, ak_, am_, aj_, ag_] <;> ((simp at h29; (obtain rfl : n = dPn b p := (by omega)); unfold cv_; simp [(D (dPn b p) n2).2.2.1]))) (by simp) rfl (by decide) (by simp only [go_sem, seval, bg_, T2_, be_, ah_, an_, az_, ak_, am_, aj_, ag_]) (by simp only [an_, go_sem, seval, bg_, T2_, be_, ah_, an_, az_, ak_, am_, aj_, ag_]) (by simp only [ah_, go_sem, seval, bg_, T2_, be_, ah_, an_, az_, ak_, am_, aj_, ag_] <;> ((simp at h29; (obtain rfl : n = dPn b p := (by omega)); unfold cv_; simp [ce_, ak_])))
theorem pc_ (b : Str) (p : Int) (hb : b.length ≤ 2000) (hp : 0 ≤ p) (hp2 : p < 100000) : ACall En 52 [.pt 0 2 0 0] [rdB b p] [.sl false (sR (cv_ b p).1)] [rdB b (cv_ b p).2] :=
 ACall.frzL (Lr := [rdB b (cv_ b p).2]) (yr_ b p hb hp hp2) (by simp) (by simp [e5_, frz, az_, T1_])
end
section
set_option maxRecDepth 100000
set_option maxHeartbeats 4000000
def dBR (b : Str) : List Bl := (cv_ b 0).1.map bof ++ (if b0_ b (cv_ b 0).2 12 = 0 then [(d7 b ((cv_ b 0).2 + 1)).1] else [])
theorem ex_ {l : List Sl} (h : l.all okS = true) {k : Nat} (hk : k < l.length) : lb_ (l.getD k S0) = true ∧ wf (l.getD k S0).expr = true ∧ wf (l.getD k S0).thn = true := t1_ (List.all_eq_true.1 h _ (bp_ hk))
theorem ye_ {l : List Sl} (h : l.all okS = true) : h0_ (l.map bof) = true := by
 unfold h0_
 rw [List.all_eq_true]
 intro x hx
 obtain ⟨s, hs, rfl⟩ := List.mem_map.1 hx
 exact mt_ (t1_ (List.all_eq_true.1 h _ hs)).1
theorem add_ (b : Str) : (dBR b).length ≤ 10 ∧ h0_ (dBR b) = true := by
 obtain ⟨h1, h2, h3, h4, h5⟩ := is_ b (p := 0) (by decide) (by decide)
 obtain ⟨q1, q2, q3⟩ := ze_ b (p := (cv_ b 0).2 + 1) (by omega) (by omega)
 unfold dBR
 split
 ·refine ⟨by simp; omega, ?_⟩
  have := ye_ h5
  simp only [h0_, List.all_append, List.all_cons, List.all_nil, q3, Bool.and_true] at this ⊢; exact this
 ·exact ⟨by simp; omega, by rw [List.append_nil]; exact ye_ h5⟩
theorem ad6_ {l : List Sl} {k : Nat} (hk : k < l.length) : bLR ((l.take (k + 1)).map bof) = bLR ((l.take k).map bof) ++ [bC (bof (l.getD k S0))] := by
 rw [List.take_add_one, T6_ hk, List.map_append, kp_, T8_, T6_ hk]; rfl
theorem t2_ (b : Bl) : bLR [b] = [bC b] := rfl
theorem g1_ (b : Str) : ACall En 12 [.sl false (byR b)] [] [.sl false (bLR (dBR (b.take 2000)))] [] := by
 have hb : (b.take 2000).length ≤ 2000 := by simp; omega
 obtain ⟨h1, h2, h3, h4, h5⟩ := is_ (b.take 2000) (p := 0) (by decide) (by decide)
 have hD : dBR (b.take 2000) = (cv_ (b.take 2000) 0).1.map bof ++ (if b0_ (b.take 2000) (cv_ (b.take 2000) 0).2 12 = 0 then [(d7 (b.take 2000) ((cv_ (b.take 2000) 0).2 + 1)).1] else []) := rfl
 generalize hP : cv_ (b.take 2000) 0 = P at *
 have L6 := pc_ (b.take 2000) 0 hb (by decide) (by decide)
 rw [hP] at L6
 refine al_ (fn := Tryz.f12) [] Tryz.func12 rfl rfl (by simp) fun C => ?_
 rw [aw_]
 simp only [Tryz.ntmps12, T7_, List.length_nil, Nat.reduceAdd, Nat.reduceSub, List.replicate_succ, List.replicate_zero, List.cons_append, List.nil_append, bo_]
 refine .seq (.rgn [] (by simp only [go_sem, seval, ah_, an_, az_, ak_, am_, ae_, ai_, ad_]; rfl) ?_ ?_)
 ·first | trivial | simp
 refine .seq (.rgn [bm_ [] [90] (eq_ b)] (by simp only [go_sem, seval, ah_, an_, az_, ak_, am_, ae_, ai_, ad_]; rfl) ?_ ?_)
 ·first | trivial | simp
 refine .seq (.rgn [bm_ [90] [] L6] (by simp only [go_sem, seval, ah_, an_, az_, ak_, am_, ae_, ai_, ad_]; rfl) ?_ ?_)
 ·first | trivial | simp
 refine .seq (.rgn [] (by simp only [go_sem, seval, ah_, an_, az_, ak_, am_, ae_, ai_, ad_]; rfl) ?_ ?_)
 ·first | trivial | simp
 refine .seq (.seq (.rgn [] (by simp only [go_sem, seval, ah_, an_, az_, ak_, am_, ae_, ai_, ad_]; rfl) ?_ ?_))
 ·first | trivial | simp
 refine .block (.loopK (fun k : Nat => ⟨[.no, .no, .no, .pt 90 2 0 0, .sl false (sR P.1), .ow 60 10 0 k, .i .i64 k, .no, .no, .no, .no, .no, .no, .no, .no, .no, .no, .no, .no, .no, .no, .no, .no, .no, .no, .no, .no, .no, .no, .no, .no, .no, .no, .no, .no], bc_ [(90, rdB (b.take 2000) P.2), (60, ⟨35, 10, bLR ((P.1.take k).map bof)⟩)], us [90, 60]⟩) (fun k : Nat => k ≤ P.1.length) (fun k : Nat => P.1.length - k) (0) ?_ ?_ (fun k hI => ?_))
 ·simp
 ·refine Can.trans (Can.ownSlot 5 60 35 10 (by simp only [go_sem, seval, ah_, an_, az_, ak_, am_, ae_, ai_, ad_] <;> rfl) (by simp only [go_sem, seval, ah_, an_, az_, ak_, am_, ae_, ai_, ad_]) (by simp only [go_sem, seval, ah_, an_, az_, ak_, am_, ae_, ai_, ad_] <;> rfl)) ?_
  exact Can.weak (Weak.lit (by simp only [go_sem, seval, ah_, an_, az_, ak_, am_, ae_, ai_, ad_, aq_, leV, ao_, ap_, V.inn, us, T9_, Ta_] <;> (simp)) (by simp only [go_sem, seval, ah_, an_, az_, ak_, am_, ae_, ai_, ad_, aq_, leV, ao_, ap_, V.inn, us, T9_, Ta_]) (by simp only [go_sem, seval, ah_, an_, az_, ak_, am_, ae_, ai_, ad_, aq_, leV, ao_, ap_, V.inn, us, T9_, Ta_] <;> (simp [bLR])))
 refine .seq (.seq (.rgn [] (by simp only [go_sem, seval, ah_, an_, az_, ak_, am_, ae_, ai_, ad_]; rfl) ?_ ?_))
 ·first | trivial | simp
 refine .condB (by simp only [go_sem, seval, ah_, an_, az_, ak_, am_, ae_, ai_, ad_]; rfl) (by simp only [go_sem, seval, ah_, an_, az_, ak_, am_, ae_, ai_, ad_]) (fun h15 => ?_) (fun h15 => ?_)
 ·refine .skip (.seq (.block (.rgn [a1_ (rt_ (P.1.getD k S0) (ex_ h5 (by simpa using h15)).1 (ex_ h5 (by simpa using h15)).2.1 (ex_ h5 (by simpa using h15)).2.2)] (by simp only [go_sem, seval, ah_, an_, az_, ak_, am_, ae_, ai_, ad_, vf_ (show k < P.1.length by simpa using h15)]; rfl) ?_ ?_)))
  ·simp at h15; simp [cm_]; omega
  refine .rgn [] (by simp only [go_sem, seval, ah_, an_, az_, ak_, am_, ae_, ai_, ad_]; rfl) ?_ ?_
  ·first | trivial | simp
  refine Exists.intro (k + 1) ⟨?_, ?_, ?_⟩
  ·simp at h15; omega
  ·simp at h15; omega
  refine Can.trans (Can.swap 35 60 (by decide) (by decide) (by decide) (by decide) (by simp only [go_sem, seval, ah_, an_, az_, ak_, am_, ae_, ai_, ad_, V.cl]) (by simp only [go_sem, seval, ah_, an_, az_, ak_, am_, ae_, ai_, ad_, V.cl]) (by simp only [go_sem, seval, ah_, an_, az_, ak_, am_, ae_, ai_, ad_, bf_, sw, swM, rnB] <;> rfl) (by simp only [go_sem, seval, ah_, an_, az_, ak_, am_, ae_, ai_, ad_, bf_, sw, swM, rnB] <;> rfl) (by simp only [go_sem, seval, ah_, an_, az_, ak_, am_, ae_, ai_, ad_, bf_, sw, swM, rnB] <;> rfl)) ?_
  exact Can.weak (Weak.lit (by simp only [go_sem, seval, ah_, an_, az_, ak_, am_, ae_, ai_, ad_, aq_, leV, ao_, ap_, V.inn, us, T9_, Ta_] <;> (rw [bd_ (by simp at h15; omega) (by simp at h15; omega)]; simp)) (by simp only [go_sem, seval, ah_, an_, az_, ak_, am_, ae_, ai_, ad_, aq_, leV, ao_, ap_, V.inn, us, T9_, Ta_]) (by simp only [go_sem, seval, ah_, an_, az_, ak_, am_, ae_, ai_, ad_, aq_, leV, ao_, ap_, V.inn, us, T9_, Ta_] <;> (rw [ad6_ (by simpa using h15)]; simp [ae_])))
 ·refine .exit (.seqJ (fun u : Unit => ⟨[.no, .no, .no, .no, .no, .ow 60 10 0 (dBR (b.take 2000)).length, .no, .no, .no, .no, .no, .no, .no, .no, .no, .no, .no, .no, .no, .no, .no, .no, .no, .no, .no, .no, .no, .no, .no, .no, .no, .no, .no, .no, .no], bc_ [(60, ⟨35, 10, bLR (dBR (b.take 2000))⟩)], us [60]⟩) (fun u : Unit => True) ?_ (fun u hJ => ?_))
  ·refine .seq (.rgn [bm_ [90] [] (di_ (b.take 2000) P.2 12 hb (by omega) (by omega))] (by simp only [go_sem, seval, ah_, an_, az_, ak_, am_, ae_, ai_, ad_]; rfl) ?_ ?_)
   ·first | trivial | simp
   refine .condB (by simp only [go_sem, seval, ah_, an_, az_, ak_, am_, ae_, ai_, ad_]; rfl) (by simp only [go_sem, seval, ah_, an_, az_, ak_, am_, ae_, ai_, ad_]) (fun h28 => ?_) (fun h28 => ?_)
   ·refine .rgn [bm_ [90] [] (hd_ (b.take 2000) (P.2 + 1) hb (by omega) (by omega))] (by simp only [go_sem, seval, ah_, an_, az_, ak_, am_, ae_, ai_, ad_]; rfl) ?_ ?_
    ·simp only [T4_] at h15; simp [cm_]; omega
    refine Exists.intro (()) ⟨?_, ?_⟩
    ·trivial
    refine Can.trans (Can.swap 43 60 (by decide) (by decide) (by decide) (by decide) (by simp only [go_sem, seval, ah_, an_, az_, ak_, am_, ae_, ai_, ad_, V.cl]) (by simp only [go_sem, seval, ah_, an_, az_, ak_, am_, ae_, ai_, ad_, V.cl]) (by simp only [go_sem, seval, ah_, an_, az_, ak_, am_, ae_, ai_, ad_, bf_, sw, swM, rnB] <;> rfl) (by simp only [go_sem, seval, ah_, an_, az_, ak_, am_, ae_, ai_, ad_, bf_, sw, swM, rnB] <;> rfl) (by simp only [go_sem, seval, ah_, an_, az_, ak_, am_, ae_, ai_, ad_, bf_, sw, swM, rnB] <;> rfl)) ?_
    exact Can.weak (Weak.lit (by simp only [go_sem, seval, ah_, an_, az_, ak_, am_, ae_, ai_, ad_, aq_, leV, ao_, ap_, V.inn, us, T9_, Ta_] <;> (simp only [T4_] at h15; (obtain rfl : k = P.1.length := (by omega)); rw [hD]; first | (rw [if_pos (by simpa using h28)]; simp; done) | (rw [if_neg (by simpa using h28)]; simp; done))) (by simp only [go_sem, seval, ah_, an_, az_, ak_, am_, ae_, ai_, ad_, aq_, leV, ao_, ap_, V.inn, us, T9_, Ta_]) (by simp only [go_sem, seval, ah_, an_, az_, ak_, am_, ae_, ai_, ad_, aq_, leV, ao_, ap_, V.inn, us, T9_, Ta_] <;> (simp only [T4_] at h15; (obtain rfl : k = P.1.length := (by omega)); rw [hD]; first | (rw [if_pos (by simpa using h28)]; simp [T1_, kp_, t2_, ae_]; done) | (rw [if_neg (by simpa using h28)]; simp [T1_]; done))))
   ·refine .skip ?_
    refine Exists.intro (()) ⟨?_, ?_⟩
    ·trivial
    exact Can.weak (Weak.lit (by simp only [go_sem, seval, ah_, an_, az_, ak_, am_, ae_, ai_, ad_, aq_, leV, ao_, ap_, V.inn, us, T9_, Ta_] <;> (simp only [T4_] at h15; (obtain rfl : k = P.1.length := (by omega)); rw [hD]; first | (rw [if_pos (by simpa using h28)]; simp; done) | (rw [if_neg (by simpa using h28)]; simp; done))) (by simp only [go_sem, seval, ah_, an_, az_, ak_, am_, ae_, ai_, ad_, aq_, leV, ao_, ap_, V.inn, us, T9_, Ta_]) (by simp only [go_sem, seval, ah_, an_, az_, ak_, am_, ae_, ai_, ad_, aq_, leV, ao_, ap_, V.inn, us, T9_, Ta_] <;> (simp only [T4_] at h15; (obtain rfl : k = P.1.length := (by omega)); rw [hD]; first | (rw [if_pos (by simpa using h28)]; simp [T1_, kp_, t2_, ae_]; done) | (rw [if_neg (by simpa using h28)]; simp [T1_]; done))))
  refine .seq (.rgn [] (by simp only [go_sem, seval, ah_, an_, az_, ak_, am_, ae_, ai_, ad_]; rfl) ?_ ?_)
  ·first | trivial | simp
  refine .frz 60 (by simp only [go_sem, seval, ah_, an_, az_, ak_, am_, ae_, ai_, ad_]; rfl) (by simp only [go_sem, seval, ah_, an_, az_, ak_, am_, ae_, ai_, ad_]) (by simp only [go_sem, seval, ah_, an_, az_, ak_, am_, ae_, ai_, ad_]; rfl) (by simp only [go_sem, seval, ah_, an_, az_, ak_, am_, ae_, ai_, ad_]; rfl) ?_
  refine .ret ⟨.inr rfl, ?_⟩
  exact Out.plain (by simp only [Tryz.results12]; rfl) (by simp only [av_, a3_, go_sem, seval, ah_, an_, az_, ak_, am_, ae_, ai_, ad_] <;> (split <;> rfl)) (by simp only [a2_, go_sem, seval, ah_, an_, az_, ak_, am_, ae_, ai_, ad_] <;> (simp [T1_, ai_, peel])) (by simp only [go_sem, seval, ah_, an_, az_, ak_, am_, ae_, ai_, ad_])
end
end Go.Proofs.YtpikbndepapbhabGreatDoor
