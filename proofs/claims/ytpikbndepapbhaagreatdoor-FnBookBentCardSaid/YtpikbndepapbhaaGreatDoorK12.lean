/- Books: lines with what they are turned into, plainly. Conditions: none. -/
import Derived.Test.YtpikbndepapbhaaGreatDoorK11
import Derived.Test.YtpikbndepapbhaaGreatDoorK3
import Derived.Test.YtpikbndepapbhaaGreatDoorKr
set_option linter.unusedVariables false
set_option linter.unusedSimpArgs false
namespace Go.Proofs.YtpikbndepapbhaaGreatDoor
section
set_option maxRecDepth 100000
def okP (p : Pg) : Bool := d4_ p.line && decide (p = db_ p.line)
def cf_ (l : List Pg) : Bool := decide (1 ≤ l.length) && decide (l.length ≤ 16) && l.all okP
def fc_ (s : Str) : List Pg := if (c0_ s).length ≤ 16 then (c0_ s).map db_ else []
def ue_ (s : Str) : Sl := (dk_ s).getD S0
def kb_ (l : List Pg) : List Sl := l.map fun p => ue_ p.line
def zy_ (l : List Pg) : Str := if cf_ l then cw_ (l.map (·.line)) else []
def ih_ (l : List Pg) : Nat → List Sg
 | 0 => []
 | k + 1 => ih_ l k ++ (if (l.getD k Pg0).good then sgs k ((bx_ (l.getD k Pg0).text).getD []) (l.getD k Pg0).frm else [])
def i6_ (l : List Pg) : List Sg := if cf_ l then ih_ l l.length else []
theorem cy_ {l : List Pg} (h : cf_ l = true) : 1 ≤ l.length ∧ l.length ≤ 16 ∧ ∀ k, k < l.length → okP (l.getD k Pg0) = true := by
 simp only [cf_, T5_, T3_] at h
 exact ⟨h.1.1, h.1.2, fun k hk => List.all_eq_true.1 h.2 _ (bh_ hk)⟩
theorem jz_ {p : Pg} (h : okP p = true) : d4_ p.line = true ∧ p = db_ p.line := by
 simp only [okP, T5_, T3_] at h; exact h
theorem w3_ (s : Str) : sok (ue_ s) = true := by
 unfold ue_
 cases h : dk_ s with
 | none => exact z3_
 | some x => exact (nf_.1 h).1
theorem emT_S0' : emT S0 = [] := by unfold emT; rw [if_pos z3_]; decide
theorem pc_ {p : Pg} (h : okP p = true) : p.text = emT (ue_ p.line) ∧ p.frm = emF (ue_ p.line) ∧ p.good = (dk_ p.line).isSome := by
 obtain ⟨h1, h2⟩ := jz_ h
 unfold ue_
 cases hx : dk_ p.line with
 | none => rw [h2, rq_ h1 (by rw [hx]; rfl)]; exact ⟨emT_S0'.symm, emF_S0.symm, rfl⟩
 | some x => rw [h2, vc_ h1 (by rw [hx]; rfl), hx]; exact ⟨rfl, rfl, rfl⟩
theorem zu_ {l : List Pg} {k : Nat} (h : k < l.length) : (kb_ l).getD k S0 = ue_ (l.getD k Pg0).line := by
 simp [kb_, T8_, T6_ h]
theorem lg_ (l : List Pg) : (kb_ l).length = l.length := by simp [kb_]
theorem age_ {l : List Pg} (h : cf_ l = true) : pok (kb_ l) = true := by
 obtain ⟨h1, h2, _⟩ := cy_ h
 simp only [pok, lg_, T5_, T3_]
 refine ⟨⟨h1, h2⟩, List.all_eq_true.2 fun x hx => ?_⟩
 obtain ⟨p, _, rfl⟩ := List.mem_map.1 hx
 exact w3_ _
theorem alr_ {p : Pg} (h : okP p = true) (hg : p.good = false) : ue_ p.line = S0 := by
 have := (pc_ h).2.2
 unfold ue_
 cases hx : dk_ p.line with
 | none => rfl
 | some x => rw [hg, hx] at this; cases this
theorem zw_ {l : List Pg} (h : cf_ l = true) : ∀ k, k ≤ l.length → ih_ l k = sgN (kb_ l) k
 | 0, _ => rfl
 | k + 1, hk => by
  have ho := (cy_ h).2.2 k (by omega)
  rw [ih_, sgN, zw_ h k (by omega), zu_ (by omega)]
  congr 1
  cases hg : (l.getD k Pg0).good with
  | true => obtain ⟨q1, q2, _⟩ := pc_ ho; rw [q1, q2]; rfl
  | false => rw [alr_ ho hg, amt_]; rfl
theorem ael_ {l : List Pg} (h : cf_ l = true) : i6_ l = sgP (kb_ l) := by
 unfold i6_ sgP
 rw [if_pos h, if_pos (age_ h), zw_ h _ (Nat.le_refl _), lg_]
theorem po_ {l : List Pg} (h : cf_ l = true) : ∀ p ∈ l, okP p = true := by
 simp only [cf_, T5_] at h
 exact List.all_eq_true.1 h.2
theorem abf_ : ∀ {l : Str} {w : Int}, f8_ l w = true → (10 : UInt8) ∉ l → w ≤ 120 → l.all prt = true ∧ w + l.length ≤ 120
 | [], w, _, _, hw => ⟨rfl, by simpa using hw⟩
 | c :: l, w, h, hn, hw => by
  simp only [List.mem_cons, not_or] at hn
  rw [f8_, if_neg (fun e => hn.1 e.symm)] at h
  simp only [T5_, T3_] at h
  obtain ⟨q1, q2⟩ := abf_ h.2 hn.2 h.1.2
  refine ⟨?_, by simp only [T7_]; omega⟩
  simp only [List.all_cons, q1, Bool.and_true, prt, T5_, T3_]
  exact h.1.1
theorem th_ {s : Str} (h : d4_ s = true) : ye_ s := by
 simp only [d4_, tOk, m7_, T5_, Bool.not_eq_true'] at h
 have hn : (10 : UInt8) ∉ s := fun q => by rw [List.contains_iff_mem.2 q] at h; exact absurd h.2 (by decide)
 obtain ⟨q1, q2⟩ := abf_ h.1.1 hn (by decide)
 exact ⟨q1, by omega⟩
theorem pw_ (s : Sl) : ye_ (emT s) := by
 by_cases h : sok s = true
 ·rw [s7_ h]; exact yw_ (tu_ h)
 ·unfold emT; rw [if_neg h]; exact ⟨rfl, by simp⟩
theorem ado_ {α : Type} {l : List α} (h : 1 ≤ l.length) : l ≠ [] := List.length_pos_iff.1 h
theorem yx_ {p q : Pg} (h : okP p = true) (hl : q.line = p.line) (hn : q ≠ p) : okP q = false := by
 rw [Bool.eq_false_iff]; intro hq
 have h1 := (jz_ h).2
 have h2 := (jz_ hq).2
 rw [hl, ← h1] at h2
 exact hn h2
theorem al0_ {q : Pg} (h : d4_ q.line = false) : okP q = false := by unfold okP; rw [h]; rfl
end
section
set_option maxRecDepth 100000
theorem m2_ {l : List Pg} {i : Nat} (h : i < l.length) : (l.take (i + 1)).drop i = [l.getD i Pg0] := by
 rw [List.drop_take, show i + 1 - i = 1 by omega, List.drop_eq_getElem_cons h, T8_, T6_ h]; rfl
theorem zh_ (l : List Pg) (a b : Nat) : ((pgR l).take b).drop a = pgR ((l.take b).drop a) := by simp [pgR, List.map_take, List.map_drop]
theorem ads_ (l : List Pg) : (i6_ l).length ≤ 2000 := by
 cases h : cf_ l with
 | true => rw [ael_ h]; have := amp_ (kb_ l); omega
 | false => unfold i6_; rw [h]; simp
theorem qa_ (s : Str) : (fc_ s).length ≤ 16 := by unfold fc_; split <;> simp; omega
end
section
set_option maxRecDepth 100000
def er_ (b : Str) : Nat → Int → List Str → List Str × Int
 | 0, p, l => (l, p)
 | n + 1, p, l => er_ b n (dTo b p).2 (l ++ [(dTo b p).1])
def t8_ : Str := [115, 97, 121, 32, 49]
def g3_ (b : Str) : Nat → Int → List Str → List Str × Int
 | 0, p, l => (l, p)
 | n + 1, p, l => if (l.length : Int) < 16 + bn_ b p 2 then g3_ b n (p + 1) (l ++ [t8_]) else (l, p + 1)
def wL (l : List Str) : Prop := ∀ w ∈ l, w.length ≤ 300
theorem u9_ {l : List Str} {w : Str} (h : wL l) (hw : w.length ≤ 300) : wL (l ++ [w]) := fun x hx => by
 rcases List.mem_append.1 hx with hx | hx
 ·exact h x hx
 ·simp at hx; subst hx; exact hw
theorem ux_ (b : Str) : ∀ (n : Nat) (p : Int) (l : List Str), 0 ≤ p → p + 1000 * n < 1000000 → wL l → p ≤ (er_ b n p l).2 ∧ (er_ b n p l).2 ≤ p + 1000 * n ∧ wL (er_ b n p l).1 ∧ (er_ b n p l).1.length = l.length + n
 | 0, p, l, hp, _, hl => ⟨Int.le_refl _, by simp [er_], hl, rfl⟩
 | n + 1, p, l, hp, hp2, hl => by
  obtain ⟨q1, q2, q3⟩ := ah5_ b hp (by omega)
  obtain ⟨r1, r2, r3, r4⟩ := ux_ b n (dTo b p).2 (l ++ [(dTo b p).1]) (by omega) (by omega) (u9_ hl q3)
  rw [er_]
  refine ⟨by omega, by omega, r3, ?_⟩
  rw [r4, T2_, List.length_singleton]; omega
theorem ab1_ (b : Str) : ∀ (n : Nat) (p : Int) (l : List Str), 0 ≤ p → p + n < 1000000 → wL l → p ≤ (g3_ b n p l).2 ∧ (g3_ b n p l).2 ≤ p + n + 1 ∧ wL (g3_ b n p l).1 ∧ (g3_ b n p l).1.length ≤ l.length + n
 | 0, p, l, hp, _, hl => ⟨Int.le_refl _, by simp only [g3_]; omega, hl, Nat.le_refl _⟩
 | n + 1, p, l, hp, hp2, hl => by
  obtain ⟨r1, r2, r3, r4⟩ := ab1_ b n (p + 1) (l ++ [t8_]) (by omega) (by omega) (u9_ hl (by decide))
  rw [g3_]
  split
  ·refine ⟨by omega, by omega, r3, ?_⟩
   rw [T2_, List.length_singleton] at r4; omega
  ·exact ⟨by dsimp only; omega, by dsimp only; omega, hl, by dsimp only; omega⟩
def lj_ (b : Str) (p : Int) : List Str × Int :=
 if bn_ b (er_ b (1 + (bn_ b p 6).toNat) (p + 1) []).2 30 = 0 then g3_ b 20 ((er_ b (1 + (bn_ b p 6).toNat) (p + 1) []).2 + 1) (er_ b (1 + (bn_ b p 6).toNat) (p + 1) []).1
 else ((er_ b (1 + (bn_ b p 6).toNat) (p + 1) []).1, (er_ b (1 + (bn_ b p 6).toNat) (p + 1) []).2 + 1)
theorem ug_ (b : Str) {p : Int} (hp : 0 ≤ p) (hp2 : p < 100000) : p ≤ (lj_ b p).2 ∧ (lj_ b p).2 ≤ p + 9000 ∧ wL (lj_ b p).1 ∧ (lj_ b p).1.length ≤ 30 := by
 have h6 := d8_ b (p := p) (n := 6) hp (by omega) (by decide)
 obtain ⟨r1, r2, r3, r4⟩ := ux_ b (1 + (bn_ b p 6).toNat) (p + 1) [] (by omega) (by omega) (fun w hw => by cases hw)
 unfold lj_
 simp only [List.length_nil] at r4
 split
 ·obtain ⟨s1, s2, s3, s4⟩ := ab1_ b 20 ((er_ b (1 + (bn_ b p 6).toNat) (p + 1) []).2 + 1) (er_ b (1 + (bn_ b p 6).toNat) (p + 1) []).1 (by omega) (by omega) r3
  exact ⟨by omega, by omega, s3, by omega⟩
 ·exact ⟨by dsimp only; omega, by dsimp only; omega, r3, by dsimp only; omega⟩
def dTx (b : Str) (p : Int) : Str × Int := (cw_ (lj_ b p).1, (lj_ b p).2)
theorem aa8_ (b : Str) {p : Int} (hp : 0 ≤ p) (hp2 : p < 100000) : (dTx b p).1.length ≤ 10000 := by
 obtain ⟨h1, h2, h3, h4⟩ := ug_ b hp hp2
 have := abx_ (l := (lj_ b p).1) (k := 300) h3
 have := Nat.mul_le_mul_right 301 h4
 show (cw_ _).length ≤ _
 omega
def saySeven : Str := [115, 97, 121, 32, 55]
def cg_ (l : List Pg) (k : Nat) (c : Int) : List Pg :=
 if c = 0 then l.set k { l.getD k Pg0 with text := (l.getD k Pg0).text ++ [32] }
 else if c = 1 then l.set k { l.getD k Pg0 with good := !(l.getD k Pg0).good }
 else if c = 2 then l.set k { l.getD k Pg0 with line := saySeven }
 else if c = 3 then []
 else l
def dBk (b : Str) (p : Int) : List Pg × Int :=
 if fc_ (dTx b p).1 = [] then ([], (dTx b p).2)
 else (cg_ (fc_ (dTx b p).1) (bn_ b (dTx b p).2 (fc_ (dTx b p).1).length).toNat (bn_ b ((dTx b p).2 + 1) 40), (dTx b p).2 + 1 + 1)
def pgB (p : Pg) : Prop := p.line.length ≤ 2000000 ∧ p.text.length ≤ 2000000 ∧ p.frm.length ≤ 2000000
theorem zz_ (s : Sl) : (emF s).length ≤ 1000 := by
 by_cases h : sok s = true
 ·have := yv_ h; omega
 ·unfold emF; rw [if_neg h]; simp
theorem p6_ {s : Str} (h : s.length ≤ 2000000) : pgB (db_ s) := by
 unfold db_
 split
 ·cases hx : dk_ s with
  | none => exact ⟨h, by simp, by simp⟩
  | some x => exact ⟨h, by have := (pw_ x).2; dsimp only; omega, by have := zz_ x; dsimp only; omega⟩
 ·exact ⟨by simp [Pg0], by simp [Pg0], by simp [Pg0]⟩
theorem amw_ (s : Str) : ∀ p ∈ fc_ s, pgB p := fun p hp => by
 unfold fc_ at hp
 split at hp
 ·obtain ⟨w, hw, rfl⟩ := List.mem_map.1 hp
  exact p6_ (by have := ht_ s w hw; omega)
 ·cases hp
theorem aag_ (s : Str) : ∀ p ∈ fc_ s, p.line.length ≤ 4000 ∧ p.text.length ≤ 120 ∧ p.frm.length ≤ 1000 := fun p hp => by
 unfold fc_ at hp
 split at hp
 ·obtain ⟨w, hw, rfl⟩ := List.mem_map.1 hp
  have hl := ht_ s w hw
  unfold db_
  split
  ·cases hx : dk_ w with
   | none => exact ⟨hl, by simp, by simp⟩
   | some x => exact ⟨hl, (pw_ x).2, zz_ x⟩
  ·exact ⟨by simp [Pg0], by simp [Pg0], by simp [Pg0]⟩
 ·cases hp
theorem agb_ {l : List Pg} (h : ∀ p ∈ l, p.line.length ≤ 4000 ∧ p.text.length ≤ 120 ∧ p.frm.length ≤ 1000) (k : Nat) : (l.getD k Pg0).line.length ≤ 4000 ∧ (l.getD k Pg0).text.length ≤ 120 ∧ (l.getD k Pg0).frm.length ≤ 1000 := by
 rcases Nat.lt_or_ge k l.length with q | q
 ·exact h _ (bh_ q)
 ·rw [T8_, List.getElem?_eq_none q]; exact ⟨by simp [Pg0], by simp [Pg0], by simp [Pg0]⟩
theorem ahz_ {l : List Pg} (h : ∀ p ∈ l, p.line.length ≤ 4000 ∧ p.text.length ≤ 120 ∧ p.frm.length ≤ 1000) (k : Nat) (c : Int) : ∀ p ∈ cg_ l k c, pgB p := by
 have hg := agb_ h k
 have hl : ∀ p ∈ l, pgB p := fun p hp => by have := h p hp; exact ⟨by omega, by omega, by omega⟩
 have hs : ∀ q : Pg, pgB q → ∀ p ∈ l.set k q, pgB p := fun q hq p hp => by
  rcases List.mem_or_eq_of_mem_set hp with h1 | h1
  ·exact hl p h1
  ·rw [h1]; exact hq
 unfold cg_
 split
 ·exact hs _ ⟨by dsimp only; omega, by dsimp only; rw [T2_, List.length_singleton]; omega, by dsimp only; omega⟩
 ·split
  ·exact hs _ ⟨by dsimp only; omega, by dsimp only; omega, by dsimp only; omega⟩
  ·split
   ·exact hs _ ⟨show saySeven.length ≤ 2000000 by decide, by dsimp only; omega, by dsimp only; omega⟩
   ·split
    ·intro p hp; cases hp
    ·exact hl
theorem abi_ (b : Str) (p : Int) : ∀ x ∈ (dBk b p).1, pgB x := by
 unfold dBk
 split
 ·intro x hx; cases hx
 ·exact ahz_ (aag_ _) _ _
theorem zx_ (l : List Pg) (k : Nat) (c : Int) : (cg_ l k c).length ≤ l.length := by
 unfold cg_
 split
 ·simp
 ·split
  ·simp
  ·split
   ·simp
   ·split <;> simp
theorem kl_ (b : Str) (p : Int) : (dBk b p).1.length ≤ 16 := by
 unfold dBk
 split
 ·simp
 ·have := zx_ (fc_ (dTx b p).1) (bn_ b (dTx b p).2 (fc_ (dTx b p).1).length).toNat (bn_ b ((dTx b p).2 + 1) 40)
  have := qa_ (dTx b p).1
  dsimp only; omega
end
section
set_option maxRecDepth 100000
set_option maxHeartbeats 4000000
theorem ah9_ (a b : List Int) (ha : a.length ≤ 1000000000) (hb : b.length ≤ 1000000000) : ACall En 86 [.sl false (inR a), .sl false (inR b)] [] [.b (a == b)] [] := by
 refine ak_ (fn := Tryz.f86) [] Tryz.func86 rfl rfl (by simp) fun C => ?_
 rw [aw_]
 simp only [Tryz.ntmps86, T7_, List.length_nil, Nat.reduceAdd, Nat.reduceSub, List.replicate_succ, List.replicate_zero, List.cons_append, List.nil_append, bo_]
 refine .seq (.rgn [] (by simp only [go_sem, seval, aj_, ac_]; rfl) ?_ ?_)
 ·first | trivial | simp
 refine .seq (.seq (.rgn [] (by simp only [go_sem, seval, aj_, ac_]; rfl) ?_ ?_))
 ·first | trivial | simp
 refine .condB (by simp only [go_sem, seval, aj_, ac_]; rfl) (by simp only [go_sem, seval, aj_, ac_]) (fun h10 => ?_) (fun h10 => ?_)
 ·refine .seq (.rgn [] (by simp only [go_sem, seval, aj_, ac_]; rfl) ?_ ?_)
  ·first | trivial | simp
  refine .ret ⟨.inr rfl, ?_⟩
  exact Out.plain (by simp only [Tryz.results86]; rfl) (by simp only [ay_, a6_, go_sem, seval, aj_, ac_] <;> (split <;> rfl)) (by simp only [a5_, go_sem, seval, aj_, ac_] <;> (have : a ≠ b := (fun e => by simp [e] at h10); simp [this])) (by simp only [go_sem, seval, aj_, ac_])
 ·refine .skip (.seq (.seq (.rgn [] (by simp only [go_sem, seval, aj_, ac_]; rfl) ?_ ?_)))
  ·first | trivial | simp
  refine .block (.loopK (fun k : Nat => ⟨[.sl false (inR a), .sl false (inR b), .no, .no, .no, .no, .no, .no, .no, .no, .no, .no, .i .i64 a.length, .i .i64 k, .no, .no, .no, .no, .no, .no, .no, .no, .no, .no, .no, .no], be_ [], us []⟩) (fun k : Nat => k ≤ a.length ∧ a.take k = b.take k) (fun k : Nat => a.length - k) (0) ?_ ?_ (fun k hI => ?_))
  ·exact ⟨Nat.zero_le _, rfl⟩
  ·exact Can.weak (Weak.lit (by simp only [go_sem, seval, aj_, ac_, ar_, leV, ap_, aq_, V.inn, us, T9_, Ta_] <;> (simp)) (by simp only [go_sem, seval, aj_, ac_, ar_, leV, ap_, aq_, V.inn, us, T9_, Ta_]) (by simp only [go_sem, seval, aj_, ac_, ar_, leV, ap_, aq_, V.inn, us, T9_, Ta_]))
  refine .seq (.rgn [] (by simp only [go_sem, seval, aj_, ac_]; rfl) ?_ ?_)
  ·first | trivial | simp
  refine .seq (.condB (by simp only [go_sem, seval, aj_, ac_]; rfl) (by simp only [go_sem, seval, aj_, ac_]) (fun h14 => ?_) (fun h14 => ?_))
  ·refine .skip (.seq (.block (.seq (.rgn [] (by simp only [go_sem, seval, aj_, ac_]; rfl) ?_ ?_))))
   ·first | trivial | simp
   refine .seq (.rgnD [] enM (by simp only [go_sem, seval, aj_, ac_, e8_ (show k < a.length by simpa using h14), e8_ (show k < b.length by simp at h14 h10; omega)]; rfl) (by rfl) ?_ ?_)
   ·simp at h14 h10; simp; omega
   refine .condB (by simp only [go_sem, seval, aj_, ac_]; rfl) (by simp only [go_sem, seval, aj_, ac_]) (fun h24 => ?_) (fun h24 => ?_)
   ·refine .seq (.rgn [] (by simp only [go_sem, seval, aj_, ac_]; rfl) ?_ ?_)
    ·first | trivial | simp
    refine .ret ⟨.inr rfl, ?_⟩
    exact Out.plain (by simp only [Tryz.results86]; rfl) (by simp only [ay_, a6_, go_sem, seval, aj_, ac_] <;> (split <;> rfl)) (by simp only [a5_, go_sem, seval, aj_, ac_] <;> (have h2 : a.getD k 0 ≠ b.getD k 0 := bne_iff_ne.1 h24; have : a ≠ b := (fun e => h2 (by rw [e])); simp [this])) (by simp only [go_sem, seval, aj_, ac_])
   ·refine .skip (.rgn [] (by simp only [go_sem, seval, aj_, ac_]; rfl) ?_ ?_)
    ·first | trivial | simp
    refine Exists.intro (k + 1) ⟨?_, ?_, ?_⟩
    ·simp only [T3_] at h14; simp at h10; exact ⟨by omega, mj_ (d := 0) (by omega) (by omega) hI.2 (by simpa using h24)⟩
    ·simp at h14; omega
    exact Can.weak (Weak.lit (by simp only [go_sem, seval, aj_, ac_, ar_, leV, ap_, aq_, V.inn, us, T9_, Ta_] <;> (rw [bd_ (by simp at h14; omega) (by simp at h14; omega)]; simp)) (by simp only [go_sem, seval, aj_, ac_, ar_, leV, ap_, aq_, V.inn, us, T9_, Ta_]) (by simp only [go_sem, seval, aj_, ac_, ar_, leV, ap_, aq_, V.inn, us, T9_, Ta_]))
  ·refine .exit (.seq (.rgn [] (by simp only [go_sem, seval, aj_, ac_]; rfl) ?_ ?_))
   ·first | trivial | simp
   refine .ret ⟨.inr rfl, ?_⟩
   exact Out.plain (by simp only [Tryz.results86]; rfl) (by simp only [ay_, a6_, go_sem, seval, aj_, ac_] <;> (split <;> rfl)) (by simp only [a5_, go_sem, seval, aj_, ac_] <;> (simp only [T4_] at h14; simp at h10; have q := hI.2; rw [T1_ (by omega), T1_ (by omega)] at q; simp [q])) (by simp only [go_sem, seval, aj_, ac_])
theorem wf_ {p q : Pg} : (p = q) ↔ (((p.line = q.line ∧ p.good = q.good) ∧ p.text = q.text) ∧ p.frm = q.frm) := by
 constructor
 ·rintro rfl; exact ⟨⟨⟨rfl, rfl⟩, rfl⟩, rfl⟩
 ·intro h; obtain ⟨a, b, c, d⟩ := p; obtain ⟨a2, b2, c2, d2⟩ := q; simp_all
theorem amr_ (p q : Pg) (hp : pgB p) (hq : pgB q) : ACall En 55 [.ag (pgC p), .ag (pgC q)] [] [.b (decide (p = q))] [] := by
 have h1 := hp.2.2
 have h2 := hq.2.2
 have T := @wf_ p q
 refine ak_ (fn := Tryz.f55) [] Tryz.func55 rfl rfl (by simp) fun C => ?_
 rw [aw_]
 simp only [Tryz.ntmps55, T7_, List.length_nil, Nat.reduceAdd, Nat.reduceSub, List.replicate_succ, List.replicate_zero, List.cons_append, List.nil_append, bo_]
 refine .seq (.rgn [] (by simp only [go_sem, seval, ag_, ac_]; rfl) ?_ ?_)
 ·first | trivial | simp
 refine .seq (.rgn [a3_ (ah9_ p.frm q.frm (by omega) (by omega))] (by simp only [go_sem, seval, ag_, ac_]; rfl) ?_ ?_)
 ·first | trivial | simp
 refine .ret ⟨.inr rfl, ?_⟩
 exact Out.plain (by simp only [Tryz.results55]; rfl) (by simp only [ay_, a6_, go_sem, seval, ag_, ac_] <;> (split <;> rfl)) (by simp only [a5_, go_sem, seval, ag_, ac_] <;> (have e : (p.line == q.line && p.good == q.good && p.text == q.text && p.frm == q.frm) = decide (p = q) := (by rw [Bool.eq_iff_iff]; simp only [T5_, beq_iff_eq, T3_]; exact T.symm); rw [e])) (by simp only [go_sem, seval, ag_, ac_])
theorem ac1_ (p : Pg) (hp : pgB p) : ACall En 53 [.ag (pgC p)] [] [.b (!okP p)] [] := by
 have P := nr_ p.line (by have := hp.1; omega)
 have B := p6_ hp.1
 refine ak_ (fn := Tryz.f53) [] Tryz.func53 rfl rfl (by simp) fun C => ?_
 rw [aw_]
 simp only [Tryz.ntmps53, T7_, List.length_nil, Nat.reduceAdd, Nat.reduceSub, List.replicate_succ, List.replicate_zero, List.cons_append, List.nil_append, bo_]
 refine .seq (.rgn [] (by simp only [go_sem, seval, ag_, ac_]; rfl) ?_ ?_)
 ·first | trivial | simp
 refine .seq (.rgnD [a3_ (pu_ p.line (by have := hp.1; omega)), a3_ P, a3_ (amr_ p (db_ p.line) hp B)] enM (by simp only [go_sem, seval, ag_, ac_]; rfl) (by rfl) ?_ ?_)
 ·first | trivial | simp
 refine .ret ⟨.inr rfl, ?_⟩
 exact Out.plain (by simp only [Tryz.results53]; rfl) (by simp only [ay_, a6_, go_sem, seval, ag_, ac_] <;> (split <;> rfl)) (by simp only [a5_, go_sem, seval, ag_, ac_] <;> (rw [okP, Bool.not_and])) (by simp only [go_sem, seval, ag_, ac_])
theorem ajb_ (l : List Pg) (hs : ∀ p ∈ l, pgB p) (hl : l.length ≤ 1000000) : ACall En 84 [.sl false (pgR l), .fn (.func 53) [] []] [] [.i .i64 (xu_ (fun p => !okP p) l)] [] := by
 refine ak_ (fn := Tryz.f84) [] Tryz.func84 rfl rfl (by simp) fun C => ?_
 rw [aw_]
 simp only [Tryz.ntmps84, T7_, List.length_nil, Nat.reduceAdd, Nat.reduceSub, List.replicate_succ, List.replicate_zero, List.cons_append, List.nil_append, bo_]
 refine .seq (.rgn [] (by simp only [go_sem, seval, ae_, ad_, ag_]; rfl) ?_ ?_)
 ·first | trivial | simp
 refine .seq (.seq (.rgn [] (by simp only [go_sem, seval, ae_, ad_, ag_]; rfl) ?_ ?_))
 ·first | trivial | simp
 refine .block (.loopK (fun k : Nat => ⟨[.sl false (pgR l), .fn (.func 53) [] [], .no, .no, .no, .no, .no, .i .i64 l.length, .i .i64 k, .no, .no, .no, .no, .no, .no, .no, .no, .no, .no], be_ [], us []⟩) (fun k : Nat => k ≤ l.length ∧ (l.take k).any (fun p => !okP p) = false) (fun k : Nat => l.length - k) (0) ?_ ?_ (fun k hI => ?_))
 ·simp
 ·exact Can.weak (Weak.lit (by simp only [go_sem, seval, ae_, ad_, ag_, ar_, leV, ap_, aq_, V.inn, us, T9_, Ta_] <;> (simp)) (by simp only [go_sem, seval, ae_, ad_, ag_, ar_, leV, ap_, aq_, V.inn, us, T9_, Ta_]) (by simp only [go_sem, seval, ae_, ad_, ag_, ar_, leV, ap_, aq_, V.inn, us, T9_, Ta_]))
 refine .seq (.rgn [] (by simp only [go_sem, seval, ae_, ad_, ag_]; rfl) ?_ ?_)
 ·first | trivial | simp
 refine .seq (.condB (by simp only [go_sem, seval, ae_, ad_, ag_]; rfl) (by simp only [go_sem, seval, ae_, ad_, ag_]) (fun h9 => ?_) (fun h9 => ?_))
 ·refine .skip (.seq (.block (.seq (.rgn [] (by simp only [go_sem, seval, ae_, ad_, ag_]; rfl) ?_ ?_))))
  ·first | trivial | simp
  refine .seq (.rgn [b9_ (k < l.length) (fun h => ac1_ (l.getD k Pg0) (hs _ (bh_ h)))] (by simp only [go_sem, seval, ae_, ad_, ag_, cz_ (show k < l.length by simpa using h9)]; rfl) ?_ ?_)
  ·simp only [T3_] at h9; simp only [py_, ac_, cj_, V.pure, Bool.and_true, true_and]; and_intros <;> first | omega | (simp; done) | trivial
  refine .condB (by simp only [go_sem, seval, ae_, ad_, ag_]; rfl) (by simp only [go_sem, seval, ae_, ad_, ag_]) (fun h16 => ?_) (fun h16 => ?_)
  ·refine .seq (.rgn [] (by simp only [go_sem, seval, ae_, ad_, ag_]; rfl) ?_ ?_)
   ·first | trivial | simp
   refine .ret ⟨.inr rfl, ?_⟩
   exact Out.plain (by simp only [Tryz.results84]; rfl) (by simp only [ay_, a6_, go_sem, seval, ae_, ad_, ag_] <;> (split <;> rfl)) (by simp only [a5_, go_sem, seval, ae_, ad_, ag_] <;> (simp at h9; rw [aab_ (d := Pg0) h9 hI.2 h16])) (by simp only [go_sem, seval, ae_, ad_, ag_])
  ·refine .skip (.rgn [] (by simp only [go_sem, seval, ae_, ad_, ag_]; rfl) ?_ ?_)
   ·first | trivial | simp
   refine Exists.intro (k + 1) ⟨?_, ?_, ?_⟩
   ·simp at h9; refine ⟨by omega, ?_⟩; rw [we_ (d := Pg0) h9, hI.2, h16]; rfl
   ·simp at h9; omega
   exact Can.weak (Weak.lit (by simp only [go_sem, seval, ae_, ad_, ag_, ar_, leV, ap_, aq_, V.inn, us, T9_, Ta_] <;> (rw [bd_ (by omega) (by omega)]; simp)) (by simp only [go_sem, seval, ae_, ad_, ag_, ar_, leV, ap_, aq_, V.inn, us, T9_, Ta_]) (by simp only [go_sem, seval, ae_, ad_, ag_, ar_, leV, ap_, aq_, V.inn, us, T9_, Ta_]))
 ·refine .exit (.seq (.rgn [] (by simp only [go_sem, seval, ae_, ad_, ag_]; rfl) ?_ ?_))
  ·first | trivial | simp
  refine .ret ⟨.inr rfl, ?_⟩
  exact Out.plain (by simp only [Tryz.results84]; rfl) (by simp only [ay_, a6_, go_sem, seval, ae_, ad_, ag_] <;> (split <;> rfl)) (by simp only [a5_, go_sem, seval, ae_, ad_, ag_] <;> (simp at h9; have h0 := hI.2; rw [T1_ h9] at h0; rw [sq_ h0])) (by simp only [go_sem, seval, ae_, ad_, ag_])
theorem ah6_ (l : List Pg) (hs : ∀ p ∈ l, pgB p) (hl : l.length ≤ 1000000) : ACall En 52 [.sl false (pgR l), .fn (.func 53) [] []] [] [.b (l.any fun p => !okP p)] [] := by
 refine ak_ (fn := Tryz.f52) [] Tryz.func52 rfl rfl (by simp) fun C => ?_
 rw [aw_]
 simp only [Tryz.ntmps52, T7_, List.length_nil, Nat.reduceAdd, Nat.reduceSub, List.replicate_succ, List.replicate_zero, List.cons_append, List.nil_append, bo_]
 refine .seq (.rgn [] (by simp only [go_sem, seval, ad_]; rfl) ?_ ?_)
 ·first | trivial | simp
 refine .seq (.rgn [a3_ (ajb_ l hs hl)] (by simp only [go_sem, seval, ad_]; rfl) ?_ ?_)
 ·first | trivial | simp
 refine .ret ⟨.inr rfl, ?_⟩
 exact Out.plain (by simp only [Tryz.results52]; rfl) (by simp only [ay_, a6_, go_sem, seval, ad_] <;> (split <;> rfl)) (by simp only [a5_, go_sem, seval, ad_] <;> (rw [aam_])) (by simp only [go_sem, seval, ad_])
theorem ajs_ (l : List Pg) : cf_ l = ((decide ((1 : Int) ≤ l.length) && decide ((l.length : Int) ≤ 16)) && !l.any fun p => !okP p) := by
 rw [List.any_eq_not_all_not]; simp only [cf_, Bool.not_not, im_]; rfl
theorem en_ (l : List Pg) (hs : ∀ p ∈ l, pgB p) (hl : l.length ≤ 1000000) : ACall En 19 [.sl false (pgR l)] [] [.b (cf_ l)] [] := by
 refine ak_ (fn := Tryz.f19) [] Tryz.func19 rfl rfl (by simp) fun C => ?_
 rw [aw_]
 simp only [Tryz.ntmps19, T7_, List.length_nil, Nat.reduceAdd, Nat.reduceSub, List.replicate_succ, List.replicate_zero, List.cons_append, List.nil_append, bo_]
 refine .seq (.rgn [] (by simp only [go_sem, seval, ae_, ad_]; rfl) ?_ ?_)
 ·first | trivial | simp
 refine .seq (.rgn [a3_ (zo_ l.length 1 16), a3_ (ah6_ l hs hl)] (by simp only [go_sem, seval, ae_, ad_]; rfl) ?_ ?_)
 ·first | trivial | simp
 refine .ret ⟨.inr rfl, ?_⟩
 exact Out.plain (by simp only [Tryz.results19]; rfl) (by simp only [ay_, a6_, go_sem, seval, ae_, ad_] <;> (split <;> rfl)) (by simp only [a5_, go_sem, seval, ae_, ad_] <;> (rw [ajs_])) (by simp only [go_sem, seval, ae_, ad_])
def zPg : List V := [.s [], .b false, .s [], .sl true []]
theorem fq_ (l : List Pg) (k j : Nat) : ((eu_ (pgR l) zPg k).getD j []).drop 4 = [] := by
 rw [T8_]
 cases h : (eu_ (pgR l) zPg k)[j]? with
 | none => rfl
 | some r =>
  have hm := List.mem_of_getElem? h
  have : r.length = 4 := by
   rcases mm_ hm with hm | rfl
   ·obtain ⟨s, _, rfl⟩ := List.mem_map.1 hm; rfl
   ·rfl
  simp only [Option.getD_some]; exact List.drop_of_length_le (by omega)
theorem ajg_ {ls : List Str} {k : Nat} (h : k < ls.length) : (pgR (ls.map db_)).getD k [] = pgC (db_ (ls.getD k [])) := by
 rw [cz_ (by simpa using h)]
 simp [T8_, T6_ h]
theorem s0_ (s : Str) (hs : s.length ≤ 281474976710656) : ACall En 13 [.s s] [] [.sl false (pgR (fc_ s))] [] := by
 have hL := k9_ s
 have hM := ht_ s
 have hb : fc_ s = if (c0_ s).length ≤ 16 then (c0_ s).map db_ else [] := rfl
 have T := mp_ s hs
 generalize c0_ s = ls at *
 have hp : ∀ k, b7_ (eu_ (pgR (ls.map db_)) zPg k) = true := fun k => hf_ (ad_ _) rfl
 have hll : (pgR (ls.map db_)).length = ls.length := by simp [pgR]
 refine ak_ (fn := Tryz.f13) [] Tryz.func13 rfl rfl (by simp) fun C => ?_
 rw [aw_]
 simp only [Tryz.ntmps13, T7_, List.length_nil, Nat.reduceAdd, Nat.reduceSub, List.replicate_succ, List.replicate_zero, List.cons_append, List.nil_append, bo_]
 refine .seq (.rgn [] (by simp only [go_sem, seval, ab_, aa_, ad_, hp, hll, fq_, au_, ag_]; rfl) ?_ ?_)
 ·(first | trivial | (simp; done) | (simp only [T3_, T4_] at h11 h18; and_intros <;> first | omega | exact ac_ _) | (simp only [T4_] at h11; and_intros <;> omega))
 refine .seq (.rgn [a3_ T] (by simp only [go_sem, seval, ab_, aa_, ad_, hp, hll, fq_, au_, ag_]; rfl) ?_ ?_)
 ·(first | trivial | (simp; done) | (simp only [T3_, T4_] at h11 h18; and_intros <;> first | omega | exact ac_ _) | (simp only [T4_] at h11; and_intros <;> omega))
 refine .seq (.seq (.rgn [] (by simp only [go_sem, seval, ab_, aa_, ad_, hp, hll, fq_, au_, ag_]; rfl) ?_ ?_))
 ·(first | trivial | (simp; done) | (simp only [T3_, T4_] at h11 h18; and_intros <;> first | omega | exact ac_ _) | (simp only [T4_] at h11; and_intros <;> omega))
 refine .condB (by simp only [go_sem, seval, ab_, aa_, ad_, hp, hll, fq_, au_, ag_]; rfl) (by simp only [go_sem, seval, ab_, aa_, ad_, hp, hll, fq_, au_, ag_]) (fun h11 => ?_) (fun h11 => ?_)
 ·refine .seq (.rgn [] (by simp only [go_sem, seval, ab_, aa_, ad_, hp, hll, fq_, au_, ag_]; rfl) ?_ ?_)
  ·(first | trivial | (simp; done) | (simp only [T3_, T4_] at h11 h18; and_intros <;> first | omega | exact ac_ _) | (simp only [T4_] at h11; and_intros <;> omega))
  refine .ret ⟨.inr rfl, ?_⟩
  exact Out.plainL (by simp only [Tryz.results13]; rfl) (by simp only [ay_, a6_, go_sem, seval, ab_, aa_, ad_, hp, hll, fq_, au_, ag_] <;> (split <;> rfl)) (by simp only [a5_, go_sem, seval, ab_, aa_, ad_, hp, hll, fq_, au_, ag_] <;> (simp only [T3_] at h11; rw [hb, if_neg (by omega)]; simp [pgR, les, ler, leV])) (by simp only [go_sem, seval, ab_, aa_, ad_, hp, hll, fq_, au_, ag_])
 ·refine .skip (.seq (.rgn [] (by simp only [go_sem, seval, ab_, aa_, ad_, hp, hll, fq_, au_, ag_]; rfl) ?_ ?_))
  ·(first | trivial | (simp; done) | (simp only [T3_, T4_] at h11 h18; and_intros <;> first | omega | exact ac_ _) | (simp only [T4_] at h11; and_intros <;> omega))
  refine .seq (.seq (.rgn [] (by simp only [go_sem, seval, ab_, aa_, ad_, hp, hll, fq_, au_, ag_]; rfl) ?_ ?_))
  ·(first | trivial | (simp; done) | (simp only [T3_, T4_] at h11 h18; and_intros <;> first | omega | exact ac_ _) | (simp only [T4_] at h11; and_intros <;> omega))
  refine .block (.loopK (fun k : Nat => ⟨[.no, .no, .no, .no, .ow 24 4 0 ls.length, .no, .no, .no, .no, .no, .no, .no, .no, .no, .no, .sl false (bp_ ls), .i .i64 ls.length, .i .i64 k, .no, .no, .no, .no, .no, .no, .no, .no, .no, .no, .no], be_ [(24, ⟨47, 4, eu_ (pgR (ls.map db_)) zPg k⟩)], us [24]⟩) (fun k : Nat => k ≤ ls.length) (fun k : Nat => ls.length - k) (0) ?_ ?_ (fun k hI => ?_))
  ·simp
  ·exact Can.weak (Weak.lit (by simp only [go_sem, seval, ab_, aa_, ad_, hp, hll, fq_, au_, ag_, ar_, leV, ap_, aq_, V.inn, us, T9_, Ta_] <;> ((try simp))) (by simp only [go_sem, seval, ab_, aa_, ad_, hp, hll, fq_, au_, ag_, ar_, leV, ap_, aq_, V.inn, us, T9_, Ta_]) (by simp only [go_sem, seval, ab_, aa_, ad_, hp, hll, fq_, au_, ag_, ar_, leV, ap_, aq_, V.inn, us, T9_, Ta_] <;> (simp [hh_, zPg, hll])))
  refine .seq (.rgn [] (by simp only [go_sem, seval, ab_, aa_, ad_, hp, hll, fq_, au_, ag_]; rfl) ?_ ?_)
  ·(first | trivial | (simp; done) | (simp only [T3_, T4_] at h11 h18; and_intros <;> first | omega | exact ac_ _) | (simp only [T4_] at h11; and_intros <;> omega))
  refine .seq (.condB (by simp only [go_sem, seval, ab_, aa_, ad_, hp, hll, fq_, au_, ag_]; rfl) (by simp only [go_sem, seval, ab_, aa_, ad_, hp, hll, fq_, au_, ag_]) (fun h18 => ?_) (fun h18 => ?_))
  ·refine .skip (.seq (.block (.seq (.rgn [] (by simp only [go_sem, seval, ab_, aa_, ad_, hp, hll, fq_, au_, ag_, ca_ (show k < ls.length by simpa using h18)]; rfl) ?_ ?_))))
   ·(first | trivial | (simp; done) | (simp only [T3_, T4_] at h11 h18; and_intros <;> first | omega | exact ac_ _) | (simp only [T4_] at h11; and_intros <;> omega))
   refine .rgn [b9_ (k < ls.length) (fun h => nr_ (ls.getD k []) (by have := hM _ (bh_ (d := []) h); omega))] (by simp only [go_sem, seval, ab_, aa_, ad_, hp, hll, fq_, au_, ag_]; rfl) ?_ ?_
   ·(first | trivial | (simp; done) | (simp only [T3_, T4_] at h11 h18; and_intros <;> first | omega | exact ac_ _) | (simp only [T4_] at h11; and_intros <;> omega))
   refine .rgn [] (by simp only [go_sem, seval, ab_, aa_, ad_, hp, hll, fq_, au_, ag_]; rfl) ?_ ?_
   ·(first | trivial | (simp; done) | (simp only [T3_, T4_] at h11 h18; and_intros <;> first | omega | exact ac_ _) | (simp only [T4_] at h11; and_intros <;> omega))
   refine Exists.intro (k + 1) ⟨?_, ?_, ?_⟩
   ·simp at h18; omega
   ·simp at h18; omega
   exact Can.weak (Weak.lit (by simp only [go_sem, seval, ab_, aa_, ad_, hp, hll, fq_, au_, ag_, ar_, leV, ap_, aq_, V.inn, us, T9_, Ta_] <;> (rw [bd_ (by simp at h18; omega) (by simp at h18; omega)]; (try simp))) (by simp only [go_sem, seval, ab_, aa_, ad_, hp, hll, fq_, au_, ag_, ar_, leV, ap_, aq_, V.inn, us, T9_, Ta_]) (by simp only [go_sem, seval, ab_, aa_, ad_, hp, hll, fq_, au_, ag_, ar_, leV, ap_, aq_, V.inn, us, T9_, Ta_] <;> (rw [← hx_ (by rw [hll]; simpa using h18), ajg_ (by simpa using h18), ag_])))
  ·refine .exit (.seq (.rgn [] (by simp only [go_sem, seval, ab_, aa_, ad_, hp, hll, fq_, au_, ag_]; rfl) ?_ ?_))
   ·(first | trivial | (simp; done) | (simp only [T3_, T4_] at h11 h18; and_intros <;> first | omega | exact ac_ _) | (simp only [T4_] at h11; and_intros <;> omega))
   refine .frz 24 (by simp only [go_sem, seval, ab_, aa_, ad_, hp, hll, fq_, au_, ag_]; rfl) (by simp only [go_sem, seval, ab_, aa_, ad_, hp, hll, fq_, au_, ag_]) (by simp only [go_sem, seval, ab_, aa_, ad_, hp, hll, fq_, au_, ag_]; rfl) (by simp only [go_sem, seval, ab_, aa_, ad_, hp, hll, fq_, au_, ag_]; rfl) ?_
   refine .ret ⟨.inr rfl, ?_⟩
   exact Out.plainL (by simp only [Tryz.results13]; rfl) (by simp only [ay_, a6_, go_sem, seval, ab_, aa_, ad_, hp, hll, fq_, au_, ag_] <;> (split <;> rfl)) (by simp only [a5_, go_sem, seval, ab_, aa_, ad_, hp, hll, fq_, au_, ag_] <;> (simp only [T4_] at h11 h18; rw [hb, if_pos (by omega), it_ (by rw [hll]; omega), T1_ (by rw [hll]; exact Nat.le_refl _)]; simp [les, leV, a9_])) (by simp only [go_sem, seval, ab_, aa_, ad_, hp, hll, fq_, au_, ag_])
end
end Go.Proofs.YtpikbndepapbhaaGreatDoor
