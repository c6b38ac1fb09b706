/- Tree logic, part 13: a region, in the order of its text, or in whatever order its edges allow. Conditions: none. -/
import Derived.Test.YtefmbmafdgedmaaGreatDoorMa
import Derived.Laws.BytesArg
import Derived.Lib.SliceRun
import Derived.WideLaws
import Derived.MapKept
import Derived.Laws.StructEq
import Derived.Lib.AppendZerosOnto
set_option linter.unusedVariables false
set_option linter.unusedSimpArgs false
namespace Go.Proofs.YtefmbmafdgedmaaGreatDoor
section
open Go.RowKit
inductive Lex (E : Env) (ops : Array Oper) : List Oper → St → List Eff → St → Prop
 | nil (s : St) : Lex E ops [] s [] s
 | cons {o : Oper} {rest : List Oper} {s s' : St} {e : Eff} {es : List Eff} (h : RS1 E ops o s e) (hn : ∀ l ∈ e.nw, s.u l = false) (r : Lex E ops rest (s.eff o.dst e) es s') : Lex E ops (o :: rest) s (e :: es) s'
section
variable {E : Env} {C : Cx} {φ : Phi} {s s' : St} {a : Act} {w w' : World} {o : Oper} {e : Eff} {ops : Array Oper} {Q : Exit → Act → World → Prop}
theorem Lex.run : ∀ {l : List Oper} {s : St} {es : List Eff} {a : Act} {w : World} {φ : Phi}, Lex E ops l s es s' → RelAt E C φ s a w → (∀ φ' a' w', RelAt E C φ' s' a' w' → Q .normal a' w') → wpList E.P ops Q l a w
 | _, _, _, _, _, _, .nil _, hr, hQ => wpList_nil (hQ _ _ _ hr)
 | _, _, _, _, _, _, .cons h hn r, hr, hQ => wpList_step fun K hK => h.run hn hr fun φ' a' w' hr' => hK a' w' (r.run hr' hQ)
/-! ### whatever order -/
def stD (D : Nat → Bool) : Nat → List (Oper × Eff) → St → St
 | _, [], s => s
 | k, (o, e) :: r, s => stD D (k + 1) r (if D k then s.eff o.dst e else s)
theorem gq_ {e : Eff} {m : Mem} {x : Nat} (h : x ∉ e.wr.map (·.1)) : e.mem m x = m x :=
 ej_ _ _ fun p hp hx => h (by rw [← hx]; exact List.mem_map.2 ⟨p, hp, rfl⟩)
theorem nk_ {x : Nat} : ∀ (l : List (Nat × Option Blk)) (m m' : Mem), x ∈ l.map (·.1) → (l.foldl (fun m p => upd m p.1 p.2) m) x = (l.foldl (fun m p => upd m p.1 p.2) m') x
 | [], _, _, h => by simp at h
 | p :: l, m, m', h => by
  by_cases hx : x ∈ l.map (·.1)
  ·simp only [List.foldl_cons]; exact nk_ l _ _ hx
  ·have hp : x = p.1 := by simpa [hx] using h
   have hn : ∀ q ∈ l, q.1 ≠ x := fun q hq e => hx (by rw [← e]; exact List.mem_map.2 ⟨q, hq, rfl⟩)
   simp only [List.foldl_cons]
   rw [ej_ l _ hn, ej_ l _ hn, hp, c4_, c4_]
theorem th_ {e : Eff} {m m' : Mem} {x : Nat} (h : x ∈ e.wr.map (·.1)) : e.mem m x = e.mem m' x := nk_ _ _ _ h
theorem ki_ (s : St) (d : Option Tmp) (e : Eff) : (s.eff d e).σ = match d with | some t => s.σ.set t e.v | none => s.σ := by cases d <;> rfl
theorem z7_ (s : St) (d : Option Tmp) (e : Eff) : (s.eff d e).m = e.mem s.m := by cases d <;> rfl
theorem r4_ (s : St) (d : Option Tmp) (e : Eff) : (s.eff d e).u = e.use s.u := by cases d <;> rfl
theorem St.ext' {s t : St} (h1 : s.σ = t.σ) (h2 : s.m = t.m) (h3 : s.u = t.u) : s = t := by cases s; cases t; simp_all
structure Apart2 (d1 : Option Tmp) (e1 : Eff) (d2 : Option Tmp) (e2 : Eff) : Prop where
 dst : ∀ t, d1 = some t → d2 ≠ some t
 mem : ∀ x, x ∈ e1.wr.map (·.1) → x ∉ e2.wr.map (·.1)
theorem yz_ {d1 d2 : Option Tmp} {e1 e2 : Eff} (h : Apart2 d1 e1 d2 e2) (s : St) : (s.eff d1 e1).eff d2 e2 = (s.eff d2 e2).eff d1 e1 := by
 apply St.ext'
 ·rw [ki_, ki_, ki_, ki_]
  cases d1 with
  | none => cases d2 <;> rfl
  | some t =>
   cases d2 with
   | none => rfl
   | some u => exact List.set_comm _ _ (fun e => h.dst t rfl (by rw [e]))
 ·simp only [z7_]
  funext x
  by_cases h1 : x ∈ e1.wr.map (·.1)
  ·rw [gq_ (h.mem x h1)]; exact th_ h1
  ·by_cases h2 : x ∈ e2.wr.map (·.1)
   ·rw [gq_ (e := e1) h1]; exact th_ h2
   ·rw [gq_ h2, gq_ h1, gq_ h1, gq_ h2]
 ·simp only [r4_, Eff.use]
  funext x
  show ((s.u x || e1.nw.contains x) || e2.nw.contains x) = ((s.u x || e2.nw.contains x) || e1.nw.contains x)
  generalize s.u x = p
  generalize e1.nw.contains x = q
  generalize e2.nw.contains x = r
  cases p <;> cases q <;> cases r <;> rfl
theorem uf_ {D : Nat → Bool} {d : Option Tmp} {e : Eff} : ∀ (l : List (Oper × Eff)) (k : Nat) (s : St), (∀ j p, l[j]? = some p → D (k + j) = true → Apart2 d e p.1.dst p.2) → stD D k l (s.eff d e) = (stD D k l s).eff d e
 | [], _, _, _ => rfl
 | (o, e') :: l, k, s, h => by
  simp only [stD]
  have ih := fun s' => uf_ l (k + 1) s' (fun j p hj hD => h (j + 1) p (by simpa using hj) (by rwa [Nat.add_assoc, Nat.add_comm 1 j] at hD))
  cases hD : D k with
  | true =>
   simp only [if_true]
   rw [yz_ (h 0 (o, e') rfl (by simpa using hD))]
   exact ih _
  | false => simp only [Bool.false_eq_true, if_false]; exact ih s
theorem ub_ {D : Nat → Bool} {i : Nat} : ∀ (l : List (Oper × Eff)) (k : Nat) (s : St) (o : Oper) (e : Eff), l[i]? = some (o, e) → D (k + i) = false → (∀ j p, i < j → l[j]? = some p → D (k + j) = true → Apart2 o.dst e p.1.dst p.2) →
  stD (fun x => if x = k + i then true else D x) k l s = (stD D k l s).eff o.dst e
 | [], _, _, _, _, h, _, _ => by simp at h
 | (o', e') :: l, k, s, o, e, h, hD, ha => by
  cases i with
  | zero =>
   simp at h
   obtain ⟨rfl, rfl⟩ := h
   simp only [stD, Nat.add_zero, if_true]
   rw [Nat.add_zero] at hD
   simp only [hD, Bool.false_eq_true, if_false]
   have hsame : ∀ (m : List (Oper × Eff)) (q : Nat) (t : St), k < q → stD (fun x => if x = k then true else D x) q m t = stD D q m t := fun m => by
    induction m with
    | nil => intros; rfl
    | cons p m ih =>
     intro q t hq
     obtain ⟨o2, e2⟩ := p
     have hqk : ¬ q = k := by omega
     simp only [stD, hqk, if_false]
     exact ih _ _ (by omega)
   rw [hsame _ _ _ (by omega)]
   exact uf_ l (k + 1) s (fun j p hj hD2 => ha (j + 1) p (by omega) (by simpa using hj) (by rwa [Nat.add_assoc, Nat.add_comm 1 j] at hD2))
  | succ i =>
   have hki : ¬ k = k + (i + 1) := by omega
   simp only [stD, hki, if_false]
   rw [show k + (i + 1) = k + 1 + i by omega]
   exact ub_ l (k + 1) _ o e (by simpa using h) (by rwa [show k + (i + 1) = k + 1 + i by omega] at hD) (fun j p hij hj hD2 => ha (j + 1) p (by omega) (by simpa using hj) (by rwa [Nat.add_assoc, Nat.add_comm 1 j] at hD2))
theorem adg_ {D D' : Nat → Bool} {t : Nat} : ∀ (l : List (Oper × Eff)) (k : Nat) (s s' : St), s.σ.length = s'.σ.length → s.σ[t]? = s'.σ[t]? → (∀ j p, l[j]? = some p → p.1.dst = some t → D (k + j) = D' (k + j)) → (stD D k l s).σ[t]? = (stD D' k l s').σ[t]?
 | [], _, _, _, _, h, _ => h
 | (o, e) :: l, k, s, s', hl, h, hw => by
  simp only [stD]
  refine adg_ l (k + 1) _ _ ?_ ?_ (fun j p hj hd => by have := hw (j + 1) p (by simpa using hj) hd; rwa [show k + (j + 1) = k + 1 + j by omega] at this)
  ·have : ∀ (s : St), (s.eff o.dst e).σ.length = s.σ.length := fun s => by rw [ki_]; cases o.dst <;> simp
   cases D k <;> cases D' k <;> simp [this, hl]
  ·have h0 := hw 0 (o, e) rfl
   simp only [Nat.add_zero] at h0
   have hne : o.dst ≠ some t → ∀ s : St, (s.eff o.dst e).σ[t]? = s.σ[t]? := fun hd s => by
    rw [ki_]
    cases hod : o.dst with
    | none => rfl
    | some u => simp only []; rw [List.getElem?_set_ne (fun hh => hd (by rw [hod, hh]))]
   by_cases hd : o.dst = some t
   ·rw [h0 hd]
    cases D' k with
    | false => simpa using h
    | true =>
     simp only [if_true]
     rw [ki_, ki_, hd]
     simp only [List.getElem?_set, hl]
     simp
   ·cases D k <;> cases D' k <;> simp only [if_true, Bool.false_eq_true, if_false, hne hd] <;> exact h
theorem ac9_ {D D' : Nat → Bool} {x : Nat} : ∀ (l : List (Oper × Eff)) (k : Nat) (s s' : St), s.m x = s'.m x → (∀ j p, l[j]? = some p → x ∈ p.2.wr.map (·.1) → D (k + j) = D' (k + j)) → (stD D k l s).m x = (stD D' k l s').m x
 | [], _, _, _, h, _ => h
 | (o, e) :: l, k, s, s', h, hw => by
  simp only [stD]
  refine ac9_ l (k + 1) _ _ ?_ (fun j p hj hd => by have := hw (j + 1) p (by simpa using hj) hd; rwa [show k + (j + 1) = k + 1 + j by omega] at this)
  have h0 := hw 0 (o, e) rfl
  simp only [Nat.add_zero] at h0
  by_cases hd : x ∈ e.wr.map (·.1)
  ·rw [h0 hd]
   cases D' k with
   | false => simpa using h
   | true => simp only [if_true, z7_]; exact th_ hd
  ·cases D k <;> cases D' k <;> simp only [if_true, Bool.false_eq_true, if_false, z7_, gq_ hd] <;> exact h
theorem adb_ {D : Nat → Bool} {x : Nat} : ∀ (l : List (Oper × Eff)) (k : Nat) (s : St), s.u x = false → (∀ j p, l[j]? = some p → D (k + j) = true → x ∉ p.2.nw) → (stD D k l s).u x = false
 | [], _, _, h, _ => h
 | (o, e) :: l, k, s, h, hw => by
  simp only [stD]
  refine adb_ l (k + 1) _ ?_ (fun j p hj hd => hw (j + 1) p (by simpa using hj) (by rwa [show k + (j + 1) = k + 1 + j by omega]))
  cases hD : D k with
  | false => simpa using h
  | true =>
   have := hw 0 (o, e) rfl (by simpa using hD)
   simp only [if_true, r4_, Eff.use, h, Bool.false_or]
   simpa using this
theorem l9_ {D : Nat → Bool} : ∀ (l : List (Oper × Eff)) (k : Nat) (s : St), (∀ j, k ≤ j → D j = false) → stD D k l s = s
 | [], _, _, _ => rfl
 | (o, e) :: l, k, s, h => by simp only [stD, h k (Nat.le_refl _), Bool.false_eq_true, if_false]; exact l9_ l (k + 1) s fun j hj => h j (by omega)
theorem Lex.len : ∀ {l : List Oper} {s s' : St} {es : List Eff}, Lex E ops l s es s' → es.length = l.length
 | _, _, _, _, .nil _ => rfl
 | _, _, _, _, .cons _ _ r => by simp [r.len]
theorem Lex.at : ∀ {l : List Oper} {s s' : St} {es : List Eff}, Lex E ops l s es s' → ∀ (k i : Nat) (o : Oper) (e : Eff), (l.zip es)[i]? = some (o, e) →
  RS1 E ops o (stD (fun x => decide (x < k + i)) k (l.zip es) s) e ∧ ∀ n ∈ e.nw, (stD (fun x => decide (x < k + i)) k (l.zip es) s).u n = false
 | _, _, _, _, .nil _, _, _, _, _, h => by simp at h
 | _, _, _, _, .cons (es := es) (rest := rest) (s := s) h1 hn r, k, 0, o, e, h => by
  simp at h
  obtain ⟨rfl, rfl⟩ := h
  rw [l9_ _ _ _ (fun j hj => by simp; omega)]
  exact ⟨h1, hn⟩
 | _, _, _, _, .cons h1 hn r, k, i + 1, o, e, h => by
  simp only [List.zip_cons_cons, stD]
  rw [if_pos (by simp)]
  have := r.at (k + 1) i o e (by simpa using h)
  rwa [show k + 1 + i = k + (i + 1) by omega] at this
theorem Lex.fin : ∀ {l : List Oper} {s s' : St} {es : List Eff}, Lex E ops l s es s' → ∀ k, stD (fun _ => true) k (l.zip es) s = s'
 | _, _, _, _, .nil _, _ => rfl
 | _, _, _, _, .cons _ _ r, k => by simp only [List.zip_cons_cons, stD, if_true]; exact r.fin (k + 1)
inductive Ahead (ops : Array Oper) : Nat → Nat → Prop
 | edge {j : Nat} {o : Oper} {e : Edge} (ho : ops[j]? = some o) (he : e ∈ o.after.toList) (hb : Region.binds .any e = true) : Ahead ops e.on j
 | more {i j : Nat} {o : Oper} {e : Edge} (ho : ops[j]? = some o) (he : e ∈ o.after.toList) (hb : Region.binds .any e = true) (h : Ahead ops i e.on) : Ahead ops i j
def yc_ (acc : List Nat) (o : Oper) : Nat := o.after.toList.foldl (fun s e => if Region.binds .any e then s ||| 2 ^ e.on ||| acc.getD e.on 0 else s) 0
def uj_ : List Oper → List Nat → List Nat
 | [], acc => acc
 | o :: r, acc => uj_ r (acc ++ [yc_ acc o])
theorem of_ {acc : List Nat} {i : Nat} : ∀ (l : List Edge) (s0 : Nat), (l.foldl (fun s e => if Region.binds .any e then s ||| 2 ^ e.on ||| acc.getD e.on 0 else s) s0).testBit i = true →
  s0.testBit i = true ∨ ∃ e ∈ l, Region.binds .any e = true ∧ (e.on = i ∨ (acc.getD e.on 0).testBit i = true)
 | [], s0, h => .inl h
 | e :: l, s0, h => by
  rw [List.foldl_cons] at h
  rcases of_ l _ h with h | ⟨e', he', hb⟩
  ·cases hb : Region.binds .any e with
   | false => simp only [hb, Bool.false_eq_true, if_false] at h; exact .inl h
   | true =>
    simp only [hb, if_true, Nat.testBit_or, Bool.or_eq_true, Nat.testBit_two_pow, decide_eq_true_eq] at h
    rcases h with (h | h) | h
    ·exact .inl h
    ·exact .inr ⟨e, by simp, hb, .inl h⟩
    ·exact .inr ⟨e, by simp, hb, .inr h⟩
  ·exact .inr ⟨e', by simp [he'], hb⟩
theorem kj_ : ∀ (l : List Oper) (acc : List Nat), (∀ j, ops.toList[acc.length + j]? = l[j]?) → (∀ j i, (acc.getD j 0).testBit i = true → Ahead ops i j) → ∀ j i, ((uj_ l acc).getD j 0).testBit i = true → Ahead ops i j
 | [], acc, _, h => h
 | o :: l, acc, hl, h => by
  simp only [uj_]
  refine kj_ l _ (fun j => ?_) (fun j i hb => ?_)
  ·have := hl (j + 1)
   simpa [Nat.add_assoc, Nat.add_comm 1 j] using this
  ·rw [List.getD_eq_getElem?_getD] at hb
   rcases Nat.lt_trichotomy j acc.length with hj | hj | hj
   ·rw [List.getElem?_append_left hj, ← List.getD_eq_getElem?_getD] at hb
    exact h j i hb
   ·subst hj
    simp only [List.getElem?_append_right (Nat.le_refl _), Nat.sub_self, List.getElem?_cons_zero, Option.getD_some] at hb
    have ho : ops[acc.length]? = some o := by have := hl 0; simpa using this
    rcases of_ _ _ hb with h0 | ⟨e, he, hbd, h1⟩
    ·simp at h0
    ·rcases h1 with rfl | h1
     ·exact .edge ho he hbd
     ·exact .more ho he hbd (h _ _ h1)
   ·rw [List.getElem?_eq_none (by simp; omega)] at hb
    simp at hb
def cz_ (e : Eff) : List Nat × List Nat := (e.rd ++ e.wr.map (·.1), e.wr.map (·.1))
def e5_ (ops : Array Oper) (o1 : Oper) (i1 : List Nat × List Nat) (o2 : Oper) (i2 : List Nat × List Nat) : Bool :=
 (match o1.dst with | some t => (o2.looksAt ops).contains t || o2.dst == some t | none => false) ||
 (match o2.dst with | some t => (o1.looksAt ops).contains t | none => false) ||
 i1.2.any (i2.1.contains ·) || i2.2.any (i1.1.contains ·)
def h5_ (ops : Array Oper) (infos : List (List Nat × List Nat)) : Bool :=
 let cl := uj_ ops.toList []
 ops.toList.zipIdx.all (fun (o, j) => o.after.toList.all fun e => !Region.binds .any e || decide (e.on < j)) &&
 ((ops.toList.zip infos).zipIdx.all fun (p, j) => ((ops.toList.zip infos).zipIdx.take j).all fun (q, i) => !e5_ ops q.1 q.2 p.1 p.2 || (cl.getD j 0).testBit i)
theorem p6_ {infos : List (List Nat × List Nat)} (h : h5_ ops infos = true) :
  (∀ j o, ops[j]? = some o → ∀ e ∈ o.after.toList, Region.binds .any e = true → e.on < j) ∧
  (∀ i j p q, i < j → (ops.toList.zip infos)[i]? = some q → (ops.toList.zip infos)[j]? = some p → e5_ ops q.1 q.2 p.1 p.2 = true → Ahead ops i j) := by
 simp only [h5_, Bool.and_eq_true] at h
 obtain ⟨h1, h2⟩ := h
 refine ⟨fun j o ho e he hb => ?_, fun i j p q hij hq hp hc => ?_⟩
 ·have := List.all_eq_true.1 h1 (o, j) (List.mem_of_getElem? (i := j) (by rw [List.getElem?_zipIdx, Array.getElem?_toList, ho]; simp))
  have := List.all_eq_true.1 this e he
  simpa [hb] using this
 ·have h3 := List.all_eq_true.1 h2 (p, j) (List.mem_of_getElem? (i := j) (by rw [List.getElem?_zipIdx, hp]; simp))
  have h4 := List.all_eq_true.1 h3 (q, i) (List.mem_of_getElem? (i := i) (by rw [List.getElem?_take_of_lt hij, List.getElem?_zipIdx, hq]; simp))
  simp only [hc, Bool.not_true, Bool.false_or] at h4
  exact kj_ ops.toList [] (fun j => by simp) (fun j i hb => by simp at hb) j i h4
theorem Ahead.listed {listed : Nat → Bool} (hcl : ∀ j o, listed j = true → ops[j]? = some o → ∀ e ∈ o.after.toList, Region.binds .any e = true → listed e.on = true) :
  ∀ {i j : Nat}, Ahead ops i j → (listed j = true ∨ ∀ o, ops[j]? = some o → ∀ e ∈ o.after.toList, Region.binds .any e = true → listed e.on = true) → listed i = true := by
 intro i j h
 induction h with
 | edge ho he hb => exact fun h => h.elim (fun h => hcl _ _ h ho _ he hb) (fun h => h _ ho _ he hb)
 | more ho he hb _ ih => exact fun h => ih (.inl (h.elim (fun h => hcl _ _ h ho _ he hb) (fun h => h _ ho _ he hb)))
theorem Op1.transfer {s2 : St} (h : Op1 E o s e) (h1 : ∀ x ∈ o.op.operands, s2.ev E x = s.ev E x) (h2 : ∀ l ∈ e.rd, s2.m l = s.m l) : Op1 E o s2 e :=
 fun s' g1 g2 g3 => h s' (fun x hx => (g1 x hx).trans (h1 x hx)) (fun l hl => (g2 l hl).trans (h2 l hl)) g3
theorem RS1.transfer {s2 : St} (h : RS1 E ops o s e) (h1 : ∀ t ∈ o.looksAt ops, s2.σ.getD t .no = s.σ.getD t .no) (h2 : ∀ l ∈ e.rd, s2.m l = s.m l) : RS1 E ops o s2 e := by
 have hop : ∀ x ∈ o.op.operands, s2.ev E x = s.ev E x := fun x hx => by
  cases x with
  | tmp t => exact h1 t (by simp only [Oper.looksAt, List.mem_append, List.mem_filterMap]; exact .inl ⟨.tmp t, Array.mem_toList_iff.2 hx, rfl⟩)
  | _ => rfl
 unfold RS1 at h ⊢
 cases hg : o.guard with
 | none => simp only [hg] at h ⊢; exact h.transfer hop h2
 | some jf =>
  obtain ⟨j, f⟩ := jf
  simp only [hg] at h ⊢
  obtain ⟨d, c, hd, hc, h⟩ := h
  have e1 : s2.σ.getD d .no = s.σ.getD d .no := h1 d (by simp only [Oper.looksAt, hg, List.mem_append, hd]; exact .inr (by simp))
  refine ⟨d, c, hd, by rw [e1]; exact hc, ?_⟩
  rw [e1]
  rcases h with ⟨v, he, hv⟩ | ⟨ht, hop'⟩ | h
  ·exact .inl ⟨v, he, fun hgc => (hv hgc).transfer hop h2⟩
  ·exact .inr (.inl ⟨ht, hop'.transfer hop h2⟩)
  ·exact .inr (.inr h)
end
end
section
open Go.RowKit
section
variable {E : Env} {C : Cx} {φ : Phi} {s s' : St} {a : Act} {w w' : World} {ops : Array Oper} {Q : Exit → Act → World → Prop}
theorem oe_ {α : Type} {p q : α → Bool} : ∀ {l : List α}, (∀ x ∈ l, q x = true → p x = true) → (∃ x ∈ l, p x = true ∧ q x = false) → (l.filter q).length < (l.filter p).length
 | [], _, ⟨x, hx, _⟩ => by cases hx
 | y :: l, h, ⟨x, hx, hp, hq⟩ => by
  have hle : ∀ (l : List α), (∀ x ∈ l, q x = true → p x = true) → (l.filter q).length ≤ (l.filter p).length := fun l => by
   induction l with
   | nil => intro _; simp
   | cons z l ih =>
    intro h
    have ih := ih fun x hx => h x (by simp [hx])
    have hz := h z (by simp)
    cases hqz : q z <;> cases hpz : p z <;> simp [List.filter_cons, hqz, hpz] <;> first | omega | (simp [hqz, hpz] at hz)
  have hl := hle l fun x hx => h x (by simp [hx])
  rcases List.mem_cons.1 hx with rfl | hx
  ·simp [List.filter_cons, hp, hq]; omega
  ·have ih := oe_ (l := l) (fun x hx => h x (by simp [hx])) ⟨x, hx, hp, hq⟩
   have hy := h y (by simp)
   cases hqy : q y <;> cases hpy : p y <;> simp [List.filter_cons, hqy, hpy] <;> first | omega | (simp [hqy, hpy] at hy)
def unl (n : Nat) (listed : Array Bool) : Nat := ((List.range n).filter fun i => !listed.getD i true).length
theorem mv_ {o1 o2 : Oper} {i1 i2 : List Nat × List Nat} {t : Nat} (h1 : o1.dst = some t) (h2 : t ∈ o2.looksAt ops ∨ o2.dst = some t) : e5_ ops o1 i1 o2 i2 = true := by
 unfold e5_
 simp only [h1, Bool.or_eq_true]
 rcases h2 with h2 | h2
 ·exact .inl (.inl (.inl (.inl (by simpa using h2))))
 ·exact .inl (.inl (.inl (.inr (by simp [h2]))))
theorem si_ {o1 o2 : Oper} {i1 i2 : List Nat × List Nat} {t : Nat} (h1 : o2.dst = some t) (h2 : t ∈ o1.looksAt ops) : e5_ ops o1 i1 o2 i2 = true := by
 unfold e5_
 simp only [h1, Bool.or_eq_true]
 exact .inl (.inl (.inr (by simpa using h2)))
theorem q1_ {o1 o2 : Oper} {i1 i2 : List Nat × List Nat} {x : Nat} (h1 : x ∈ i1.2) (h2 : x ∈ i2.1) : e5_ ops o1 i1 o2 i2 = true := by
 unfold e5_
 simp only [Bool.or_eq_true]
 exact .inl (.inr (List.any_eq_true.2 ⟨x, h1, by simpa using h2⟩))
theorem z5_ {o1 o2 : Oper} {i1 i2 : List Nat × List Nat} {x : Nat} (h1 : x ∈ i2.2) (h2 : x ∈ i1.1) : e5_ ops o1 i1 o2 i2 = true := by
 unfold e5_
 simp only [Bool.or_eq_true]
 exact .inr (List.any_eq_true.2 ⟨x, h1, by simpa using h2⟩)
theorem s0_ {es : List Eff} (hl : Lex E ops ops.toList s es s') (hB : h5_ ops (es.map cz_) = true) (hQ : ∀ φ' a' w', RelAt E C φ' s' a' w' → Q .normal a' w') :
  ∀ (fuel : Nat) (listed : Array Bool) (a : Act) (w : World) (φ : Phi), listed.size = ops.size → unl ops.size listed ≤ fuel →
   (∀ j o, listed.getD j false = true → ops[j]? = some o → ∀ e ∈ o.after.toList, Region.binds .any e = true → listed.getD e.on false = true) →
   RelAt E C φ (stD (fun i => listed.getD i false) 0 (ops.toList.zip es) s) a w → wpAny E.P .any ops Q fuel listed a w := by
 obtain ⟨hback, hclash⟩ := p6_ hB
 have hlen := hl.len
 have hzipAt : ∀ (j : Nat) (p : Oper × Eff), (ops.toList.zip es)[j]? = some p → (ops.toList.zip (es.map cz_))[j]? = some (p.1, cz_ p.2) := fun j p hp => by
  rw [List.getElem?_zip_eq_some] at hp ⊢
  exact ⟨hp.1, by simp [hp.2]⟩
 have hopAt : ∀ (j : Nat) (p : Oper × Eff), (ops.toList.zip es)[j]? = some p → ops[j]? = some p.1 := fun j p hp => by
  rw [List.getElem?_zip_eq_some] at hp
  rw [← Array.getElem?_toList]; exact hp.1
 have hzip : ∀ (j : Nat) (o : Oper), ops[j]? = some o → ∃ e, (ops.toList.zip es)[j]? = some (o, e) := fun j o ho => by
  have hj : j < es.length := by
   have := (Array.getElem?_eq_some_iff.1 ho).1
   rw [hlen]; simpa using this
  exact ⟨es[j], by rw [List.getElem?_zip_eq_some]; exact ⟨by rw [Array.getElem?_toList]; exact ho, List.getElem?_eq_getElem hj⟩⟩
 -- nothing is ready: all is done
 have alldone : ∀ (listed : Array Bool), listed.size = ops.size → Region.ready .any ops listed = [] → ∀ j, j < ops.size → listed.getD j false = true := fun listed hsz hr => by
  intro j
  induction j using Nat.strongRecOn with
  | _ j ih =>
   intro hj
   cases hh : listed.getD j false with
   | true => rfl
   | false =>
    have : j ∈ Region.ready .any ops listed := mem_ready.2 ⟨by
     have h1 : j < listed.size := by omega
     simp only [Array.getD_eq_getD_getElem?, Array.getElem?_eq_getElem h1, Option.getD_some] at hh ⊢
     exact hh, ops[j], Array.getElem?_eq_getElem hj, fun e he hb => ih e.on (hback j ops[j] (Array.getElem?_eq_getElem hj) e (Array.mem_toList_iff.2 he) hb) (by have := hback j ops[j] (Array.getElem?_eq_getElem hj) e (Array.mem_toList_iff.2 he) hb; omega)⟩
    rw [hr] at this; cases this
 have finish : ∀ (listed : Array Bool) (a : Act) (w : World) (φ : Phi), listed.size = ops.size → Region.ready .any ops listed = [] → RelAt E C φ (stD (fun i => listed.getD i false) 0 (ops.toList.zip es) s) a w → Q .normal a w := fun listed a w φ hsz hr h => by
  have hall := alldone listed hsz hr
  have : stD (fun i => listed.getD i false) 0 (ops.toList.zip es) s = s' := by
   rw [← hl.fin 0]
   have hcongr : ∀ (l : List (Oper × Eff)) (k : Nat) (t : St), (∀ j, j < l.length → listed.getD (k + j) false = true) → stD (fun i => listed.getD i false) k l t = stD (fun _ => true) k l t := fun l => by
    induction l with
    | nil => intros; rfl
    | cons p l ih =>
     intro k t hh
     obtain ⟨o, e⟩ := p
     have h0 := hh 0 (by simp)
     rw [Nat.add_zero] at h0
     simp only [stD, h0, if_true]
     exact ih _ _ fun j hj => by have := hh (j + 1) (by simpa using hj); rwa [show k + 1 + j = k + (j + 1) by omega]
   exact hcongr _ _ _ fun j hj => by rw [Nat.zero_add]; exact hall j (by simp [List.length_zip, hlen] at hj; exact hj)
  rw [this] at h
  exact hQ φ a w h
 intro fuel
 induction fuel with
 | zero =>
  intro listed a w φ hsz hu hcl hr
  have h0 : Region.ready .any ops listed = [] := by
   apply List.eq_nil_iff_forall_not_mem.2
   intro j hj
   obtain ⟨hjl, o, ho, _⟩ := mem_ready.1 hj
   have hlt := (Array.getElem?_eq_some_iff.1 ho).1
   have : j ∈ (List.range ops.size).filter fun i => !listed.getD i true := List.mem_filter.2 ⟨List.mem_range.2 hlt, by rw [hjl]; rfl⟩
   have := List.length_pos_of_mem this
   unfold unl at hu
   omega
  exact ⟨h0, finish listed a w φ hsz h0 hr⟩
 | succ fuel ih =>
  intro listed a w φ hsz hu hcl hr
  refine ⟨fun h0 => finish listed a w φ hsz h0 hr, fun i hi => ?_⟩
  obtain ⟨hil, o, ho, hedges⟩ := mem_ready.1 hi
  have hlt := (Array.getElem?_eq_some_iff.1 ho).1
  have hlt' : i < listed.size := by omega
  have hil' : listed.getD i false = false := by
   simp only [Array.getD_eq_getD_getElem?, Array.getElem?_eq_getElem hlt', Option.getD_some] at hil ⊢
   exact hil
  have hedges' : ∀ o', ops[i]? = some o' → ∀ e ∈ o'.after.toList, Region.binds .any e = true → listed.getD e.on false = true := fun o' ho' e he hb => by
   rw [ho] at ho'; cases ho'
   exact hedges e (Array.mem_toList_iff.1 he) hb
  obtain ⟨e, hz⟩ := hzip i o ho
  obtain ⟨hRS, hfr⟩ := hl.at 0 i o e hz
  simp only [Nat.zero_add] at hRS hfr
  -- who meets i stands as in the text
  have hord : ∀ j p, (ops.toList.zip es)[j]? = some p → (j < i → e5_ ops p.1 (cz_ p.2) o (cz_ e) = true → listed.getD j false = true) ∧ (i < j → e5_ ops o (cz_ e) p.1 (cz_ p.2) = true → listed.getD j false = false) := fun j p hp => by
   refine ⟨fun hji hc => ?_, fun hij hc => ?_⟩
   ·exact (hclash j i _ _ hji (hzipAt j p hp) (hzipAt i _ hz) hc).listed (listed := fun k => listed.getD k false) hcl (.inr hedges')
   ·have ha := hclash i j _ _ hij (hzipAt i _ hz) (hzipAt j p hp) hc
    cases hh : listed.getD j false with
    | false => rfl
    | true =>
     have := ha.listed (listed := fun k => listed.getD k false) hcl (.inl hh)
     simp only [hil'] at this; cases this
  have hslot : ∀ t ∈ o.looksAt ops, (stD (fun k => listed.getD k false) 0 (ops.toList.zip es) s).σ.getD t .no = (stD (fun x => decide (x < i)) 0 (ops.toList.zip es) s).σ.getD t .no := fun t ht => by
   rw [List.getD_eq_getElem?_getD, List.getD_eq_getElem?_getD]
   congr 1
   refine adg_ _ 0 s s rfl rfl fun j p hp hd => ?_
   simp only [Nat.zero_add]
   rcases Nat.lt_trichotomy j i with h | h | h
   ·rw [(hord j p hp).1 h (mv_ hd (.inl ht))]; simp [h]
   ·subst h; rw [hil']; simp
   ·rw [(hord j p hp).2 h (si_ hd ht)]; simp; omega
  have hmem : ∀ x ∈ e.rd, (stD (fun k => listed.getD k false) 0 (ops.toList.zip es) s).m x = (stD (fun x => decide (x < i)) 0 (ops.toList.zip es) s).m x := fun x hx => by
   refine ac9_ _ 0 s s rfl fun j p hp hd => ?_
   simp only [Nat.zero_add]
   have hx1 : x ∈ (cz_ e).1 := by simp [cz_, hx]
   rcases Nat.lt_trichotomy j i with h | h | h
   ·have hc : e5_ ops p.1 (cz_ p.2) o (cz_ e) = true := q1_ hd hx1
    rw [(hord j p hp).1 h hc]; simp [h]
   ·subst h; rw [hil']; simp
   ·have hc : e5_ ops o (cz_ e) p.1 (cz_ p.2) = true := z5_ hd hx1
    rw [(hord j p hp).2 h hc]; simp; omega
  have hRS' := hRS.transfer hslot hmem
  have hlexu : ∀ x, (stD (fun x => decide (x < i)) 0 (ops.toList.zip es) s).u x = false → s.u x = false := fun x => by
   have hmono : ∀ (l : List (Oper × Eff)) (k : Nat) (D : Nat → Bool) (t : St), (stD D k l t).u x = false → t.u x = false := fun l => by
    induction l with
    | nil => intro _ _ _ h; exact h
    | cons p l ih =>
     intro k D t h
     obtain ⟨o, e⟩ := p
     simp only [stD] at h
     have := ih _ _ _ h
     cases hD : D k with
     | false => simpa [hD] using this
     | true =>
      simp only [hD, if_true, r4_, Eff.use, Bool.or_eq_false_iff] at this
      exact this.1
   exact hmono _ _ _ _
  have hnew : ∀ x ∈ e.nw, (stD (fun k => listed.getD k false) 0 (ops.toList.zip es) s).u x = false := fun x hx => by
   refine adb_ _ 0 s (hlexu x (hfr x hx)) fun j p hp hD hxp => ?_
   simp only [Nat.zero_add] at hD
   have hinc : ∀ (l : List (Oper × Eff)) (k n : Nat) (t : St) (q : Oper × Eff), n < k + l.length → k ≤ n → l[n - k]? = some q → x ∈ q.2.nw → ∀ D : Nat → Bool, D n = true → (stD D k l t).u x = true := fun l => by
    have hkeep : ∀ (l : List (Oper × Eff)) (k : Nat) (D : Nat → Bool) (t : St), t.u x = true → (stD D k l t).u x = true := fun l => by
     induction l with
     | nil => intro _ _ _ h; exact h
     | cons p l ih =>
      intro k D t h
      obtain ⟨o, e⟩ := p
      simp only [stD]
      refine ih _ _ _ ?_
      cases D k <;> simp [r4_, Eff.use, h]
    induction l with
    | nil => intro k n t q h1 h2; simp at h1; omega
    | cons p l ih =>
     intro k n t q h1 h2 h3 h4 D hD
     obtain ⟨o, e⟩ := p
     simp only [stD]
     rcases Nat.eq_or_lt_of_le h2 with h5 | h5
     ·subst h5
      simp at h3
      subst h3
      rw [hD, if_pos rfl]
      refine hkeep _ _ _ _ ?_
      simp only [r4_, Eff.use, Bool.or_eq_true]
      exact .inr (by simpa using h4)
     ·refine ih (k + 1) n _ q (by simp at h1; omega) h5 ?_ h4 D hD
      rw [show n - k = (n - (k + 1)) + 1 by omega] at h3
      simpa using h3
   have hjl : j < (ops.toList.zip es).length := (List.getElem?_eq_some_iff.1 hp).1
   have hil2 : i < (ops.toList.zip es).length := (List.getElem?_eq_some_iff.1 hz).1
   rcases Nat.lt_trichotomy j i with h | h | h
   ·have := hinc (ops.toList.zip es) 0 j s p (by omega) (by omega) (by simpa using hp) hxp (fun x => decide (x < i)) (by simp [h])
    rw [hfr x hx] at this; cases this
   ·subst h; rw [hil'] at hD; cases hD
   ·have hj := (hl.at 0 j p.1 p.2 hp).2 x hxp
    simp only [Nat.zero_add] at hj
    have := hinc (ops.toList.zip es) 0 i s (o, e) (by omega) (by omega) (by simpa using hz) hx (fun x => decide (x < j)) (by simp [h])
    rw [hj] at this; cases this
  have hadd : stD (fun x => (listed.setIfInBounds i true).getD x false) 0 (ops.toList.zip es) s = (stD (fun k => listed.getD k false) 0 (ops.toList.zip es) s).eff o.dst e := by
   have e0 : (fun x => (listed.setIfInBounds i true).getD x false) = fun x => if x = 0 + i then true else listed.getD x false := by
    funext x
    rw [Nat.zero_add]
    by_cases hx : x = i
    ·subst hx; simp [hlt']
    ·rw [if_neg hx, getD_set_ne false (Ne.symm hx)]
   rw [e0]
   refine ub_ _ 0 s o e hz (by rw [Nat.zero_add]; exact hil') fun j p hij hp hD => ?_
   rw [Nat.zero_add] at hD
   have hnc : e5_ ops o (cz_ e) p.1 (cz_ p.2) = false := by
    cases hc : e5_ ops o (cz_ e) p.1 (cz_ p.2) with
    | false => rfl
    | true => rw [(hord j p hp).2 hij hc] at hD; cases hD
   refine ⟨fun t ht hpt => ?_, fun x hx hxp => ?_⟩
   ·rw [mv_ ht (.inr hpt)] at hnc; cases hnc
   ·rw [q1_ (x := x) hx (by simp only [cz_, List.mem_append]; exact .inr hxp)] at hnc; cases hnc
  have hrun := hRS'.run hnew hr (K := wpAny E.P .any ops Q fuel (listed.setIfInBounds i true)) (Q := Q) (fun φ' a' w' hr' => by
   refine ih _ a' w' φ' (by simpa using hsz) ?_ (fun j o' hj ho' e' he' hb => ?_) (by rw [hadd]; exact hr')
   ·have : unl ops.size (listed.setIfInBounds i true) < unl ops.size listed := by
     unfold unl
     refine oe_ (fun x _ hx => ?_) ⟨i, List.mem_range.2 hlt, by rw [hil]; rfl, by simp [hlt']⟩
     by_cases hxi : x = i
     ·subst hxi; simp [hlt'] at hx
     ·rw [getD_set_ne true (Ne.symm hxi)] at hx; exact hx
    omega
   ·by_cases hji : j = i
    ·subst hji
     exact getD_set_true (hedges' o' ho' e' he' hb)
    ·rw [getD_set_ne false (Ne.symm hji)] at hj
     exact getD_set_true (hcl j o' hj ho' e' he' hb))
  unfold wpOp
  simp only [ho]
  split
  ·rename_i hw; rw [if_pos hw] at hrun; exact .inl hrun
  ·rename_i hw; rw [if_neg hw] at hrun; exact hrun
theorem rk_ {id : Nat} {es : List Eff} (hm : E.P.follows .mixedOrders = true) (hl : Lex E ops ops.toList s es s') (hB : h5_ ops (es.map cz_) = true) (hr : RelAt E C φ s a w) (hQ : ∀ φ' a' w', RelAt E C φ' s' a' w' → Q .normal a' w') :
  (Code.region id ops true).wp E.P Q a w := by
 refine wp_region_any hm (s0_ hl hB hQ _ _ a _ φ (by simp) ?_ (fun j o hj => ?_) ?_)
 ·unfold unl
  exact Nat.le_trans (List.length_filter_le _ _) (by simp)
 ·rw [Array.getD_eq_getD_getElem?] at hj
  simp only [Array.getElem?_replicate] at hj
  split at hj <;> simp at hj
 ·have : ∀ i, (Array.replicate ops.size false).getD i false = false := fun i => by
   rw [Array.getD_eq_getD_getElem?, Array.getElem?_replicate]; split <;> rfl
  rw [l9_ _ _ _ (fun j _ => this j)]
  exact hr.drew
end
end
section
open Go.RowKit
mutual
def V.inn (u : Nat → Bool) : V → Bool
 | .ow l _ _ _ | .pt l _ _ _ => u l
 | .sl _ rows => au_ u rows
 | .rp cs | .ag cs | .tu cs => at_ u cs
 | .fn _ a c => at_ u a && at_ u c
 | .gd _ v => V.inn u v
 | _ => true
def at_ (u : Nat → Bool) : List V → Bool
 | [] => true
 | v :: r => V.inn u v && at_ u r
def au_ (u : Nat → Bool) : List (List V) → Bool
 | [] => true
 | v :: r => at_ u v && au_ u r
end
mutual
theorem rx_ (u : Nat → Bool) : ∀ v : V, v.pure = true → v.inn u = true
 | .ow _ _ _ _, h | .pt _ _ _ _, h => by simp [V.pure] at h
 | .sl t rows, h => by simp only [V.pure] at h; simp only [V.inn, hq_ u rows h]
 | .rp cs, h => by simp only [V.pure] at h; simp only [V.inn, el_ u cs h]
 | .ag cs, h => by simp only [V.pure] at h; simp only [V.inn, el_ u cs h]
 | .tu cs, h => by simp only [V.pure] at h; simp only [V.inn, el_ u cs h]
 | .fn f a c, h => by simp only [V.pure, Bool.and_eq_true] at h; simp only [V.inn, el_ u a h.1, el_ u c h.2, Bool.and_true]
 | .gd c v, h => by simp only [V.pure] at h; simp only [V.inn, rx_ u v h]
 | .i _ _, _ | .b _, _ | .s _, _ | .np, _ | .no, _ | .q _, _ => by simp only [V.inn]
theorem el_ (u : Nat → Bool) : ∀ v : List V, cr_ v = true → at_ u v = true
 | [], _ => by simp only [at_]
 | v :: r, h => by simp only [cr_, Bool.and_eq_true] at h; simp only [at_, rx_ u v h.1, el_ u r h.2, Bool.and_true]
theorem hq_ (u : Nat → Bool) : ∀ v : List (List V), b4_ v = true → au_ u v = true
 | [], _ => by simp only [au_]
 | v :: r, h => by simp only [b4_, Bool.and_eq_true] at h; simp only [au_, el_ u v h.1, hq_ u r h.2, Bool.and_true]
end
section
variable {φ ψ : Phi} {S : Nat → Prop} {w : World} {u : Nat → Bool}
mutual
theorem VR.inn (hφ : ∀ l, u l = true → ψ l = φ l) : ∀ {v : V} {x : Value}, v.inn u = true → VR φ S w v x → VR ψ S w v x
 | .ow l z o n, x, h, k => by simp only [V.inn] at h; simp only [VR, hφ l h] at k ⊢; exact k
 | .pt l z o n, x, h, k => by simp only [V.inn] at h; simp only [VR, hφ l h] at k ⊢; exact k
 | .sl t rows, x, h, k => by
  simp only [V.inn] at h
  simp only [VR] at k ⊢
  obtain ⟨A, c, z, xs, h1, h2, h3, h4, h5, h6⟩ := k
  exact ⟨A, c, z, xs, h1, h2, h3, h4, h5, VRr.inn hφ h h6⟩
 | .rp cs, x, h, k => by
  simp only [V.inn] at h
  simp only [VR] at k ⊢
  obtain ⟨g, o, xs, h1, h2, h3, h4, h5⟩ := k
  exact ⟨g, o, xs, h1, h2, h3, h4, VRs.inn hφ h h5⟩
 | .ag cs, x, h, k => by
  simp only [V.inn] at h
  simp only [VR] at k ⊢
  obtain ⟨xs, h1, h2⟩ := k
  exact ⟨xs, h1, VRs.inn hφ h h2⟩
 | .tu cs, x, h, k => by
  simp only [V.inn] at h
  simp only [VR] at k ⊢
  obtain ⟨xs, h1, h2⟩ := k
  exact ⟨xs, h1, VRs.inn hφ h h2⟩
 | .fn f a c, x, h, k => by
  simp only [V.inn, Bool.and_eq_true] at h
  simp only [VR] at k ⊢
  obtain ⟨a', c', h1, h2, h3⟩ := k
  exact ⟨a', c', h1, VRs.inn hφ h.1 h2, VRs.inn hφ h.2 h3⟩
 | .gd c v, x, h, k => by
  simp only [V.inn] at h
  simp only [VR] at k ⊢
  exact ⟨fun hc => VR.inn hφ h (k.1 hc), k.2⟩
 | .i _ _, _, _, k | .b _, _, _, k | .s _, _, _, k | .np, _, _, k | .no, _, _, k | .q _, _, _, k => by simp only [VR] at k ⊢ <;> exact k
theorem VRs.inn (hφ : ∀ l, u l = true → ψ l = φ l) : ∀ {vs : List V} {xs : List Value}, at_ u vs = true → VRs φ S w vs xs → VRs ψ S w vs xs
 | [], _, _, k => by simp only [VRs] at k ⊢; exact k
 | v :: vs, xs, h, k => by
  simp only [at_, Bool.and_eq_true] at h
  simp only [VRs] at k ⊢
  obtain ⟨x, r, h1, h2, h3⟩ := k
  exact ⟨x, r, h1, VR.inn hφ h.1 h2, VRs.inn hφ h.2 h3⟩
theorem VRr.inn (hφ : ∀ l, u l = true → ψ l = φ l) {z : Nat} : ∀ {rs : List (List V)} {xs : List Value}, au_ u rs = true → VRr φ S w z rs xs → VRr ψ S w z rs xs
 | [], _, _, k => by simp only [VRr] at k ⊢; exact k
 | r :: rs, xs, h, k => by
  simp only [au_, Bool.and_eq_true] at h
  simp only [VRr] at k ⊢
  obtain ⟨ys, zs, h1, h2, h3, h4, h5⟩ := k
  exact ⟨ys, zs, h1, h2, VRs.inn hφ h.1 h3, h4, VRr.inn hφ h.2 h5⟩
end
end
section
variable {E : Env} {C : Cx} {φ : Phi} {s s' : St} {a : Act} {w w' : World}
structure Weak (s s' : St) : Prop where
 σ : les s.σ s'.σ
 inn : at_ s'.u s'.σ = true
 m : ∀ l b, s'.m l = some b → s.m l = some b ∧ s'.u l = true ∧ au_ s'.u b.rows = true
 low : ∀ l, m7_ l = true → s'.u l = true
theorem RelAt.weak (h : RelAt E C φ s a w) (k : Weak s s') : ∃ φ', RelAt E C φ' s' a w := by
 let φ' : Phi := fun l => if s'.u l then φ l else none
 have hφ : ∀ l, s'.u l = true → φ' l = φ l := fun l hl => by simp only [φ', hl, if_true]
 have hsub : ∀ l x, φ' l = some x → φ l = some x := fun l x hx => by
  cases hl : s'.u l with
  | true => rw [hφ l hl] at hx; exact hx
  | false => simp only [φ', hl, Bool.false_eq_true, if_false] at hx; cases hx
 have hS : ∀ g, C.S φ s.m g → C.S φ' s'.m g := fun g hg => ⟨hg.1, fun l b hb h1 => hg.2 l b (k.m l b hb).1 (hsub _ _ h1)⟩
 have hk : KeepsW φ φ (C.S φ s.m) (C.S φ' s'.m) w w := ⟨fun _ _ h => h, fun g hg _ => ⟨hS g hg, rfl⟩, Nat.le_refl _, fun _ _ h => h⟩
 refine ⟨φ', h.defers, VRs.inn hφ k.inn ((h.slots.le k.σ).keep hk), fun l b hb => ?_, fun l l' b b' g h1 h2 h3 h4 => h.inj l l' b b' g (k.m l b h1).1 (k.m l' b' h2).1 (hsub _ _ h3) (hsub _ _ h4),
  fun l b g h1 h3 => h.own l b g (k.m l b h1).1 (hsub _ _ h3), fun l hl => ?_, fun l x hx => ?_, h.frame, fun g cs hg => (h.glob g cs hg).keep (φ' := fun _ => none) ⟨fun _ _ h => h, fun g hg _ => ⟨hS g hg, rfl⟩, Nat.le_refl _, fun _ _ h => h⟩, h.lad⟩
 ·obtain ⟨m1, m2, m3⟩ := k.m l b hb
  rcases h.mem l b m1 with ⟨h1, h2⟩ | ⟨g, arr, xs, h1, h2, h3, h4, hzz⟩ | ⟨g, es, ck, xs, h1, h2, h3, h4, h5⟩
  ·exact .inl ⟨by rw [hφ l m2]; exact h1, h2⟩
  ·exact .inr (.inl ⟨g, arr, xs, by rw [hφ l m2]; exact h1, h2, VRr.inn hφ m3 (h3.keep hk), h4, hzz⟩)
  ·exact .inr (.inr ⟨g, es, ck, xs, by rw [hφ l m2]; exact h1, h2, h3, VRr.inn hφ m3 (h4.keep hk), h5⟩)
 ·cases hu : s'.u l with
  | true => rfl
  | false => simp only [φ', hu, Bool.false_eq_true, if_false] at hl; exact absurd rfl hl
 ·have hl := C.low l (by rw [hx]; simp)
  rw [hφ l (k.low l hl)]
  exact h.phi0 l x hx
def Can (E : Env) (C : Cx) (s s' : St) : Prop := ∀ φ a w, RelAt E C φ s a w → ∃ φ', RelAt E C φ' s' a w
theorem Can.refl : Can E C s s := fun φ _ _ h => ⟨φ, h⟩
theorem Can.trans {s1 s2 s3 : St} (h : Can E C s1 s2) (k : Can E C s2 s3) : Can E C s1 s3 := fun φ a w hr =>
 let ⟨φ', h'⟩ := h φ a w hr
 k φ' a w h'
theorem Can.weak (h : Weak s s') : Can E C s s' := fun φ a w hr => hr.weak h
/-! ### code -/
def AWp (E : Env) (C : Cx) (c : Code) (Q : Exit → St → Prop) (s : St) : Prop :=
 ∀ φ a w, RelAt E C φ s a w → c.wp E.P (fun e a' w' => ∃ φ' s', Q e s' ∧ RelAt E C φ' s' a' w') a w
variable {Q Q' : Exit → St → Prop}
def t2_ (K : St → Prop) (Q : Exit → St → Prop) : Exit → St → Prop
 | .normal, s => K s
 | e, s => Q e s
def w3_ (id : Nat) (Q : Exit → St → Prop) : Exit → St → Prop
 | .exit id', s => if id' = id then Q .normal s else Q (.exit id') s
 | e, s => Q e s
theorem AWp.weak {c : Code} (h : AWp E C c Q s') (k : Weak s s') : AWp E C c Q s := fun φ a w hr =>
 let ⟨φ', hr'⟩ := hr.weak k
 h φ' a w hr'
theorem AWp.can {c : Code} (k : Can E C s s') (h : AWp E C c Q s') : AWp E C c Q s := fun φ a w hr =>
 let ⟨φ', hr'⟩ := k φ a w hr
 h φ' a w hr'
theorem AWp.mono {c : Code} (h : AWp E C c Q s) (hq : ∀ e s, Q e s → Q' e s) : AWp E C c Q' s := fun φ a w hr =>
 wp_mono (h φ a w hr) fun e a w ⟨φ', s', q, r⟩ => ⟨φ', s', hq e s' q, r⟩
theorem AWp.seq {x y : Code} (h : AWp E C x (t2_ (AWp E C y Q) Q) s) : AWp E C (.seq x y) Q s := fun φ a w hr =>
 wp_seq (wp_mono (h φ a w hr) fun e a' w' ⟨φ', s', q, r⟩ => by
  cases e with
  | normal => exact q φ' a' w' r
  | _ => exact ⟨φ', s', q, r⟩)
theorem AWp.cond {c : Operand} {x y : Code} {t : Bool} (hp : c7_ (s.ev E c) = true) (hc : s.pv E c = .b t) (h : if t then AWp E C x Q s else AWp E C y Q s) : AWp E C (.cond c x y) Q s := fun φ a w hr => by
 have := hr.pv hp
 rw [hc] at this
 simp only [VR] at this
 refine wp_cond this ?_
 cases t
 ·exact h φ a w hr
 ·exact h φ a w hr
theorem AWp.skip (h : Q .normal s) : AWp E C .skip Q s := fun φ a w hr => wp_skip ⟨φ, s, h, hr⟩
theorem AWp.exit {id : Nat} (h : Q (.exit id) s) : AWp E C (.exit id) Q s := fun φ a w hr => wp_exit ⟨φ, s, h, hr⟩
theorem AWp.ret (h : Q .ret s) : AWp E C .ret Q s := fun φ a w hr => wp_ret ⟨φ, s, h, hr⟩
theorem AWp.block {id : Nat} {c : Code} (h : AWp E C c (w3_ id Q) s) : AWp E C (.block id c) Q s := fun φ a w hr =>
 wp_block (wp_mono (h φ a w hr) fun e a' w' ⟨φ', s', q, r⟩ => by
  cases e with
  | exit id' =>
   simp only [w3_] at q
   simp only [Exit.inBlock]
   split
   ·rename_i hh; rw [if_pos hh] at q; exact ⟨φ', s', q, r⟩
   ·rename_i hh; rw [if_neg hh] at q; exact ⟨φ', s', q, r⟩
  | _ => exact ⟨φ', s', q, r⟩)
theorem AWp.region {id : Nat} {l : List Oper} {es : List Eff} (hl : Lex E l.toArray l s es s') (h : Q .normal s') : AWp E C (.region id l.toArray false) Q s := fun φ a w hr =>
 wp_region_lit (hl.run hr fun φ' _ _ hr' => ⟨φ', s', h, hr'⟩)
theorem AWp.regionDraw {id : Nat} {l : List Oper} {es : List Eff} (hm : E.P.follows .mixedOrders = true) (hl : Lex E l.toArray l s es s') (hB : h5_ l.toArray (es.map cz_) = true) (h : Q .normal s') : AWp E C (.region id l.toArray true) Q s := fun φ a w hr =>
 rk_ hm (by simpa using hl) hB hr fun φ' _ _ hr' => ⟨φ', s', h, hr'⟩
open Classical in
theorem AWp.loop {c : Code} (I : Nat → St → Prop) {n : Nat} (h0 : I n s) (h : ∀ n s, I n s → AWp E C c (t2_ (fun s' => ∃ m s'', m < n ∧ I m s'' ∧ Can E C s' s'') Q) s) : AWp E C (.loop c) Q s := fun φ a w hr => by
 let J : Act → World → Nat → Prop := fun a w n => ∃ s φ, I n s ∧ RelAt E C φ s a w
 have hex : ∀ a w, (∃ n, J a w n) → ∃ n, J a w n ∧ ∀ m, J a w m → n ≤ m := fun a w ⟨n, hn⟩ => by
  induction n using Nat.strongRecOn with
  | _ n ih =>
   by_cases hh : ∃ m, m < n ∧ J a w m
   ·obtain ⟨m, hm, hJ⟩ := hh; exact ih m hm hJ
   ·exact ⟨n, hn, fun m hm => Nat.le_of_not_lt fun hlt => hh ⟨m, hlt, hm⟩⟩
 let μ : Act → World → Nat := fun a w => if hh : ∃ n, J a w n then Classical.choose (hex a w hh) else 0
 have hμ : ∀ a w (hh : ∃ n, J a w n), J a w (μ a w) ∧ ∀ m, J a w m → μ a w ≤ m := fun a w hh => by
  simp only [μ, hh, dif_pos]; exact Classical.choose_spec (hex a w hh)
 refine wp_loop (fun a w => ∃ n, J a w n) μ ⟨n, s, φ, h0, hr⟩ fun a w hJ => ?_
 obtain ⟨⟨s1, φ1, hI, hr1⟩, _⟩ := hμ a w hJ
 refine wp_mono (h _ s1 hI φ1 a w hr1) fun e a' w' ⟨φ', s', q, r⟩ => ?_
 cases e with
 | normal =>
  obtain ⟨m, s'', hm, hI', hw⟩ := q
  have hJ' : J a' w' m := by
   obtain ⟨φ'', r'⟩ := hw φ' a' w' r; exact ⟨_, φ'', hI', r'⟩
  refine ⟨⟨m, hJ'⟩, ?_⟩
  have := (hμ a' w' ⟨m, hJ'⟩).2 m hJ'
  omega
 | _ => exact ⟨φ', s', q, r⟩
end
end
section
open Go.RowKit
def ba_ (P : Program) (s : St) : ResultVar → V
 | .tmp t => peel (s.σ.getD t .no)
 | .cell t ty => match bn_ P ty with | some ti => ldV ti.k.agg ti.size s.m (peel (s.σ.getD t .no)) | none => .no
def bc_ (P : Program) (s : St) : ResultVar → Prop
 | .tmp t => c7_ (s.σ.getD t .no) = true
 | .cell t ty => c7_ (s.σ.getD t .no) = true ∧ match bn_ P ty with | some ti => (ti.k.agg = false → ti.size = 1) ∧ ldC ti.size s.m (peel (s.σ.getD t .no)) | none => False
def a1_ (P : Program) (s : St) : List ResultVar → Prop
 | [] => True
 | r :: rs => bc_ P s r ∧ a1_ P s rs
section
variable {E : Env} {C : Cx} {φ : Phi} {s s' : St} {a : Act} {w w' : World}
theorem y1_ {S : Nat → Prop} {m : Mem} {t : TypeId} {ti : TI} (ht : bn_ E.P t = some ti) (hn : ti.k.agg = false → ti.size = 1) {v : V} {x : Value} (hv : VR φ S w v x) (hm : ∀ l b, m l = some b → MR φ S w l b) (h : ldC ti.size m v) :
  ∃ A y, x = .pointer (some A) ∧ (loadVar t A).run E.P w = .ok y w ∧ VR φ S w (ldV ti.k.agg ti.size m v) y := by
 cases v <;> simp only [ldC] at h <;> simp only [VR] at hv
 case pt l z r c =>
  cases hb : m l with
  | none => simp [hb] at h
  | some b =>
   simp only [hb] at h
   obtain ⟨rfl, h3, h4, hz⟩ := h
   obtain ⟨g, g1, g2⟩ := hv
   rw [fb_ hz] at g2
   rcases hm l b hb with ⟨k1, _⟩ | ⟨g', arr, xs, k1, k2, k3, k4, hzz⟩ | ⟨_, _, _, _, _, _, k1, _⟩
   ·rw [g1] at k1; cases k1
   ·rw [g1] at k1; cases k1
    obtain ⟨q1, q2⟩ := k3.getRow h3
    obtain ⟨y, e1, e2⟩ := dd_ (g := g) (p := r * b.z + c) ht hn (by rw [List.length_drop, q1]; omega) (q2.drop c) (fun j u hu => by
     rw [cell_of_row w g _ arr _ _ k2]
     rw [List.getElem?_drop, List.getElem?_take] at hu
     split at hu
     ·rw [List.getElem?_drop, ← k4, List.getElem?_take] at hu
      split at hu
      ·rw [Array.getElem?_toList] at hu; rw [← hu, Nat.add_assoc]
      ·cases hu
     ·cases hu)
    refine ⟨_, y, g2, e1, ?_⟩
    simp only [ldV, hb]; exact e2
   ·omega
 case rp cs =>
  obtain ⟨g, p, xs, g1, g2, g3, g4, g5⟩ := hv
  obtain ⟨y, e1, e2⟩ := dd_ (g := g) (p := p) ht hn h g5 g4
  exact ⟨_, y, g1, e1, by simp only [ldV]; exact e2⟩
def resS (tmps : Array Value) : ResultVar → Sem Value
 | .tmp t => pure (tmps.getD t undef)
 | .cell ad t => do loadVar t (← asAddr (tmps.getD ad undef))
theorem ta_ (fn : Func) (tmps : Array Value) : results fn tmps = (do let vs ← fn.results.mapM (resS tmps); pure (if h : vs.size = 1 then vs[0] else .tuple vs)) := by
 unfold results
 congr 1
theorem kg_ (hr : RelAt E C φ s a w) : ∀ (l : List ResultVar), a1_ E.P s l → ∃ xs, (l.mapM (resS a.tmps)).run E.P w = .ok xs w ∧ VRs φ (C.S φ s.m) w (l.map (ba_ E.P s)) xs
 | [], _ => ⟨[], rfl, .nil⟩
 | r :: rs, h => by
  simp only [a1_] at h
  obtain ⟨xs, h1, h2⟩ := kg_ hr rs h.2
  have key : ∃ x, (resS a.tmps r).run E.P w = .ok x w ∧ VR φ (C.S φ s.m) w (ba_ E.P s r) x := by
   cases r with
   | tmp t =>
    simp only [bc_] at h
    exact ⟨_, rfl, (hr.slot t).peel h.1⟩
   | cell t ty =>
    simp only [bc_] at h
    obtain ⟨⟨h3, h4⟩, _⟩ := h
    cases hti : bn_ E.P ty with
    | none => simp [hti] at h4
    | some ti =>
     simp only [hti] at h4
     obtain ⟨A, y, e1, e2, e3⟩ := y1_ (E := E) hti h4.1 ((hr.slot t).peel h3) (fun l b hb => hr.mem l b hb) h4.2
     refine ⟨y, ?_, by simp only [ba_, hti]; exact e3⟩
     simp only [resS, Sem.run_bind, e1, asAddr, Sem.run_pure, Result.andThen_ok, e2]
  obtain ⟨x, k1, k2⟩ := key
  refine ⟨x :: xs, ?_, .cons k2 h2⟩
  rw [List.mapM_cons]
  simp only [Sem.run_bind, k1, Result.andThen_ok, h1, Sem.run_pure]
theorem y3_ (xs : List Value) : (if h : xs.toArray.size = 1 then xs.toArray[0] else .tuple xs.toArray) = fw_ xs := by
 match xs with
 | [] => simp [fw_]
 | [x] => simp [fw_]
 | x :: y :: r => simp [fw_]
structure Out (E : Env) (fn : Func) (k : Nat) (rs : List V) (Lr : List Blk) (η : List Nat) (s : St) : Prop where
 can : a1_ E.P s fn.results.toList
 res : les (fn.results.toList.map (ba_ E.P s)) (rns η rs)
 len : η.length = Lr.length
 le : k ≤ Lr.length
 pre : η.take k = List.range k
 nd : η.Nodup
 cl : cls Lr.length rs = true
 clr : ∀ b ∈ Lr, clr Lr.length b.rows = true
 mem : ∀ i b, Lr[i]? = some b → s.m (η.getD i 0) = some (rnB η b)
def lf_ (fn : Func) (vs : List V) (L0 : List Blk) : St := ⟨vs ++ List.replicate (fn.ntmps - vs.length) .no, kv_ L0, m7_⟩
theorem lm_ {f : FuncId} {fn : Func} {c : Code} {vs rs : List V} {L0 Lr : List Blk} (hf : E.P.funcs[f]? = some fn) (hb : fn.body = some c) (hname : (fn.name == "runtime.NumGoroutine") = false) (hk : L0.length ≤ 10)
  (h : ∀ C, AWp E C c (fun e s => (e = .normal ∨ e = .ret) ∧ ∃ η, Out E fn L0.length rs Lr η s) (lf_ fn vs L0)) : ACall E f vs L0 rs Lr := by
 refine ⟨fun args w => ?_, fun φ S w args hp => ?_⟩
 ·simp [callFunc, hf, hb]
  simpa using hname
 ·let C : Cx := ⟨w, φ, fun g => S g ∨ v3_ φ L0 g, v3_ φ L0, fun l hl => by have := hp.low l hl; simp only [m7_, Bool.or_eq_true, decide_eq_true_eq]; omega, fun g hg => .inr hg⟩
  have hS : C.S φ (kv_ L0) = fun g => (S g ∨ w.heap.size ≤ g) ∧ pk_ φ (kv_ L0) g := by
   funext g
   simp only [Cx.S, C, eq_iff_iff]
   refine ⟨fun ⟨h1, h2⟩ => ⟨?_, h2⟩, fun ⟨h1, h2⟩ => ⟨?_, h2⟩⟩
   ·rcases h1 with (h1 | ⟨i, hi, h1⟩) | h1
    ·exact .inl h1
    ·exact absurd h1 (h2 i L0[i] (List.getElem?_eq_getElem hi))
    ·exact .inr h1
   ·rcases h1 with h1 | h1
    ·exact .inl (.inl h1)
    ·exact .inr h1
  have hkeep : KeepsW φ φ S (C.S φ (kv_ L0)) w w := ⟨fun _ _ h => h, fun g hg _ => ⟨by rw [hS]; exact ⟨.inl hg, hp.free g hg⟩, rfl⟩, Nat.le_refl _, fun _ _ h => h⟩
  have hlen : args.size = vs.length := by rw [← hp.args.len]; simp
  have nos : ∀ n, VRs φ (C.S φ (kv_ L0)) w (List.replicate n V.no) (List.replicate n undef) := fun n => by
   induction n with
   | zero => exact .nil
   | succ n ih => exact .cons (by simp only [VR]) ih
  have hr : RelAt E C φ (lf_ fn vs L0) { tmps := args ++ Array.replicate (fn.ntmps - args.size) undef, defers := [] } w := by
   refine ⟨rfl, ?_, fun l b hb => (hp.mem l b hb).keep hkeep fun _ _ => rfl, fun l l' b b' g h1 h2 h3 h4 => ?_, fun l b g h1 h3 => .inl ⟨l, (List.getElem?_eq_some_iff.1 h1).1, h3⟩, fun l hl => ?_, fun _ _ h => h, FrameW.refl _ _, fun g cs hg => (hp.glob g cs hg).keep (φ' := fun _ => none) ⟨fun _ _ h => h, hkeep.set, Nat.le_refl _, fun _ _ h => h⟩, ?_⟩
   ·simp only [lf_, Array.toList_append, Array.toList_replicate, hlen]
    exact (hp.args.keep hkeep).append (nos _)
   ·exact hp.inj l l' g (List.getElem?_eq_some_iff.1 h1).1 (List.getElem?_eq_some_iff.1 h2).1 h3 h4
   ·have := hp.low l hl
    simp only [lf_, m7_, Bool.or_eq_true, decide_eq_true_eq]; omega
   ·obtain ⟨B, b1, b2, b3⟩ := hp.lad
    exact ⟨B, b1, b2, fun g ⟨i, _, hi⟩ => b3 i g hi⟩
  refine calls_of_wp hf hb (wp_mono (h C φ _ w hr) fun e a' w' ⟨φ', s', ⟨he, η, ho⟩, r⟩ => ?_)
  obtain ⟨xs, x1, x2⟩ := kg_ r fn.results.toList ho.can
  have hres : (results fn a'.tmps).run E.P w' = .ok (fw_ xs) w' := by
   rw [ta_, Array.mapM_eq_mapM_toList]
   simp only [Sem.run_bind, Sem.run_map, x1, Result.andThen_ok, Sem.run_pure]
   rw [y3_]
  have hlow : ∀ i, i < L0.length → φ' i = φ i := fun i hi => by
   rcases hp.mem i L0[i] (List.getElem?_eq_getElem hi) with ⟨h1, _⟩ | ⟨g, _, _, h1, _⟩ | ⟨g, _, _, _, h1, _⟩ <;> rw [h1] <;> exact r.phi0 i _ h1
  have hηi : ∀ i, i < L0.length → η.getD i 0 = i := fun i hi => by
   have h2 : (η.take L0.length)[i]? = some i := by rw [ho.pre, List.getElem?_range hi]
   rw [List.getElem?_take_of_lt hi] at h2
   rw [List.getD_eq_getElem?_getD, h2]; rfl
  have hφ : ∀ i, i < η.length → ev_ η φ' i = φ' (η.getD i 0) := fun i hi => dk_ hi
  have hle := ho.le
  have hlenη := ho.len
  have hSO : ∀ g, C.S φ' s'.m g → SOf (ev_ η φ') S w Lr g := fun g ⟨h1, h2⟩ => by
   refine ⟨?_, fun i b hb h3 => ?_⟩
   ·rcases h1 with (h1 | ⟨i, hi, h1⟩) | h1
    ·exact .inl h1
    ·exfalso
     have hLi : i < Lr.length := by omega
     refine h2 _ _ (ho.mem i Lr[i] (List.getElem?_eq_getElem hLi)) ?_
     rw [hηi i hi, hlow i hi]; exact h1
    ·exact .inr h1
   ·have hi : i < η.length := by rw [hlenη]; exact (List.getElem?_eq_some_iff.1 hb).1
    rw [hφ i hi] at h3
    exact h2 _ _ (ho.mem i b hb) h3
  have hkS : KeepsW (ev_ η φ') (ev_ η φ') (C.S φ' s'.m) (SOf (ev_ η φ') S w Lr) w' w' := ⟨fun _ _ h => h, fun g hg _ => ⟨hSO g hg, rfl⟩, Nat.le_refl _, fun _ _ h => h⟩
  have hpost : Post φ S w L0 rs Lr (ev_ η φ') xs w' := by
   refine ⟨fun i hi => ?_, ?_, fun i b hb => ?_, fun i g hi h3 => ?_, fun i j g hi hj h3 h4 => ?_, r.frame⟩
   ·rw [hφ i (by omega), hηi i hi, hlow i hi]
   ·have x2 := x2.le ho.res
    exact ((VRs.rn hφ (by rw [hlenη]; exact ho.cl)).2 x2).keep hkS
   ·have hi : i < η.length := by rw [hlenη]; exact (List.getElem?_eq_some_iff.1 hb).1
    exact ((MR.rn hφ hi (by rw [hlenη]; exact ho.clr b (List.mem_of_getElem? hb))).2 (r.mem _ _ (ho.mem i b hb))).keep hkS fun _ _ => rfl
   ·rcases Nat.lt_or_ge i η.length with hlt | hge
    ·rw [hφ i hlt] at h3
     have hbi := ho.mem i Lr[i] (List.getElem?_eq_getElem (by omega))
     rcases r.own _ _ g hbi h3 with ⟨j, hj, h5⟩ | h5
     ·exfalso
      have hbj := ho.mem j Lr[j] (List.getElem?_eq_getElem (by omega))
      have := r.inj _ _ _ _ g hbi hbj h3 (by rw [hηi j hj, hlow j hj]; exact h5)
      rw [List.getD_eq_getElem?_getD, List.getD_eq_getElem?_getD, List.getElem?_eq_getElem hlt, List.getElem?_eq_getElem (show j < η.length by omega)] at this
      have := (List.getElem_inj ho.nd).1 this
      omega
     ·exact h5
    ·simp [ev_, List.getElem?_eq_none hge] at h3
   ·have hi' : i < η.length := by omega
    have hj' : j < η.length := by omega
    rw [hφ i hi'] at h3; rw [hφ j hj'] at h4
    have := r.inj _ _ _ _ g (ho.mem i Lr[i] (List.getElem?_eq_getElem hi)) (ho.mem j Lr[j] (List.getElem?_eq_getElem hj)) h3 h4
    rw [List.getD_eq_getElem?_getD, List.getD_eq_getElem?_getD, List.getElem?_eq_getElem hi', List.getElem?_eq_getElem hj'] at this
    exact (List.getElem_inj ho.nd).1 this
  have hd : a'.defers = [] := r.defers
  rcases he with rfl | rfl
  ·exact ⟨hd, fw_ xs, hres, xs, _, rfl, hpost⟩
  ·exact ⟨hd, fw_ xs, hres, xs, _, rfl, hpost⟩
theorem ap_ {f : FuncId} {fn : Func} {c : Code} {vs rs : List V} {L0 Lr : List Blk} (η : List Nat) (hf : E.P.funcs[f]? = some fn) (hb : fn.body = some c) (hname : (fn.name == "runtime.NumGoroutine") = false) (hk : L0.length ≤ 10)
  (h : ∀ C, AWp E C c (fun e s => (e = .normal ∨ e = .ret) ∧ Out E fn L0.length rs Lr η s) (lf_ fn vs L0)) : ACall E f vs L0 rs Lr :=
 lm_ hf hb hname hk fun C => (h C).mono fun e s ⟨h1, h2⟩ => ⟨h1, η, h2⟩
end
end
section
open Go.RowKit
section
variable {E : Env} {C : Cx} {φ : Phi} {s s' : St} {a : Act} {w w' : World} {o : Oper} {e : Eff}
def pcB (E : Env) (o : Oper) (s : St) : Bool := o.op.operands.toList.all fun x => c7_ (s.ev E x)
theorem bw_ (h : pcB E o s = true) : PC E o s := fun x hx => List.all_eq_true.1 h x (Array.mem_toList_iff.2 hx)
def nm (o : Oper) : Nat := 10 + o.dst.getD 0
def ac3_ (c x y : V) : V := match c, x, y with | .b c, .b p, .b q => .b (bif c then p else q) | _, _, _ => .no
def ac4_ (E : Env) (s : St) (c x y : Operand) : Prop :=
 c7_ (s.ev E c) = true ∧ match s.pv E c, s.pv E x, s.pv E y with
  | .b b, .b _, .b _ => (b = true → c7_ (s.ev E x) = true) ∧ (b = false → c7_ (s.ev E y) = true)
  | _, _, _ => False
def nz_ : V → Bool | .pt _ z _ _ => z != 0 | .rp _ => true | _ => false
def xw_ (P : Program) (dst : TypeId) (x : V) : V := match bn_ P dst, x with | some ⟨.int k', _, _⟩, .i _ n => .i k' (k'.wrap n) | _, _ => .no
def acx_ (P : Program) (src dst : TypeId) (x : V) : Prop := (bn_ P src).isSome = true ∧ match bn_ P dst, x with | some ⟨.int _, _, _⟩, .i _ _ => True | _, _ => False
def idxV (x i : V) : V := match x, i with | .s l, .i _ n => .i .u8 (l.getD n.toNat 0).toNat | _, _ => .no
def idxC (P : Program) (t : TypeId) (x i : V) : Prop := match x, i with | .s l, .i _ n => (bn_ P t).map (·.k) = some .str ∧ 0 ≤ n ∧ n < l.length | _, _ => False
def maxV (x y : V) : V := match x, y with | .i k p, .i _ q => .i k (if q > p then q else p) | _, _ => .no
def minV (x y : V) : V := match x, y with | .i k p, .i _ q => .i k (if q < p then q else p) | _, _ => .no
def i8_ (x y : V) : Prop := match x, y with | .i k _, .i k' _ => k = k' | _, _ => False
def fq_ (P : Program) (t : TypeId) : Option (Nat × Nat × Nat × List V) := match bn_ P t with | some ⟨.sl el z y zc, _, _⟩ => some (el, z, y, zc) | _ => none
theorem em_ {P : Program} {t : TypeId} {el z y : Nat} {zc : List V} (h : fq_ P t = some (el, z, y, zc)) : (bn_ P t).map (·.k) = some (.sl el z y zc) := by
 unfold fq_ at h
 split at h
 ·rename_i h1; cases h; simp [h1]
 ·cases h
def pw_ (P : Program) (t : TypeId) : Option (List (Nat × Nat × Bool)) := match bn_ P t with | some ⟨.st fs, _, _⟩ => some fs | _ => none
theorem ni_ {P : Program} {t : TypeId} {fs : List (Nat × Nat × Bool)} (h : pw_ P t = some fs) : (bn_ P t).map (·.k) = some (.st fs) := by
 unfold pw_ at h
 split at h
 ·rename_i h1; cases h; simp [h1]
 ·cases h
def q0_ (P : Program) (t : TypeId) : Option (Bool × Nat) := (bn_ P t).map fun ti => (ti.k.agg, ti.size)
theorem ne_ {P : Program} {t : TypeId} {ag : Bool} {n : Nat} (h : q0_ P t = some (ag, n)) : ∃ ti, bn_ P t = some ti ∧ ti.k.agg = ag ∧ ti.size = n := by
 unfold q0_ at h
 cases ht : bn_ P t with
 | none => simp [ht] at h
 | some ti => simp [ht] at h; exact ⟨ti, rfl, h.1, h.2⟩
def acy_ (o : Option (List V)) : List V := o.getD []
def s4_ (o : Option (List (List V))) : List (List V) := o.getD []
def evO (E : Env) (o : Oper) (s : St) : Eff :=
 match o.op with
 | .move x | .assign x | .nilCheck x => { v := s.pv E x }
 | .pick c x y => { v := ac3_ (s.pv E c) (s.pv E x) (s.pv E y) }
 | .alloc t => kp_ (nm o) t (bg_ E.P t).cells
 | .box t x => kp_ (nm o) t (s.pv E x).cells
 | .build t ps => match pw_ E.P t with | some fs => { v := .ag (acy_ (kb_ fs (bg_ E.P t).cells (es_ E s ps))) } | none => { v := .no }
 | .buildSlice t n ps => match fq_ E.P t with | some (_, z, _, zc) => { v := .sl true (s4_ (g9_ z (List.replicate n zc) (es_ E s ps))) } | none => { v := .no }
 | .load t x => match q0_ E.P t with | some (ag, n) => { v := ldV ag n s.m (s.pv E x), rd := cd_ (s.pv E x) } | none => { v := .no }
 | .store _ x y => stV s.m (s.pv E x) (s.pv E y)
 | .binOp op _ x y _ => { v := qf_ op (s.pv E x) (s.pv E y) }
 | .unOp op _ x => { v := xq_ op (s.pv E x) }
 | .convert _ dst x => { v := xw_ E.P dst (s.pv E x) }
 | .makeFunc f first captured => { v := .fn f (first.toList.map (s.pv E)) (captured.toList.map (s.pv E)) }
 | .makeSlice t l _ => match fq_ E.P t, s.pv E l with | some (el, z, _, zc), .i _ n => mkE (nm o) el z zc n.toNat | _, _ => { v := .no }
 | .slice _ x lo hi mx => match ioV (lo.map (s.pv E)), ioV (hi.map (s.pv E)), ioV (mx.map (s.pv E)) with | some l, some h, some m => { v := wa_ (s.pv E x) l h m } | _, _, _ => { v := .no }
 | .fieldAddr t x f => match (pw_ E.P t).bind (·[f]?) with | some (off, _, _) => { v := fldV off (s.pv E x) } | none => { v := .no }
 | .indexAddr t x i => match fq_ E.P t with | some (_, z, _, _) => { v := x4_ z (s.pv E x) (s.pv E i) } | none => { v := .no }
 | .index _ x i => { v := idxV (s.pv E x) (s.pv E i) }
 | .extract x i => { v := extV (s.pv E x) i }
 | .call { callee := .builtin .len, args := as, .. } => match as.toList with | [x] => { v := vp_ (s.pv E x) } | _ => { v := .no }
 | .call { callee := .builtin .max, args := as, .. } => match as.toList with | [x, y] => { v := maxV (s.pv E x) (s.pv E y) } | _ => { v := .no }
 | .call { callee := .builtin .min, args := as, .. } => match as.toList with | [x, y] => { v := minV (s.pv E x) (s.pv E y) } | _ => { v := .no }
 | .call { callee := .builtin .append, args := as, argTypes := ts } => match as.toList, ts.toList with
  | [x, y], [t, _] => match fq_ E.P t with | some (el, z, _, _) => su_ s.m (s.pv E x) (s.pv E y) el z (nm o) | none => { v := .no }
  | _, _ => { v := .no }
 | _ => { v := .no }
def obO (E : Env) (o : Oper) (s : St) : Prop :=
 match o.op with
 | .pick c x y => ac4_ E s c x y
 | .move _ | .assign _ | .makeFunc _ _ _ => pcB E o s = true
 | .nilCheck x => pcB E o s = true ∧ nz_ (s.pv E x) = true
 | .alloc t => (bg_ E.P t).cells.all V.one = true ∧ ((bg_ E.P t).cells.length != 0) = true
 | .box _ x => pcB E o s = true ∧ okC (s.pv E x) = true ∧ ((s.pv E x).cells.length != 0) = true
 | .build t ps => pcB E o s = true ∧ match pw_ E.P t with | some fs => bt_ fs = true ∧ (bg_ E.P t).cells.all V.one = true ∧ (kb_ fs (bg_ E.P t).cells (es_ E s ps)).isSome = true | none => False
 | .buildSlice t n ps => pcB E o s = true ∧ match fq_ E.P t with | some (_, z, _, zc) => 0 < z ∧ zc.length = z ∧ n * z ≤ 16777216 ∧ zc.all V.one = true ∧ (g9_ z (List.replicate n zc) (es_ E s ps)).isSome = true | none => False
 | .load t x => pcB E o s = true ∧ match q0_ E.P t with | some (ag, n) => (ag = false → n = 1) ∧ ldC n s.m (s.pv E x) | none => False
 | .store t x y => pcB E o s = true ∧ match q0_ E.P t with | some (_, n) => stC n s.m (s.pv E x) (s.pv E y) | none => False
 | .binOp op t x y _ => pcB E o s = true ∧ u2_ E.P op t (s.pv E x) (s.pv E y)
 | .unOp op _ x => pcB E o s = true ∧ aunC op (s.pv E x)
 | .convert src dst x => pcB E o s = true ∧ acx_ E.P src dst (s.pv E x)
 | .makeSlice t l c => pcB E o s = true ∧ match fq_ E.P t, s.pv E l, s.pv E c with | some (_, z, y, zc), .i _ n, .i _ n' => n' = n ∧ 0 < z ∧ zc.length = z ∧ zc.all V.one = true ∧ 0 ≤ n ∧ n * y ≤ 140737488355328 ∧ 0 < y | _, _, _ => False
 | .slice t x lo hi mx => pcB E o s = true ∧ match ioV (lo.map (s.pv E)), ioV (hi.map (s.pv E)), ioV (mx.map (s.pv E)) with | some l, some h, some m => slcC ((bn_ E.P t).map (·.k)) (s.pv E x) l h m | _, _, _ => False
 | .fieldAddr t x f => pcB E o s = true ∧ match (pw_ E.P t).bind (·[f]?) with | some (_, size, _) => 0 < size ∧ nz_ (s.pv E x) = true | none => False
 | .indexAddr t x i => pcB E o s = true ∧ match fq_ E.P t with | some (_, z, _, _) => 0 < z ∧ ixaC z (s.pv E x) (s.pv E i) | none => False
 | .index t x i => pcB E o s = true ∧ idxC E.P t (s.pv E x) (s.pv E i)
 | .extract x i => pcB E o s = true ∧ extC (s.pv E x) i
 | .call { callee := .builtin .len, args := as, argTypes := ts } => pcB E o s = true ∧ match as.toList, ts.toList with | [x], [t] => lenC E.P t (s.pv E x) | _, _ => False
 | .call { callee := .builtin .max, args := as, .. } => pcB E o s = true ∧ match as.toList with | [x, y] => i8_ (s.pv E x) (s.pv E y) | _ => False
 | .call { callee := .builtin .min, args := as, .. } => pcB E o s = true ∧ match as.toList with | [x, y] => i8_ (s.pv E x) (s.pv E y) | _ => False
 | .call { callee := .builtin .append, args := as, argTypes := ts } => pcB E o s = true ∧ match as.toList, ts.toList with
  | [x, y], [t, t'] => t' = t ∧ match fq_ E.P t with | some (el, z, yb, zc) => 0 < z ∧ 0 < yb ∧ zc.length = z ∧ zc.all V.one = true ∧ y7_ s.m (s.pv E x) (s.pv E y) el z yb | none => False
  | _, _ => False
 | _ => False
theorem abd_ {v : V} (h : nz_ v = true) : yx_ v := by cases v <;> simp [nz_] at h <;> first | trivial | (simp only [yx_]; omega)
theorem ep_ {α : Type} {as : Array α} {l : List α} (h : as.toList = l) : as = l.toArray := by rw [← h]
set_option maxHeartbeats 1000000 in
theorem aed_ (h : obO E o s) : Op1 E o s (evO E o s) := by
 obtain ⟨dst, op, ty, pos, after, guard⟩ := o
 cases op <;> simp only [obO] at h <;> try exact h.elim
 case move x => exact aa6_ (bw_ h) rfl
 case assign x => exact vk_ (bw_ h) rfl
 case makeFunc f a c => exact rd_ (bw_ h) rfl
 case pick c x y =>
  obtain ⟨h1, h2⟩ := h
  simp only [evO]
  generalize hc : s.pv E c = vc at h2
  generalize hx : s.pv E x = vx at h2
  generalize hy : s.pv E y = vy at h2
  cases vc <;> cases vx <;> cases vy <;> simp only [] at h2
  exact aay_ (o := ⟨dst, .pick c x y, ty, pos, after, guard⟩) rfl h1 hc (fun hb => ⟨h2.1 hb, hx⟩) (fun hb => ⟨h2.2 hb, hy⟩)
 case nilCheck x =>
  refine p2_ (bw_ h.1) rfl ?_
  have h2 := h.2
  revert h2
  cases s.pv E x <;> intro h2 <;> simp [nz_] at h2
  ·exact .inl ⟨_, _, _, _, by omega, rfl⟩
  ·exact .inr ⟨_, rfl⟩
 case alloc t => exact wv_ rfl rfl h.1 h.2
 case box t x => exact adz_ (bw_ h.1) rfl h.2.1 h.2.2
 case build t ps =>
  obtain ⟨h1, h2⟩ := h
  simp only [evO]
  cases ht : pw_ E.P t with
  | none => simp [ht] at h2
  | some fs =>
   simp only [ht] at h2 ⊢
   obtain ⟨h3, h4, h5⟩ := h2
   obtain ⟨cs, hcs⟩ := Option.isSome_iff_exists.1 h5
   rw [hcs]
   exact yf_ (bw_ h1) rfl (ni_ ht) h3 rfl (ek_ h4) hcs
 case buildSlice t n ps =>
  obtain ⟨h1, h2⟩ := h
  simp only [evO]
  cases ht : fq_ E.P t with
  | none => simp [ht] at h2
  | some x =>
   obtain ⟨el, z, y, zc⟩ := x
   simp only [ht] at h2 ⊢
   obtain ⟨h3, h4, h5, h6, h7⟩ := h2
   obtain ⟨cs, hcs⟩ := Option.isSome_iff_exists.1 h7
   rw [hcs]
   exact na_ (bw_ h1) rfl (em_ ht) h3 h4 h5 h6 hcs
 case load t x =>
  obtain ⟨h1, h2⟩ := h
  simp only [evO]
  cases ht : q0_ E.P t with
  | none => simp [ht] at h2
  | some p =>
   obtain ⟨ag, n⟩ := p
   simp only [ht] at h2 ⊢
   obtain ⟨ti, h3, rfl, rfl⟩ := ne_ ht
   exact acp_ (bw_ h1) rfl h3 h2.1 h2.2
 case store t x y =>
  obtain ⟨h1, h2⟩ := h
  cases ht : q0_ E.P t with
  | none => simp [ht] at h2
  | some p =>
   obtain ⟨ag, n⟩ := p
   simp only [ht] at h2
   obtain ⟨ti, h3, rfl, rfl⟩ := ne_ ht
   exact ys_ (bw_ h1) rfl h3 h2
 case binOp op t x y t' => exact adu_ (bw_ h.1) rfl h.2
 case unOp op t x => exact aet_ (bw_ h.1) rfl h.2
 case convert src dst' x =>
  obtain ⟨h1, h2, h3⟩ := h
  simp only [evO]
  generalize hx : s.pv E x = vx at h3 ⊢
  cases ht : bn_ E.P dst' with
  | none => simp [ht] at h3
  | some ti =>
   obtain ⟨k, n, z⟩ := ti
   cases k <;> cases vx <;> simp only [ht] at h3
   rename_i k' k n
   simp only [xw_, ht]
   exact abc_ (o := ⟨dst, .convert src dst' x, ty, pos, after, guard⟩) (bw_ h1) rfl h2 (by simp [ht]) hx
 case makeSlice t l c =>
  obtain ⟨h1, h2⟩ := h
  simp only [evO]
  generalize hl : s.pv E l = vl at h2 ⊢
  generalize hc : s.pv E c = vc at h2
  cases ht : fq_ E.P t with
  | none => simp [ht] at h2
  | some x =>
   obtain ⟨el, z, y, zc⟩ := x
   cases vl <;> cases vc <;> simp only [ht] at h2
   obtain ⟨rfl, h3, h4, h5, h6, h7, h8⟩ := h2
   exact pn_ (o := ⟨dst, .makeSlice t l c, ty, pos, after, guard⟩) (bw_ h1) rfl (em_ ht) h3 h4 h5 hl hc h6 h7 h8
 case slice t x lo hi mx =>
  obtain ⟨h1, h2⟩ := h
  simp only [evO]
  generalize hl : ioV (lo.map (s.pv E)) = l at h2 ⊢
  generalize hh : ioV (hi.map (s.pv E)) = hh' at h2 ⊢
  generalize hm : ioV (mx.map (s.pv E)) = m at h2 ⊢
  cases l <;> cases hh' <;> cases m <;> simp only [] at h2
  exact x7_ (o := ⟨dst, .slice t x lo hi mx, ty, pos, after, guard⟩) (bw_ h1) rfl hl hh hm h2
 case fieldAddr t x f =>
  obtain ⟨h1, h2⟩ := h
  simp only [evO]
  cases ht : pw_ E.P t with
  | none => simp [ht] at h2
  | some fs =>
   simp only [ht, Option.bind_some] at h2 ⊢
   cases hf : fs[f]? with
   | none => simp [hf] at h2
   | some y =>
    obtain ⟨off, size, ag⟩ := y
    simp only [hf] at h2 ⊢
    exact p0_ (bw_ h1) rfl (ni_ ht) hf h2.1 (abd_ h2.2)
 case indexAddr t x i =>
  obtain ⟨h1, h2⟩ := h
  simp only [evO]
  cases ht : fq_ E.P t with
  | none => simp [ht] at h2
  | some y =>
   obtain ⟨el, z, yb, zc⟩ := y
   simp only [ht] at h2 ⊢
   exact o4_ (bw_ h1) rfl (em_ ht) h2.1 h2.2
 case index t x i =>
  obtain ⟨h1, h2⟩ := h
  simp only [evO]
  generalize hx : s.pv E x = vx at h2 ⊢
  generalize hi : s.pv E i = vi at h2 ⊢
  cases vx <;> cases vi <;> simp only [idxC] at h2
  exact wr_ (o := ⟨dst, .index t x i, ty, pos, after, guard⟩) (bw_ h1) rfl h2.1 hx hi h2.2.1 h2.2.2
 case extract x i => exact to_ (bw_ h.1) rfl h.2
 case call c =>
  obtain ⟨callee, as, ts⟩ := c
  cases callee <;> try exact h.elim
  rename_i b
  cases b <;> try exact h.elim
  case append =>
   obtain ⟨h1, h2⟩ := h
   simp only [evO]
   split at h2
   ·rename_i x y t t' ha htt
    obtain rfl := ep_ ha
    obtain rfl := ep_ htt
    obtain ⟨rfl, h2⟩ := h2
    cases ht : fq_ E.P t' with
    | none => simp [ht] at h2
    | some q =>
     obtain ⟨el, z, yb, zc⟩ := q
     simp only [ht] at h2
     obtain ⟨h3, h4, h5, h6, h7⟩ := h2
     simp only [ht]
     exact wj_ (o := ⟨dst, .call ⟨.builtin .append, #[x, y], #[t', t']⟩, ty, pos, after, guard⟩) (bw_ h1) rfl (em_ ht) h3 h4 h5 h6 h7
   ·exact h2.elim
  case len =>
   obtain ⟨h1, h2⟩ := h
   simp only [evO]
   split at h2
   ·rename_i x t ha htt
    obtain rfl := ep_ ha
    obtain rfl := ep_ htt
    exact adr_ (o := ⟨dst, .call ⟨.builtin .len, #[x], #[t]⟩, ty, pos, after, guard⟩) (bw_ h1) rfl h2
   ·exact h2.elim
  case max =>
   obtain ⟨h1, h2⟩ := h
   simp only [evO]
   split at h2
   ·rename_i x y ha
    obtain rfl := ep_ ha
    generalize hx : s.pv E x = vx at h2 ⊢
    generalize hy : s.pv E y = vy at h2 ⊢
    cases vx <;> cases vy <;> simp only [i8_] at h2
    subst h2
    exact ado_ (o := ⟨dst, .call ⟨.builtin .max, #[x, y], ts⟩, ty, pos, after, guard⟩) (bw_ h1) rfl hx hy
   ·exact h2.elim
  case min =>
   obtain ⟨h1, h2⟩ := h
   simp only [evO]
   split at h2
   ·rename_i x y ha
    obtain rfl := ep_ ha
    generalize hx : s.pv E x = vx at h2 ⊢
    generalize hy : s.pv E y = vy at h2 ⊢
    cases vx <;> cases vy <;> simp only [i8_] at h2
    subst h2
    exact ad6_ (o := ⟨dst, .call ⟨.builtin .min, #[x, y], ts⟩, ty, pos, after, guard⟩) (bw_ h1) rfl hx hy
   ·exact h2.elim
/-! ### a region, reckoned -/
structure CallC (E : Env) where
 ef : Oper → St → Eff
 ob : Oper → St → Prop
 ok : ∀ o s, ob o s → Op1 E o s (ef o s)
def ze_ : Oper → Bool
 | { op := .call { callee := .value _, .. }, .. } => true
 | _ => false
def isB : V → Bool | .b _ => true | _ => false
def gE (E : Env) (ops : Array Oper) (o : Oper) (s : St) (e : Eff) : Eff :=
 match o.guard with
 | none => e
 | some (j, f) => match (ops[j]?).bind (·.dst) with
  | some d => bif e.wr.isEmpty && e.nw.isEmpty then { v := .gd (fo_ (s.σ.getD d .no) f) e.v, rd := e.rd } else bif fo_ (s.σ.getD d .no) f then e else { v := .gd false e.v }
  | none => { v := .no }
def gO (E : Env) (ops : Array Oper) (o : Oper) (s : St) (e : Eff) (p : Prop) : Prop :=
 match o.guard with
 | none => p ∧ (e.nw.all fun l => !s.u l) = true
 | some (j, f) => match (ops[j]?).bind (·.dst) with
  | some d => isB (peel (s.σ.getD d .no)) = true ∧ (fo_ (s.σ.getD d .no) f = true → p ∧ (e.nw.all fun l => !s.u l) = true)
  | none => False
theorem gOk {ops : Array Oper} {p : Prop} (hp : p → Op1 E o s e) (h : gO E ops o s e p) : RS1 E ops o s (gE E ops o s e) ∧ ∀ l ∈ (gE E ops o s e).nw, s.u l = false := by
 unfold gO at h
 unfold gE RS1
 cases hg : o.guard with
 | none =>
  simp only [hg] at h ⊢
  exact ⟨hp h.1, fun l hl => by have := List.all_eq_true.1 h.2 l hl; simpa using this⟩
 | some jf =>
  obtain ⟨j, f⟩ := jf
  simp only [hg] at h ⊢
  cases hd : (ops[j]?).bind (·.dst) with
  | none => simp [hd] at h
  | some d =>
   simp only [hd] at h ⊢
   obtain ⟨h1, h4⟩ := h
   have hc : ∃ c, peel (s.σ.getD d .no) = .b c := by
    generalize peel (s.σ.getD d .no) = v at h1
    cases v <;> first | exact ⟨_, rfl⟩ | exact absurd h1 (by simp [isB])
   obtain ⟨c, hb⟩ := hc
   cases h23 : e.wr.isEmpty && e.nw.isEmpty with
   | true =>
    simp only [Bool.and_eq_true] at h23
    obtain ⟨h2, h3⟩ := h23
    simp only [cond_true]
    refine ⟨⟨d, c, rfl, hb, .inl ⟨e.v, rfl, fun hgc => ?_⟩⟩, fun l hl => by cases hl⟩
    have e1 : e = { v := e.v, rd := e.rd } := by
     obtain ⟨v, wr, nw, rd⟩ := e
     simp only [List.isEmpty_iff] at h2 h3
     subst h2 h3
     rfl
    have := hp (h4 hgc).1
    rwa [e1] at this
   | false =>
    simp only [cond_false]
    cases hgc : fo_ (s.σ.getD d .no) f with
    | true =>
     simp only [cond_true]
     exact ⟨⟨d, c, rfl, hb, .inr (.inl ⟨hgc, hp (h4 hgc).1⟩)⟩, fun l hl => by have := List.all_eq_true.1 (h4 hgc).2 l hl; simpa using this⟩
    | false =>
     simp only [cond_false]
     exact ⟨⟨d, c, rfl, hb, .inl ⟨e.v, by rw [hgc], fun h => by rw [hgc] at h; cases h⟩⟩, fun l hl => by cases hl⟩
def lxs (E : Env) (sel : List Nat) (ops : Array Oper) : List Oper → St → List (CallC E) → List Eff → Prop → Prop × List Eff × St
 | [], s, _, es, p => (p, es.reverse, s)
 | o :: r, s, cs, es, p =>
  match ze_ o || sel.contains (o.dst.getD 0) with
  | true => match cs with
   | c :: cs => lxs E sel ops r (s.eff o.dst (gE E ops o s (c.ef o s))) cs (gE E ops o s (c.ef o s) :: es) (p ∧ gO E ops o s (c.ef o s) (c.ob o s))
   | [] => (False, es.reverse, s)
  | false => lxs E sel ops r (s.eff o.dst (gE E ops o s (evO E o s))) cs (gE E ops o s (evO E o s) :: es) (p ∧ gO E ops o s (evO E o s) (obO E o s))
theorem pb_ {sel : List Nat} {ops : Array Oper} : ∀ {l : List Oper} {s s' : St} {cs : List (CallC E)} {es0 es : List Eff} {p0 p : Prop}, lxs E sel ops l s cs es0 p0 = (p, es, s') → p → p0 ∧ ∃ es1, es = es0.reverse ++ es1 ∧ Lex E ops l s es1 s'
 | [], s, s', cs, es0, es, p0, p, h, hp => by
  simp only [lxs, Prod.mk.injEq] at h
  obtain ⟨rfl, rfl, rfl⟩ := h
  exact ⟨hp, [], by simp, .nil s⟩
 | o :: r, s, s', cs, es0, es, p0, p, h, hp => by
  simp only [lxs] at h
  split at h
  ·cases cs with
   | nil => simp only [Prod.mk.injEq] at h; rw [← h.1] at hp; exact hp.elim
   | cons c cs =>
    obtain ⟨⟨h0, h1⟩, es1, h2, h3⟩ := pb_ h hp
    obtain ⟨k1, k2⟩ := gOk (c.ok o s) h1
    exact ⟨h0, gE E ops o s (c.ef o s) :: es1, by rw [h2]; simp, .cons k1 k2 h3⟩
  ·obtain ⟨⟨h0, h1⟩, es1, h2, h3⟩ := pb_ h hp
   obtain ⟨k1, k2⟩ := gOk aed_ h1
   exact ⟨h0, gE E ops o s (evO E o s) :: es1, by rw [h2]; simp, .cons k1 k2 h3⟩
variable {Q : Exit → St → Prop}
theorem AWp.rgnS {id : Nat} {l : List Oper} (sel : List Nat) (cs : List (CallC E)) {p : Prop} {es : List Eff} (h : lxs E sel l.toArray l s cs [] True = (p, es, s')) (hp : p) (hq : Q .normal s') : AWp E C (.region id l.toArray false) Q s := by
 obtain ⟨_, es1, _, hl⟩ := pb_ h hp
 exact AWp.region hl hq
theorem AWp.rgnDS {id : Nat} {l : List Oper} (sel : List Nat) (cs : List (CallC E)) {p : Prop} {es : List Eff} (hm : E.P.follows .mixedOrders = true) (h : lxs E sel l.toArray l s cs [] True = (p, es, s')) (hB : h5_ l.toArray (es.map cz_) = true) (hp : p) (hq : Q .normal s') : AWp E C (.region id l.toArray true) Q s := by
 obtain ⟨_, es1, he, hl⟩ := pb_ h hp
 simp only [List.reverse_nil, List.nil_append] at he
 subst he
 exact AWp.regionDraw hm hl hB hq
theorem AWp.rgn {id : Nat} {l : List Oper} (cs : List (CallC E)) {p : Prop} {es : List Eff} (h : lxs E [] l.toArray l s cs [] True = (p, es, s')) (hp : p) (hq : Q .normal s') : AWp E C (.region id l.toArray false) Q s := AWp.rgnS [] cs h hp hq
theorem AWp.rgnD {id : Nat} {l : List Oper} (cs : List (CallC E)) {p : Prop} {es : List Eff} (hm : E.P.follows .mixedOrders = true) (h : lxs E [] l.toArray l s cs [] True = (p, es, s')) (hB : h5_ l.toArray (es.map cz_) = true) (hp : p) (hq : Q .normal s') : AWp E C (.region id l.toArray true) Q s := AWp.rgnDS [] cs hm h hB hp hq
end
end
section
open Go.RowKit
def a6_ : List (Nat × Blk) → Mem
 | [], _ => none
 | (l, b) :: r, x => if x = l then some b else a6_ r x
theorem we_ (x : Nat) : a6_ [] x = none := rfl
theorem sy_ (l : Nat) (b : Blk) (r : List (Nat × Blk)) (x : Nat) : a6_ ((l, b) :: r) x = if x = l then some b else a6_ r x := rfl
def pv_ : List (Nat × Blk) → Nat → Blk → List (Nat × Blk)
 | [], l, b => [(l, b)]
 | (l', b') :: r, l, b => if l = l' then (l, b) :: r else (l', b') :: pv_ r l b
def sw_ : List (Nat × Blk) → Nat → List (Nat × Blk)
 | [], _ => []
 | (l', b') :: r, l => if l = l' then sw_ r l else (l', b') :: sw_ r l
theorem mu_ (L : List (Nat × Blk)) (l : Nat) (b : Blk) : upd (a6_ L) l (some b) = a6_ (pv_ L l b) := by
 induction L with
 | nil => funext x; simp only [upd, a6_, pv_]
 | cons p r ih =>
  obtain ⟨l', b'⟩ := p
  funext x
  have := congrFun ih x
  simp only [upd, a6_, pv_] at this ⊢
  by_cases h : l = l'
  ·subst h
   simp only [if_true, a6_]
   by_cases hx : x = l <;> simp [hx]
  ·simp only [h, if_false, a6_]
   by_cases hx : x = l'
   ·subst hx; simp [Ne.symm h]
   ·simp only [hx, if_false]; exact this
theorem xl_ (L : List (Nat × Blk)) (l : Nat) : upd (a6_ L) l none = a6_ (sw_ L l) := by
 induction L with
 | nil => funext x; simp only [upd, a6_, sw_]; split <;> rfl
 | cons p r ih =>
  obtain ⟨l', b'⟩ := p
  funext x
  have := congrFun ih x
  simp only [upd, a6_, sw_] at this ⊢
  by_cases h : l = l'
  ·subst h
   simp only [if_true]
   by_cases hx : x = l
   ·simp only [hx, if_true] at this ⊢; exact this
   ·simp only [hx, if_false] at this ⊢; exact this
  ·simp only [h, if_false, a6_]
   by_cases hx : x = l'
   ·subst hx; simp [Ne.symm h]
   ·simp only [hx, if_false]; exact this
def bq_ : Nat → List Blk → List (Nat × Blk)
 | _, [] => []
 | k, b :: r => (k, b) :: bq_ (k + 1) r
theorem rc_ : ∀ (L : List Blk) (k x : Nat), a6_ (bq_ k L) x = if k ≤ x then L[x - k]? else none
 | [], k, x => by simp [bq_, a6_]
 | b :: r, k, x => by
  simp only [bq_, a6_, rc_ r (k + 1) x]
  by_cases h : x = k
  ·subst h; simp
  ·by_cases hk : k ≤ x
   ·rw [if_neg h, if_pos (by omega), if_pos hk, show x - k = (x - (k + 1)) + 1 by omega]; simp
   ·rw [if_neg h, if_neg (by omega), if_neg hk]
theorem aci_ (L : List Blk) : kv_ L = a6_ (bq_ 0 L) := by
 funext x; rw [rc_]; simp [kv_]
def us (L : List Nat) : Nat → Bool := fun x => decide (x < 10) || decide (1000000000 ≤ x) || L.contains x
def wrL : List (Nat × Blk) → List (Nat × Option Blk) → List (Nat × Blk)
 | L, [] => L
 | L, (l, some b) :: r => wrL (pv_ L l b) r
 | L, (l, none) :: r => wrL (sw_ L l) r
theorem lb_ : ∀ (wr : List (Nat × Option Blk)) (L : List (Nat × Blk)) , wr.foldl (fun m p => upd m p.1 p.2) (a6_ L) = a6_ (wrL L wr)
 | [], L => rfl
 | (l, some b) :: r, L => by simp only [List.foldl_cons, wrL, mu_]; exact lb_ r _
 | (l, none) :: r, L => by simp only [List.foldl_cons, wrL, xl_]; exact lb_ r _
theorem k5_ (U nw : List Nat) (x : Nat) : (us U x || nw.contains x) = us (U ++ nw) x := by
 simp only [us, List.contains_eq_mem, List.mem_append, Bool.or_assoc]
 congr 1
 congr 1
 rw [← Bool.decide_or]
theorem z8_ (σ : List V) (L : List (Nat × Blk)) (U : List Nat) (t : Nat) (v : V) (wr : List (Nat × Option Blk)) (nw rd : List Nat) :
  St.eff ⟨σ, a6_ L, us U⟩ (some t) ⟨v, wr, nw, rd⟩ = ⟨σ.set t v, a6_ (wrL L wr), us (U ++ nw)⟩ := by
 apply St.ext'
 ·rfl
 ·exact lb_ wr L
 ·funext x; exact k5_ U nw x
theorem yw_ (σ : List V) (L : List (Nat × Blk)) (U : List Nat) (v : V) (wr : List (Nat × Option Blk)) (nw rd : List Nat) :
  St.eff ⟨σ, a6_ L, us U⟩ none ⟨v, wr, nw, rd⟩ = ⟨σ, a6_ (wrL L wr), us (U ++ nw)⟩ := by
 apply St.ext'
 ·rfl
 ·exact lb_ wr L
 ·funext x; exact k5_ U nw x
theorem a0_ (fn : Func) (vs : List V) (L0 : List Blk) : lf_ fn vs L0 = ⟨vs ++ List.replicate (fn.ntmps - vs.length) .no, a6_ (bq_ 0 L0), us []⟩ := by
 apply St.ext'
 ·rfl
 ·exact aci_ L0
 ·funext x; simp [lf_, us, m7_]
section
variable {E : Env} {s : St} {o : Oper}
def lt_ (E : Env) (f : FuncId) (vs : List V) (o : Oper) (s : St) : Prop :=
 match o.op with
 | .call { callee := .value fo, args := as, .. } => match s.pv E fo with
  | .fn (.func f') first caps => f' = f ∧ les (first ++ as.toList.map (s.pv E) ++ caps) vs
  | _ => False
 | _ => False
theorem lq_ {f : FuncId} {vs : List V} (h : lt_ E f vs o s) : ∃ fo as ts first caps, o.op = .call { callee := .value fo, args := as, argTypes := ts } ∧ s.pv E fo = .fn (.func f) first caps ∧ les (first ++ as.toList.map (s.pv E) ++ caps) vs := by
 obtain ⟨dst, op, ty, pos, after, guard⟩ := o
 cases op <;> simp only [lt_] at h
 rename_i c
 obtain ⟨callee, as, ts⟩ := c
 cases callee <;> try exact h.elim
 rename_i fo
 dsimp only at h
 generalize hf : s.pv E fo = vf at h
 cases vf <;> try exact h.elim
 rename_i g first caps
 cases g <;> try exact h.elim
 obtain ⟨rfl, h⟩ := h
 exact ⟨fo, as, ts, first, caps, rfl, hf, h⟩
def a5_ {f : FuncId} {vs rs : List V} (A : ACall E f vs [] rs []) : CallC E where
 ef := fun _ _ => { v := hb_ rs }
 ob := fun o s => pcB E o s = true ∧ lt_ E f vs o s ∧ cr_ vs = true ∧ cr_ rs = true
 ok := fun o s ⟨h1, h2, h3, h4⟩ => by
  obtain ⟨fo, as, ts, first, caps, ho, hf, ha⟩ := lq_ h2
  have := ty_ (E := E) (s := s) (o := o) [] [] (bw_ h1) ho hf A (by rw [dh_ [] vs h3]; exact ha) rfl rfl rfl (Nat.le_refl _) .nil (fun i b hb => by simp at hb) (dm_ _ _ h3) (fun b hb => by cases hb) (dm_ _ _ h4) (fun b hb => by cases hb)
  simpa [eh_, dh_ [] rs h4] using this
def qg_ (E : Env) (o : Oper) (s : St) : List V :=
 match o.op with
 | .call { callee := .value fo, args := as, .. } => match s.pv E fo with
  | .fn _ first caps => first ++ as.toList.map (s.pv E) ++ caps
  | _ => []
 | _ => []
def l1_ (E : Env) (f : FuncId) (vs : List V) (o : Oper) (s : St) : Prop :=
 match o.op with
 | .call { callee := .value fo, args := as, .. } => match s.pv E fo with
  | .fn (.func f') first caps => f' = f ∧ les ((first ++ as.toList.map (s.pv E) ++ caps).map (lend s.m)) vs
  | _ => False
 | _ => False
theorem qm_ {f : FuncId} {vs : List V} (h : l1_ E f vs o s) : ∃ fo as ts first caps, o.op = .call { callee := .value fo, args := as, argTypes := ts } ∧ s.pv E fo = .fn (.func f) first caps ∧ les ((first ++ as.toList.map (s.pv E) ++ caps).map (lend s.m)) vs ∧ qg_ E o s = first ++ as.toList.map (s.pv E) ++ caps := by
 obtain ⟨dst, op, ty, pos, after, guard⟩ := o
 cases op <;> simp only [l1_] at h
 rename_i c
 obtain ⟨callee, as, ts⟩ := c
 cases callee <;> try exact h.elim
 rename_i fo
 dsimp only at h
 simp only [qg_]
 generalize hf : s.pv E fo = vf at h ⊢
 cases vf <;> try exact h.elim
 rename_i g first caps
 cases g <;> try exact h.elim
 obtain ⟨rfl, h⟩ := h
 exact ⟨fo, as, ts, first, caps, rfl, hf, h, rfl⟩
def ac6_ {f : FuncId} {vs rs : List V} (A : ACall E f vs [] rs []) : CallC E where
 ef := fun o s => { v := hb_ rs, rd := (qg_ E o s).flatMap cd_ }
 ob := fun o s => pcB E o s = true ∧ l1_ E f vs o s ∧ ka_ rs = true ∧ cls 0 vs = true
 ok := fun o s ⟨h1, h2, h3, h4⟩ => by
  obtain ⟨fo, as, ts, first, caps, ho, hf, ha, he⟩ := qm_ h2
  rw [he]
  exact yv_ (bw_ h1) ho hf A ha h3 h4
def al_ (m : Mem) (η0 : List Nat) : List Nat → List Blk → Prop
 | [], [] => True
 | n :: ns, b :: bs => m n = some (rnB η0 b) ∧ al_ m η0 ns bs
 | _, _ => False
theorem gu_ {m : Mem} {η0 : List Nat} : ∀ {η : List Nat} {L0 : List Blk}, al_ m η0 η L0 → η.length = L0.length ∧ ∀ i b, L0[i]? = some b → m (η.getD i 0) = some (rnB η0 b)
 | [], [], _ => ⟨rfl, fun i b hb => by simp at hb⟩
 | n :: ns, b :: bs, h => by
  simp only [al_] at h
  obtain ⟨h1, h2⟩ := gu_ h.2
  refine ⟨by simp [h1], fun i c hc => ?_⟩
  cases i with
  | zero => simp at hc; subst hc; simpa using h.1
  | succ i => simpa using h2 i c (by simpa using hc)
 | [], _ :: _, h | _ :: _, [], h => by simp [al_] at h
def ar_ (k : Nat) : List Blk → Bool
 | [] => true
 | b :: r => clr k b.rows && ar_ k r
theorem gg_ {k : Nat} : ∀ {L : List Blk}, ar_ k L = true → ∀ b ∈ L, clr k b.rows = true
 | [], _, b, hb => by cases hb
 | c :: L, h, b, hb => by
  simp only [ar_, Bool.and_eq_true] at h
  rcases List.mem_cons.1 hb with rfl | hb
  ·exact h.1
  ·exact gg_ h.2 b hb
def bv_ {f : FuncId} {vs rs : List V} {L0 Lr : List Blk} (η x : List Nat) (A : ACall E f vs L0 rs Lr) : CallC E where
 ef := fun _ _ => eh_ η (η ++ x) rs Lr
 ob := fun o s => pcB E o s = true ∧ lt_ E f (rns η vs) o s ∧ al_ s.m η η L0 ∧ (η ++ x).length = Lr.length ∧ (η ++ x).Nodup ∧ cls η.length vs = true ∧ ar_ η.length L0 = true ∧ cls (η ++ x).length rs = true ∧ ar_ (η ++ x).length Lr = true
 ok := fun o s ⟨h1, h2, h3, h4, h5, h6, h7, h8, h9⟩ => by
  obtain ⟨fo, as, ts, first, caps, ho, hf, ha⟩ := lq_ h2
  obtain ⟨k1, k2⟩ := gu_ h3
  exact ty_ (E := E) (s := s) (o := o) η (η ++ x) (bw_ h1) ho hf A ha k1 (by simp) h4 (by simp) h5 k2 h6 (gg_ h7) h8 (gg_ h9)
end
end
section
open Go.RowKit
theorem a7_ {n : Int} (h1 : -9223372036854775808 ≤ n) (h2 : n < 9223372036854775808) : IntKind.i64.wrap n = n := by
 have e : (2 : Int) ^ IntKind.i64.bits = 18446744073709551616 := rfl
 have e' : IntKind.i64.signed = true := rfl
 have e2 : (2 : Int) ^ (IntKind.i64.bits - 1) = 9223372036854775808 := rfl
 simp only [IntKind.wrap, e, e2, e', Bool.true_and, decide_eq_true_eq]; split <;> omega
section
variable {E : Env} {fn : Func} {rs : List V} {s : St} {l : List ResultVar}
theorem Out.plain (hl : fn.results.toList = l) (h1 : a1_ E.P s l) (h2 : l.map (ba_ E.P s) = rs) (h3 : cr_ rs = true) : Out E fn 0 rs [] [] s := by
 subst hl
 exact ⟨h1, by rw [h2, dh_ [] rs h3]; exact dv_ _, rfl, Nat.le_refl _, rfl, List.Pairwise.nil, dm_ _ _ h3, fun b hb => (by cases hb), fun i b hb => (by simp at hb)⟩
theorem Out.mem' {k : Nat} {Lr : List Blk} {η : List Nat} (hl : fn.results.toList = l) (h1 : a1_ E.P s l) (h2 : l.map (ba_ E.P s) = rns η rs) (h3 : k ≤ Lr.length) (h4 : η.take k = List.range k) (h5 : η.Nodup) (h6 : cls Lr.length rs = true) (h7 : ar_ Lr.length Lr = true) (h8 : al_ s.m η η Lr) : Out E fn k rs Lr η s := by
 subst hl
 obtain ⟨k1, k2⟩ := gu_ h8
 exact ⟨h1, by rw [h2]; exact dv_ _, k1, h3, h4, h5, h6, gg_ h7, k2⟩
theorem Out.plainL (hl : fn.results.toList = l) (h1 : a1_ E.P s l) (h2 : les (l.map (ba_ E.P s)) rs) (h3 : cr_ rs = true) : Out E fn 0 rs [] [] s := by
 subst hl
 exact ⟨h1, by rw [dh_ [] rs h3]; exact h2, rfl, Nat.le_refl _, rfl, List.Pairwise.nil, dm_ _ _ h3, fun b hb => (by cases hb), fun i b hb => (by simp at hb)⟩
theorem Out.memL' {k : Nat} {Lr : List Blk} {η : List Nat} (hl : fn.results.toList = l) (h1 : a1_ E.P s l) (h2 : les (l.map (ba_ E.P s)) (rns η rs)) (h3 : k ≤ Lr.length) (h4 : η.take k = List.range k) (h5 : η.Nodup) (h6 : cls Lr.length rs = true) (h7 : ar_ Lr.length Lr = true) (h8 : al_ s.m η η Lr) : Out E fn k rs Lr η s := by
 subst hl
 obtain ⟨k1, k2⟩ := gu_ h8
 exact ⟨h1, h2, k1, h3, h4, h5, h6, gg_ h7, k2⟩
variable {C : Cx} {Q : Exit → St → Prop}
theorem AWp.condB {c : Operand} {x y : Code} {t : Bool} (hc : s.pv E c = .b t) (hp : c7_ (s.ev E c) = true) (h1 : t = true → AWp E C x Q s) (h0 : t = false → AWp E C y Q s) : AWp E C (.cond c x y) Q s :=
 AWp.cond hp hc (by cases t <;> simp_all)
def aw_ (L : List (Nat × Blk)) (U : List Nat) : List (Nat × Blk) → Prop
 | [] => True
 | (l, b) :: r => a6_ L l = some b ∧ us U l = true ∧ au_ (us U) b.rows = true ∧ aw_ L U r
theorem ny_ {L : List (Nat × Blk)} {U : List Nat} : ∀ {L' : List (Nat × Blk)}, aw_ L U L' → ∀ l b, a6_ L' l = some b → a6_ L l = some b ∧ us U l = true ∧ au_ (us U) b.rows = true
 | [], _, l, b, hb => by simp [a6_] at hb
 | (l', b') :: r, h, l, b, hb => by
  simp only [aw_] at h
  simp only [a6_] at hb
  split at hb
  ·rename_i e; subst e; cases hb; exact ⟨h.1, h.2.1, h.2.2.1⟩
  ·exact ny_ h.2.2.2 l b hb
theorem Weak.lit {σ σ' : List V} {L L' : List (Nat × Blk)} {U U' : List Nat} (h : les σ σ') (hi : at_ (us U') σ' = true) (hL : aw_ L U' L') : Weak ⟨σ, a6_ L, us U⟩ ⟨σ', a6_ L', us U'⟩ :=
 ⟨h, hi, fun l b hb => ny_ hL l b hb, fun l hl => by simp only [m7_] at hl; simp [us, hl]⟩
theorem AWp.seqJ {κ : Type} {x y : Code} (M : κ → St) (I : κ → Prop) (h : AWp E C x (t2_ (fun s' => ∃ k, I k ∧ Can E C s' (M k)) Q) s) (k : ∀ k, I k → AWp E C y Q (M k)) : AWp E C (.seq x y) Q s := by
 refine .seq (h.mono fun e s' q => ?_)
 cases e with
 | normal =>
  obtain ⟨j, h1, h2⟩ := q
  exact (k j h1).can h2
 | _ => exact q
theorem AWp.loopK {κ : Type} {c : Code} (st : κ → St) (I : κ → Prop) (μ : κ → Nat) (k0 : κ) (h0 : I k0) (hs : Can E C s (st k0)) (h : ∀ k, I k → AWp E C c (t2_ (fun s' => ∃ k', I k' ∧ μ k' < μ k ∧ Can E C s' (st k')) Q) (st k)) : AWp E C (.loop c) Q s := by
 have main : AWp E C (.loop c) Q (st k0) := by
  refine .loop (fun n s => ∃ k, I k ∧ n = μ k ∧ s = st k) ⟨k0, h0, rfl, rfl⟩ fun n s1 ⟨k, hk, hn, hst⟩ => ?_
  subst hn hst
  refine (h k hk).mono fun e s' q => ?_
  cases e with
  | normal =>
   obtain ⟨k', h1, h2, h3⟩ := q
   exact ⟨μ k', st k', h2, ⟨k', h1, rfl, rfl⟩, h3⟩
  | _ => exact q
 exact main.can hs
variable {o : Oper} {φ : Phi} {S : Nat → Prop} {w : World}
def bsE (l el z : Nat) (rs : List (List V)) (n : Nat) : Eff := { v := .ow l z 0 n, wr := [(l, some ⟨el, z, rs⟩)], nw := [l] }
theorem mk_ {t : TypeId} {n l' : Nat} {ps : Array (Nat × Operand)} {el z y : Nat} {zc : List V} {rs : List (List V)} (hp : PC E o s) (ho : o.op = .buildSlice t n ps) (ht : (bn_ E.P t).map (·.k) = some (.sl el z y zc)) (hz : 0 < z) (hzl : zc.length = z) (hb : n * z ≤ 16777216) (h1 : zc.all V.one = true)
  (hf : g9_ z (List.replicate n zc) (es_ E s ps) = some rs) : Op1 E o s (bsE l' el z rs n) := by
 refine Op1.of fun s' e1 _ e3 C φ a w hr => ?_
 have hops : ∀ p ∈ ps.toList, p.2 ∈ o.op.operands := fun p hp => by simp [ho, Op.operands]; exact ⟨p.1, Array.mem_toList_iff.1 hp⟩
 have hv : ∀ p ∈ ps.toList, VR φ (C.S φ s'.m) w (s.pv E p.2) (a.eval p.2) := fun p hp' => by
  have e := e1 p.2 (hops p hp')
  have := hr.pv (x := p.2) (by rw [e]; exact hp p.2 (hops p hp'))
  unfold St.pv at this ⊢
  rwa [e] at this
 cases hti : bn_ E.P t with
 | none => simp [hti] at ht
 | some ti =>
  simp [hti] at ht
  obtain ⟨hu, hzz, hy, hzero⟩ := la_ hti ht
  obtain ⟨i, zv, hi, hiz, hzv, hzn⟩ := eo_ (φ := φ) (S := C.S φ s'.m) (w := w) hzero.symm hzl (ek_ h1)
  have hmc := fl_ zv.cells n (by omega)
  rw [hzn] at hmc
  have hrep := VRr.replicate hzl hzv (hzv.ones h1) n
  rw [← hmc] at hrep
  obtain ⟨r1, ys, r2, r3⟩ := jf_ a.eval (s.pv E) ps.toList hv (List.replicate n zc) rs _ hrep hf
  rw [List.length_replicate] at r1
  have hrun : (execOp a.eval o).run E.P w = .ok (.value (.slice (some ⟨w.heap.size, 0, none⟩) n n)) (w.alloc (.cells ys el)) := by
   have hso := cp_ (P := E.P) w hzz.symm hz
   have e2 : (Array.range (n * z)).map (zv.cells[· % zv.cells.size]!) = madeCells zv.cells (n * z) := rfl
   have hb' : ¬ (16777216 < n * z) := by omega
   by_cases hn : n = 0
   ·subst hn
    have e3 : madeCells zv.cells (0 * z) = #[] := by simp [madeCells]
    rw [e3] at r2
    simp [execOp, ho, Instr.buildSlice, run_underlying hu, hso, newRow]
    rw [show (Array.map (fun _ => default) (Array.range 0) : Array Value) = #[] from by apply Array.ext'; simp, r2]
    simp
   ·have hnz : n * z ≠ 0 := Nat.mul_ne_zero hn (by omega)
    simp [execOp, ho, Instr.buildSlice, run_underlying hu, hso, hb', hnz, zeroValue, typeInfo, hi, hiz, newRow]
    rw [e2, r2]
    simp
  obtain ⟨k1, k2⟩ := hr.alloc (e3 l' (by simp [bsE])) (arr := ys) (T := el) hz r3 List.take_length
  refine ⟨_, _, _, .inl hrun, by simp only [bsE]; rw [gl_]; exact k1, ?_⟩
  simp only [bsE, VR]
  refine ⟨_, _, rfl, Nat.le_refl _, ?_, .inr ⟨w.heap.size, el, ys.size, by simp, by simp, ez_ (heap_alloc_new w _), ?_⟩⟩
  ·have := Nat.le_mul_of_pos_right n hz
   unfold maxLen; omega
  ·have := r3.len
   rw [r1, Array.length_toList] at this
   rw [Nat.zero_add]; omega
def bsO (E : Env) : CallC E where
 ef := fun o s => match o.op with
  | .buildSlice t n ps => match fq_ E.P t with | some (el, z, _, zc) => bsE (nm o) el z (s4_ (g9_ z (List.replicate n zc) (es_ E s ps))) n | none => { v := .no }
  | _ => { v := .no }
 ob := fun o s => pcB E o s = true ∧ match o.op with
  | .buildSlice t n ps => match fq_ E.P t with | some (_, z, _, zc) => 0 < z ∧ zc.length = z ∧ n * z ≤ 16777216 ∧ zc.all V.one = true ∧ (g9_ z (List.replicate n zc) (es_ E s ps)).isSome = true | none => False
  | _ => False
 ok := fun o s ⟨h1, h2⟩ => by
  obtain ⟨dst, op, ty, pos, after, guard⟩ := o
  cases op <;> try exact h2.elim
  rename_i t n ps _
  dsimp only at h2 ⊢
  cases ht : fq_ E.P t with
  | none => simp [ht] at h2
  | some x =>
   obtain ⟨el, z, y, zc⟩ := x
   simp only [ht] at h2 ⊢
   obtain ⟨h3, h4, h5, h6, h7⟩ := h2
   obtain ⟨cs, hcs⟩ := Option.isSome_iff_exists.1 h7
   rw [hcs]
   exact mk_ (bw_ h1) rfl (em_ ht) h3 h4 h5 h6 hcs
def e0_ : List (List V) → Option Str
 | [] => some []
 | [.i .u8 n] :: r => (e0_ r).map (UInt8.ofNat n.toNat :: ·)
 | _ => none
theorem VRr.bytes {z : Nat} : ∀ {rows : List (List V)} {xs : List Value} {l : Str}, VRr φ S w z rows xs → e0_ rows = some l → ∃ ns : List Int, xs = ns.map (Value.int .u8) ∧ l = ns.map fun n => UInt8.ofNat n.toNat
 | [], xs, l, h, hb => by simp only [VRr] at h; simp only [e0_, Option.some.injEq] at hb; subst h hb; exact ⟨[], rfl, rfl⟩
 | r :: rows, xs, l, h, hb => by
  simp only [VRr] at h
  obtain ⟨ys, zs, rfl, _, h2, _, h3⟩ := h
  match r, hb, h2 with
  | [.i .u8 n], hb, h2 =>
   simp only [e0_, Option.map_eq_some_iff] at hb
   obtain ⟨l', hb', rfl⟩ := hb
   obtain ⟨ns, rfl, rfl⟩ := VRr.bytes h3 hb'
   simp only [VRs, VR] at h2
   obtain ⟨x, q, rfl, rfl, rfl⟩ := h2
   exact ⟨n :: ns, rfl, rfl⟩
theorem ad5_ {src dst : TypeId} {x : Operand} {el z y : Nat} {zc : List V} {rows : List (List V)} {l : Str} (hp : PC E o s) (ho : o.op = .convert src dst x) (hs : (bn_ E.P src).map (·.k) = some (.sl el z y zc)) (he : (bn_ E.P el).map (·.k) = some (.int .u8)) (hd : (bn_ E.P dst).map (·.k) = some .str)
  (hx : mc_ s.m (s.pv E x) = some rows) (hb : e0_ rows = some l) : Op1 E o s { v := .s l, rd := cd_ (s.pv E x) } := by
 refine Op1.pure' hp fun φ S w ρ hr hm => ?_
 have h1 := hr x (by simp [ho, Op.operands])
 obtain ⟨A, c, z', xs, e1, e2, e3, e4, e5, e6, _⟩ := g6_ h1 hx hm
 obtain ⟨hu, _⟩ := ex_ hs
 have hue : E.P.underlying el = some (.int .u8) := by
  cases h : bn_ E.P el with
  | none => simp [h] at he
  | some ti => simp [h] at he; exact p7_ h he
 have hud : E.P.underlying dst = some .string := by
  cases h : bn_ E.P dst with
  | none => simp [h] at hd
  | some ti => simp [h] at hd; exact qy_ h hd
 obtain ⟨ns, rfl, rfl⟩ := e4.bytes hb
 by_cases hne : ns = []
 ·subst hne
  have hl : rows.length = 0 := by
   cases rows with
   | nil => rfl
   | cons r rs =>
    exfalso
    match r, hb with
    | [.i .u8 n], hb => simp [e0_] at hb
  refine ⟨.string ByteArray.empty, ?_, by simp only [VR]; rfl⟩
  rw [hl] at e1
  have : (convert src dst (ρ x)).run E.P w = .ok (.string ByteArray.empty) w := by
   rw [e1, run_convert_bytes_string w src dst el A 0 c hu hue hud]
   cases A with
   | none => simp [Conv.bytesToString]
   | some a => rw [run_bytesToString w a 0 c [] (by simp [loadCells, loadCellsFrom])]; rfl
  simp only [execOp, ho, Sem.run_bind, this, Result.andThen_ok, Sem.run_pure]
 ·obtain ⟨g, p, rfl, f⟩ := e6 (by simpa using hne)
  have hlen : ns.length = rows.length := by
   have : ∀ (rows : List (List V)) (ns : List Int), e0_ rows = some (ns.map fun n => UInt8.ofNat n.toNat) → ns.length = rows.length := by
    intro rows
    induction rows with
    | nil => intro ns h; simp [e0_] at h; simp [h]
    | cons r rs ih =>
     intro ns h
     match r, h with
     | [.i .u8 n], h =>
      simp only [e0_, Option.map_eq_some_iff] at h
      obtain ⟨l', h1, h2⟩ := h
      cases ns with
      | nil => simp at h2
      | cons m ns => simp only [List.map_cons, List.cons.injEq] at h2; rw [h2.2] at h1; simp [ih ns h1]
   exact this rows ns hb
  have := run_convert_bytes_arg (P := E.P) w src el hu hue g p rows.length c ns hlen (fun i hi => f i (.int .u8 (ns.getD i 0)) (by
   rw [List.getElem?_map, List.getElem?_eq_getElem (by omega), List.getD_eq_getElem?_getD, List.getElem?_eq_getElem (by omega)]; rfl)) dst hud
  exact ⟨.string (strOfNums ns), by simp only [execOp, ho, e1, Sem.run_bind, this, Result.andThen_ok, Sem.run_pure], by simp only [VR, strOfNums]⟩
def cvV (E : Env) (s : St) (x : Operand) : V := match (mc_ s.m (s.pv E x)).bind e0_ with | some l => .s l | none => .no
def cvO (E : Env) : CallC E where
 ef := fun o s => match o.op with
  | .convert _ _ x => { v := cvV E s x, rd := cd_ (s.pv E x) }
  | _ => { v := .no }
 ob := fun o s => pcB E o s = true ∧ match o.op with
  | .convert src dst x => (match fq_ E.P src with | some (el, _, _, _) => (bn_ E.P el).map (·.k) = some (.int .u8) | none => False) ∧ (bn_ E.P dst).map (·.k) = some .str ∧ ((mc_ s.m (s.pv E x)).bind e0_).isSome = true
  | _ => False
 ok := fun o s ⟨h1, h2⟩ => by
  obtain ⟨dst, op, ty, pos, after, guard⟩ := o
  cases op <;> try exact h2.elim
  rename_i src dst' x _
  dsimp only at h2 ⊢
  obtain ⟨h3, h4, h5⟩ := h2
  cases ht : fq_ E.P src with
  | none => simp [ht] at h3
  | some y =>
   obtain ⟨el, z, yb, zc⟩ := y
   simp only [ht] at h3
   obtain ⟨l, hl⟩ := Option.isSome_iff_exists.1 h5
   simp only [cvV, hl]
   obtain ⟨rows, hr, hb⟩ := Option.bind_eq_some_iff.1 hl
   exact ad5_ (bw_ h1) rfl (em_ ht) h3 h4 hr hb
end
end
section
open Go.RowKit
mutual
def frz (l z : Nat) (rows : List (List V)) : V → V
 | .ow l' z' p n => if l' = l then (if z = z' ∧ p + n ≤ rows.length then .sl false ((rows.drop p).take n) else .no) else .ow l' z' p n
 | .pt l' z' r c => if l' = l then (if z = z' ∧ r < rows.length ∧ 0 < z then .rp ((rows.getD r []).drop c) else .no) else .pt l' z' r c
 | .sl t rs => .sl t (if_ l z rows rs)
 | .rp cs => .rp (fp_ l z rows cs)
 | .ag cs => .ag (fp_ l z rows cs)
 | .tu cs => .tu (fp_ l z rows cs)
 | .fn f a c => .fn f (fp_ l z rows a) (fp_ l z rows c)
 | .gd c v => .gd c (frz l z rows v)
 | .i k n => .i k n
 | .b x => .b x
 | .s x => .s x
 | .np => .np
 | .q P => .q P
 | .no => .no
def fp_ (l z : Nat) (rows : List (List V)) : List V → List V
 | [] => []
 | v :: r => frz l z rows v :: fp_ l z rows r
def if_ (l z : Nat) (rows : List (List V)) : List (List V) → List (List V)
 | [] => []
 | v :: r => fp_ l z rows v :: if_ l z rows r
end
section
variable {E : Env} {C : Cx} {φ : Phi} {S S' : Nat → Prop} {s s' : St} {a : Act} {w w' : World} {l z : Nat} {rows : List (List V)}
mutual
theorem q8_ : ∀ vs : List V, (fp_ l z rows vs).length = vs.length
 | [] => by simp only [fp_]
 | v :: r => by simp only [fp_, List.length_cons, q8_ r]
theorem qj_ : ∀ vs : List (List V), (if_ l z rows vs).length = vs.length
 | [] => by simp only [if_]
 | v :: r => by simp only [if_, List.length_cons, qj_ r]
end
mutual
theorem q6_ : ∀ v : V, v.pure = true → frz l z rows v = v
 | .ow _ _ _ _, h | .pt _ _ _ _, h => by simp [V.pure] at h
 | .sl t rs, h => by simp only [V.pure] at h; simp only [frz, jp_ rs h]
 | .rp cs, h => by simp only [V.pure] at h; simp only [frz, ei_ cs h]
 | .ag cs, h => by simp only [V.pure] at h; simp only [frz, ei_ cs h]
 | .tu cs, h => by simp only [V.pure] at h; simp only [frz, ei_ cs h]
 | .fn f a c, h => by simp only [V.pure, Bool.and_eq_true] at h; simp only [frz, ei_ a h.1, ei_ c h.2]
 | .gd c v, h => by simp only [V.pure] at h; simp only [frz, q6_ v h]
 | .i _ _, _ | .b _, _ | .s _, _ | .np, _ | .no, _ | .q _, _ => by simp only [frz]
theorem ei_ : ∀ v : List V, cr_ v = true → fp_ l z rows v = v
 | [], _ => by simp only [fp_]
 | v :: r, h => by simp only [cr_, Bool.and_eq_true] at h; simp only [fp_, q6_ v h.1, ei_ r h.2]
theorem jp_ : ∀ v : List (List V), b4_ v = true → if_ l z rows v = v
 | [], _ => by simp only [if_]
 | v :: r, h => by simp only [b4_, Bool.and_eq_true] at h; simp only [if_, ei_ v h.1, jp_ r h.2]
end
structure FrzOk (φ : Phi) (S S' : Nat → Prop) (w : World) (l z : Nat) (rows : List (List V)) : Prop where
 sub : ∀ g, S g → S' g
 red : ∃ T, MR φ S' w l ⟨T, z, rows⟩
 blk : ∀ g, φ l = some (some g) → S' g ∧ g < w.heap.size
mutual
theorem VR.frz (F : FrzOk φ S S' w l z rows) : ∀ {v : V} {x : Value}, VR φ S w v x → VR φ S' w (Go.Proofs.YtefmbmafdgedmaaGreatDoor.frz l z rows v) x
 | .ow l' z' p n, x, h => by
  simp only [Go.Proofs.YtefmbmafdgedmaaGreatDoor.frz]
  by_cases e : l' = l
  ·subst e
   rw [if_pos rfl]
   split
   ·rename_i hh
    obtain ⟨T, hm⟩ := F.red
    have h0 : VR φ S' w (.ow l' z' p n) x := by simp only [VR] at h ⊢; exact h
    obtain ⟨A, c, z2, xs, e1, e2, e3, e4, e5, e6, _⟩ := g6_ (m := fun _ => some ⟨T, z, rows⟩) (rows := (rows.drop p).take n) h0 (by simp only [mc_, hh, and_self, if_true]) (fun l2 hl2 b2 hb2 => by
     simp only [cd_, List.mem_singleton] at hl2
     cases hb2; subst hl2; exact hm)
    simp only [VR]
    refine ⟨A, c, z2, xs, e1, e2, e3, fun hx => by simp at hx, fun hne => ?_, e4⟩
    obtain ⟨g, q, f1, f2⟩ := e6 hne
    simp only [VR] at h
    obtain ⟨A', c', k1, k2, k3, k4⟩ := h
    rw [e1] at k1
    have hA : A = A' := by injection k1
    have hcc : c = c' := by injection k1
    rcases k4 with k4 | ⟨g', T', m', k4, k5, _⟩
    ·have h0 : ((rows.drop p).take n).length = 0 := by omega
     have : (rows.drop p).take n = [] := List.length_eq_zero_iff.1 h0
     rw [this] at e4
     simp only [VRr] at e4
     exact absurd e4 hne
    ·have hg : g = g' := by rw [hA, k5] at f1; injection f1 with f1; injection f1 with f1; exact f1.symm
     obtain ⟨b1, b2⟩ := F.blk g' k4
     exact ⟨g, q, f1, by rw [hg]; exact b1, by rw [hg]; exact b2, f2⟩
   ·simp only [VR]
  ·rw [if_neg e]; simp only [VR] at h ⊢; exact h
 | .pt l' z' r c, x, h => by
  simp only [Go.Proofs.YtefmbmafdgedmaaGreatDoor.frz]
  by_cases e : l' = l
  ·subst e
   rw [if_pos rfl]
   split
   ·rename_i hh
    obtain ⟨rfl, hr, hz⟩ := hh
    obtain ⟨T, hm⟩ := F.red
    simp only [VR] at h
    obtain ⟨g, h1, h2⟩ := h
    rw [fb_ hz] at h2
    obtain ⟨b1, b2⟩ := F.blk g h1
    rcases hm with ⟨k1, _⟩ | ⟨g', arr, xs, k1, k2, k3, k4, hzz⟩ | ⟨_, _, _, _, _, _, k1, _⟩
    ·rw [h1] at k1; cases k1
    ·rw [h1] at k1; cases k1
     obtain ⟨q1, q2⟩ := k3.getRow hr
     simp only [VR]
     refine ⟨g, r * z + c, _, h2, b1, b2, fun j u hu => ?_, q2.drop c⟩
     rw [cell_of_row w g _ arr _ _ k2]
     rw [List.getElem?_drop, List.getElem?_take] at hu
     split at hu
     ·rw [List.getElem?_drop, ← k4, List.getElem?_take] at hu
      split at hu
      ·rw [Array.getElem?_toList] at hu; rw [← hu, Nat.add_assoc]
      ·cases hu
     ·cases hu
    ·dsimp only at k1; omega
   ·simp only [VR]
  ·rw [if_neg e]; simp only [VR] at h ⊢; exact h
 | .sl t rs, x, h => by
  simp only [Go.Proofs.YtefmbmafdgedmaaGreatDoor.frz, VR, qj_] at h ⊢
  obtain ⟨A, c, z, xs, h1, h2, h3, h4, h5, h6⟩ := h
  exact ⟨A, c, z, xs, h1, h2, h3, h4, fun hne => let ⟨g, o, k1, k2, k3⟩ := h5 hne; ⟨g, o, k1, F.sub g k2, k3⟩, VRr.frz F h6⟩
 | .rp cs, x, h => by
  simp only [Go.Proofs.YtefmbmafdgedmaaGreatDoor.frz, VR] at h ⊢
  obtain ⟨g, o, xs, h1, h2, h3, h4, h5⟩ := h
  exact ⟨g, o, xs, h1, F.sub g h2, h3, h4, VRs.frz F h5⟩
 | .ag cs, x, h => by
  simp only [Go.Proofs.YtefmbmafdgedmaaGreatDoor.frz, VR] at h ⊢
  obtain ⟨xs, h1, h2⟩ := h
  exact ⟨xs, h1, VRs.frz F h2⟩
 | .tu cs, x, h => by
  simp only [Go.Proofs.YtefmbmafdgedmaaGreatDoor.frz, VR] at h ⊢
  obtain ⟨xs, h1, h2⟩ := h
  exact ⟨xs, h1, VRs.frz F h2⟩
 | .fn f a c, x, h => by
  simp only [Go.Proofs.YtefmbmafdgedmaaGreatDoor.frz, VR] at h ⊢
  obtain ⟨a', c', h1, h2, h3⟩ := h
  exact ⟨a', c', h1, VRs.frz F h2, VRs.frz F h3⟩
 | .gd c v, x, h => by
  simp only [Go.Proofs.YtefmbmafdgedmaaGreatDoor.frz, VR] at h ⊢
  exact ⟨fun hc => VR.frz F (h.1 hc), h.2⟩
 | .i _ _, x, h | .b _, x, h | .s _, x, h | .np, x, h | .no, x, h | .q _, x, h => by simp only [Go.Proofs.YtefmbmafdgedmaaGreatDoor.frz, VR] at h ⊢ <;> exact h
theorem VRs.frz (F : FrzOk φ S S' w l z rows) : ∀ {vs : List V} {xs : List Value}, VRs φ S w vs xs → VRs φ S' w (fp_ l z rows vs) xs
 | [], _, h => by simp only [fp_, VRs] at h ⊢; exact h
 | v :: vs, xs, h => by
  simp only [fp_, VRs] at h ⊢
  obtain ⟨x, r, h1, h2, h3⟩ := h
  exact ⟨x, r, h1, VR.frz F h2, VRs.frz F h3⟩
theorem VRr.frz (F : FrzOk φ S S' w l z rows) {y : Nat} : ∀ {rs : List (List V)} {xs : List Value}, VRr φ S w y rs xs → VRr φ S' w y (if_ l z rows rs) xs
 | [], _, h => by simp only [if_, VRr] at h ⊢; exact h
 | r :: rs, xs, h => by
  simp only [if_, VRr] at h ⊢
  obtain ⟨ys, zs, h1, h2, h3, h4, h5⟩ := h
  exact ⟨ys, zs, h1, (q8_ r).trans h2, VRs.frz F h3, h4, VRr.frz F h5⟩
end
def xz_ (l z : Nat) (rows : List (List V)) (b : Blk) : Blk := { b with rows := if_ l z rows b.rows }
def j6_ (l : Nat) (b : Blk) : List (Nat × Blk) → List (Nat × Blk)
 | [] => []
 | (l', c) :: r => if l' = l then j6_ l b r else (l', xz_ l b.z b.rows c) :: j6_ l b r
theorem lx_ (l : Nat) (b : Blk) : ∀ (L : List (Nat × Blk)) (x : Nat), a6_ (j6_ l b L) x = if x = l then none else (a6_ L x).map (xz_ l b.z b.rows)
 | [], x => by simp [j6_, a6_]
 | (l', c) :: r, x => by
  simp only [j6_]
  split
  ·rename_i e; subst e
   rw [lx_ l' b r x]
   simp only [a6_]
   split <;> rfl
  ·rename_i e
   simp only [a6_, lx_ l b r x]
   by_cases hx : x = l'
   ·subst hx; simp [e]
   ·simp only [hx, if_false]
theorem RelAt.frz {σ : List V} {L : List (Nat × Blk)} {U : List Nat} {b : Blk} (h : RelAt E C φ ⟨σ, a6_ L, us U⟩ a w) (hb : a6_ L l = some b) (hi : b4_ b.rows = true) :
  RelAt E C φ ⟨fp_ l b.z b.rows σ, a6_ (j6_ l b L), us U⟩ a w := by
 have hmem : ∀ x c, a6_ (j6_ l b L) x = some c → x ≠ l ∧ ∃ c', a6_ L x = some c' ∧ c = xz_ l b.z b.rows c' := fun x c hc => by
  rw [lx_] at hc
  split at hc
  ·cases hc
  ·rename_i hx
   obtain ⟨c', h1, h2⟩ := Option.map_eq_some_iff.1 hc
   exact ⟨hx, c', h1, h2.symm⟩
 have hS : ∀ g, C.S φ (a6_ L) g → C.S φ (a6_ (j6_ l b L)) g := fun g hg => ⟨hg.1, fun x c hc => by obtain ⟨_, c', h1, _⟩ := hmem x c hc; exact hg.2 x c' h1⟩
 have hk : KeepsW φ φ (C.S φ (a6_ L)) (C.S φ (a6_ (j6_ l b L))) w w := ⟨fun _ _ h => h, fun g hg _ => ⟨hS g hg, rfl⟩, Nat.le_refl _, fun _ _ h => h⟩
 have F : FrzOk φ (C.S φ (a6_ L)) (C.S φ (a6_ (j6_ l b L))) w l b.z b.rows := by
  refine ⟨hS, ⟨b.T, ?_⟩, fun g hg => ?_⟩
  ·rcases h.mem l b hb with ⟨h1, h2⟩ | ⟨g, arr, xs, h1, h2, h3, h4, hzz⟩ | ⟨g, es, ck, xs, h1, h2, h3, h4, h5⟩
   ·exact .inl ⟨h1, h2⟩
   ·exact .inr (.inl ⟨g, arr, xs, h1, h2, h3.keep hk, h4, hzz⟩)
   ·exact .inr (.inr ⟨g, es, ck, xs, h1, h2, h3, h4.keep hk, h5⟩)
  ·have hlt : g < w.heap.size := (h.mem l b hb).lt hg
   refine ⟨⟨?_, fun x c hc hx => ?_⟩, hlt⟩
   ·rcases h.own l b g hb hg with h1 | h1
    ·exact .inl (C.sub g h1)
    ·exact .inr h1
   ·obtain ⟨hxl, c', h1, _⟩ := hmem x c hc
    exact hxl (h.inj x l c' b g h1 hb hx hg)
 refine ⟨h.defers, VRs.frz F h.slots, fun x c hc => ?_, fun x x' c c' g h1 h2 h3 h4 => ?_, fun x c g h1 h3 => ?_, h.used, h.phi0, h.frame, fun g cs hg => (h.glob g cs hg).keep (φ' := fun _ => none) ⟨fun _ _ h => h, fun g hg _ => ⟨hS g hg, rfl⟩, Nat.le_refl _, fun _ _ h => h⟩, h.lad⟩
 ·obtain ⟨hx, c', h1, rfl⟩ := hmem x c hc
  rcases h.mem x c' h1 with ⟨k1, k2⟩ | ⟨g, arr, xs, k1, k2, k3, k4, hzz⟩ | ⟨g, es, ck, xs, k1, k2, k3, k4, k5⟩
  ·exact .inl ⟨k1, by simp only [xz_, k2, if_]⟩
  ·exact .inr (.inl ⟨g, arr, xs, k1, k2, VRr.frz F k3, k4, hzz⟩)
  ·exact .inr (.inr ⟨g, es, ck, xs, k1, k2, k3, VRr.frz F k4, k5⟩)
 ·obtain ⟨_, d, e1, _⟩ := hmem x c h1
  obtain ⟨_, d', e2, _⟩ := hmem x' c' h2
  exact h.inj x x' d d' g e1 e2 h3 h4
 ·obtain ⟨_, d, e1, _⟩ := hmem x c h1
  exact h.own x d g e1 h3
theorem AWp.frz {c : Code} {Q : Exit → St → Prop} {σ σ' : List V} {L L' : List (Nat × Blk)} {U : List Nat} {b : Blk} (l : Nat) (hb : a6_ L l = some b) (hi : b4_ b.rows = true) (h1 : fp_ l b.z b.rows σ = σ') (h2 : j6_ l b L = L') (h : AWp E C c Q ⟨σ', a6_ L', us U⟩) : AWp E C c Q ⟨σ, a6_ L, us U⟩ := fun φ a w hr => by
 subst h1 h2
 exact h φ a w (hr.frz hb hi)
theorem Can.frz {σ σ' : List V} {L L' : List (Nat × Blk)} {U : List Nat} {b : Blk} (l : Nat) (hb : a6_ L l = some b) (hi : b4_ b.rows = true) (h1 : fp_ l b.z b.rows σ = σ') (h2 : j6_ l b L = L') : Can E C ⟨σ, a6_ L, us U⟩ ⟨σ', a6_ L', us U⟩ := fun φ a w hr => by
 subst h1 h2
 exact ⟨φ, hr.frz hb hi⟩
/-! two names change places -/
def sw (l l' x : Nat) : Nat := if x = l then l' else if x = l' then l else x
theorem h2_ (l l' x : Nat) : sw l l' (sw l l' x) = x := by
 unfold sw
 by_cases h1 : x = l
 ·subst h1; by_cases h2 : l' = x <;> simp [h2]
 ·by_cases h2 : x = l'
  ·subst h2; simp [h1]
  ·simp [h1, h2]
def swL (l l' : Nat) : List Nat := (List.range 200).map (sw l l')
theorem be_ {l l' x : Nat} (h : x < 200) : (swL l l').getD x 0 = sw l l' x := by
 simp [swL, List.getD_eq_getElem?_getD, h]
def swM (l l' : Nat) (L : List (Nat × Blk)) : List (Nat × Blk) := L.map fun p => (sw l l' p.1, rnB (swL l l') p.2)
theorem pi_ (l l' : Nat) : ∀ (L : List (Nat × Blk)) (x : Nat), a6_ (swM l l' L) x = (a6_ L (sw l l' x)).map (rnB (swL l l'))
 | [], x => rfl
 | (y, b) :: r, x => by
  have ih := pi_ l l' r x
  simp only [swM, List.map_cons, a6_] at ih ⊢
  by_cases h : x = sw l l' y
  ·have h' : sw l l' x = y := by rw [h, h2_]
   rw [if_pos h, if_pos h']; rfl
  ·have h' : ¬ sw l l' x = y := fun e => h (by rw [← e, h2_])
   rw [if_neg h, if_neg h']; exact ih
theorem Can.swap {σ σ' : List V} {L L' : List (Nat × Blk)} {U U' : List Nat} (l l' : Nat) (hl : 10 ≤ l) (hl' : 10 ≤ l') (hb : l < 200) (hb' : l' < 200) (hc : cls 200 σ = true) (hm : (L.all fun p => decide (p.1 < 200) && clr 200 p.2.rows) = true) (h1 : rns (swL l l') σ = σ') (h2 : swM l l' L = L') (h3 : U.map (sw l l') = U') :
  Can E C ⟨σ, a6_ L, us U⟩ ⟨σ', a6_ L', us U'⟩ := fun φ a w hr => by
 subst h1 h2 h3
 have hlen : (swL l l').length = 200 := by simp [swL]
 have hφ : ∀ i, i < (swL l l').length → φ i = (fun x => φ (sw l l' x)) ((swL l l').getD i 0) := fun i hi => by
  rw [hlen] at hi
  rw [be_ hi]
  simp only [h2_]
 have low : ∀ x, m7_ x = true → sw l l' x = x := fun x hx => by simp only [m7_, Bool.or_eq_true, decide_eq_true_eq] at hx; unfold sw; rw [if_neg (by omega), if_neg (by omega)]
 have hmem : ∀ x b, a6_ (swM l l' L) x = some b → ∃ b', a6_ L (sw l l' x) = some b' ∧ b = rnB (swL l l') b' := fun x b h => by
  rw [pi_] at h
  obtain ⟨b', k1, k2⟩ := Option.map_eq_some_iff.1 h
  exact ⟨b', k1, k2.symm⟩
 have hS : ∀ g, C.S φ (a6_ L) g ↔ C.S (fun x => φ (sw l l' x)) (a6_ (swM l l' L)) g := fun g => by
  simp only [Cx.S]
  refine and_congr_right fun _ => ⟨fun hh x b hb => ?_, fun hh x b hb => ?_⟩
  ·obtain ⟨b', k1, _⟩ := hmem x b hb
   exact hh _ b' k1
  ·have := hh (sw l l' x) (rnB (swL l l') b) (by rw [pi_, h2_, hb]; rfl)
   simpa only [h2_] using this
 have hk : ∀ ψ : Phi, KeepsW ψ ψ (C.S φ (a6_ L)) (C.S (fun x => φ (sw l l' x)) (a6_ (swM l l' L))) w w := fun ψ => ⟨fun _ _ h => h, fun g hg _ => ⟨(hS g).1 hg, rfl⟩, Nat.le_refl _, fun _ _ h => h⟩
 have hLm : ∀ y b, a6_ L y = some b → y < 200 ∧ clr 200 b.rows = true := fun y b h => by
  have : ∀ (L : List (Nat × Blk)), a6_ L y = some b → (y, b) ∈ L := by
   intro L
   induction L with
   | nil => intro h; simp [a6_] at h
   | cons p r ih =>
    obtain ⟨z, c⟩ := p
    intro h
    simp only [a6_] at h
    split at h
    ·rename_i e; subst e; cases h; exact List.mem_cons_self
    ·exact List.mem_cons_of_mem _ (ih h)
  have := List.all_eq_true.1 hm _ (this L h)
  simpa using this
 refine ⟨fun x => φ (sw l l' x), hr.defers, ((VRs.rn hφ (by rw [hlen]; exact hc)).1 hr.slots).keep (hk _), fun x b hb => ?_, fun x x' b b' g h1 h2 h3 h4 => ?_, fun x b g h1 h3 => ?_, fun x hx => ?_, fun x y hx => ?_, hr.frame, fun g cs hg => (hr.glob g cs hg).keep (hk _), hr.lad⟩
 ·obtain ⟨b', k1, rfl⟩ := hmem x b hb
  obtain ⟨k2, k3⟩ := hLm _ b' k1
  have := (MR.rn (φ := fun x => φ (sw l l' x)) hφ (by rw [hlen]; exact k2) (by rw [hlen]; exact k3)).1 (hr.mem _ b' k1)
  rw [be_ k2, h2_] at this
  exact this.keep (hk _) fun _ _ => rfl
 ·obtain ⟨c, k1, _⟩ := hmem x b h1
  obtain ⟨c', k2, _⟩ := hmem x' b' h2
  have := hr.inj _ _ c c' g k1 k2 h3 h4
  rw [← h2_ l l' x, this, h2_]
 ·obtain ⟨c, k1, _⟩ := hmem x b h1
  exact hr.own _ c g k1 h3
 ·have := hr.used _ hx
  simp only [us, Bool.or_eq_true, decide_eq_true_eq, List.contains_eq_mem, List.mem_map] at this ⊢
  rcases this with h | h
  ·left
   have e : sw l l' (sw l l' x) = sw l l' x := low _ (by simp only [m7_, Bool.or_eq_true, decide_eq_true_eq]; exact h)
   rw [h2_] at e
   rw [← e] at h; exact h
  ·exact .inr ⟨_, h, h2_ _ _ _⟩
 ·have hx10 := C.low x (by rw [hx]; simp)
  simp only [low x hx10]
  exact hr.phi0 x y hx
end
end
section
open Go.RowKit
section
variable {E : Env} {C : Cx} {φ : Phi} {s : St} {a : Act} {w : World}
theorem VR.own {S : Nat → Prop} {x : Value} {l z : Nat} (h : VR φ S w (.sl true []) x) : VR φ S w (.ow l z 0 0) x := by
 simp only [VR] at h ⊢
 obtain ⟨A, c, z', xs, h1, h2, h3, h4, h5⟩ := h
 exact ⟨A, c, h1, h2, h3, .inl (h4 trivial)⟩
theorem Can.ownSlot {σ : List V} {L L' : List (Nat × Blk)} {U : List Nat} (t l T z : Nat) (hl : us U l = false) (ht : σ.getD t .no = .sl true []) (hL : pv_ L l ⟨T, z, []⟩ = L') : Can E C ⟨σ, a6_ L, us U⟩ ⟨σ.set t (.ow l z 0 0), a6_ L', us (U ++ [l])⟩ := fun φ a w hr => by
 subst hL
 have he := hr.empty (l := l) hl T z
 have e1 : (⟨σ, upd (a6_ L) l (some ⟨T, z, []⟩), fun x => if x = l then true else us U x⟩ : St) = ⟨σ, a6_ (pv_ L l ⟨T, z, []⟩), us (U ++ [l])⟩ := by
  apply St.ext'
  ·rfl
  ·exact mu_ L l _
  ·funext x
   show (if x = l then true else us U x) = us (U ++ [l]) x
   rw [← k5_]
   by_cases h : x = l <;> simp [h]
 dsimp only at he
 rw [e1] at he
 refine ⟨_, he.defers, ?_, he.mem, he.inj, he.own, he.used, he.phi0, he.frame, he.glob, he.lad⟩
 have hv := he.slot t
 dsimp only at hv
 rw [ht] at hv
 have := he.slots.set t (VR.own (l := l) (z := z) hv)
 dsimp only at this ⊢
 rwa [show a.tmps.toList.set t (a.tmps.getD t undef) = a.tmps.toList by
  apply List.ext_getElem?
  intro i
  rw [List.getElem?_set]
  split
  ·rename_i e
   subst e
   split
   ·rename_i h
    rw [List.getElem?_eq_getElem h, Array.getD_eq_getD_getElem?, Array.getElem?_eq_getElem (by simpa using h)]
    simp
   ·rename_i h
    rw [List.getElem?_eq_none (by omega)]
  ·rfl] at this
end
end
section
open Go.RowKit
section
variable {E : Env} {s : St} {o : Oper}
def dg_ {f : FuncId} {vs rs : List V} (p : Prop) (A : p → ACall E f vs [] rs []) : CallC E where
 ef := fun _ _ => { v := hb_ rs }
 ob := fun o s => pcB E o s = true ∧ lt_ E f vs o s ∧ cr_ vs = true ∧ cr_ rs = true ∧ p
 ok := fun o s ⟨h1, h2, h3, h4, h5⟩ => (a5_ (A h5)).ok o s ⟨h1, h2, h3, h4⟩
def sj_ {f : FuncId} {vs rs : List V} (p : Prop) (A : p → ACall E f vs [] rs []) : CallC E where
 ef := fun o s => { v := hb_ rs, rd := (qg_ E o s).flatMap cd_ }
 ob := fun o s => pcB E o s = true ∧ l1_ E f vs o s ∧ ka_ rs = true ∧ cls 0 vs = true ∧ p
 ok := fun o s ⟨h1, h2, h3, h4, h5⟩ => (ac6_ (A h5)).ok o s ⟨h1, h2, h3, h4⟩
def adq_ {f : FuncId} {vs rs : List V} {L0 Lr : List Blk} (η x : List Nat) (p : Prop) (A : p → ACall E f vs L0 rs Lr) : CallC E where
 ef := fun _ _ => eh_ η (η ++ x) rs Lr
 ob := fun o s => pcB E o s = true ∧ lt_ E f (rns η vs) o s ∧ al_ s.m η η L0 ∧ (η ++ x).length = Lr.length ∧ (η ++ x).Nodup ∧ cls η.length vs = true ∧ ar_ η.length L0 = true ∧ cls (η ++ x).length rs = true ∧ ar_ (η ++ x).length Lr = true ∧ p
 ok := fun o s ⟨h1, h2, h3, h4, h5, h6, h7, h8, h9, h10⟩ => (bv_ η x (A h10)).ok o s ⟨h1, h2, h3, h4, h5, h6, h7, h8, h9⟩
end
section
variable {E : Env} {C : Cx} {s : St} {o : Oper} {Q : Exit → St → Prop}
def unB : V := .q fun x => ∃ t, x = .bool t
theorem vo_ : c7_ unB = true := rfl
theorem x5_ : peel unB = unB := rfl
theorem AWp.condQ {c : Operand} {x y : Code} (hc : s.pv E c = unB) (hp : c7_ (s.ev E c) = true) (h1 : AWp E C x Q s) (h0 : AWp E C y Q s) : AWp E C (.cond c x y) Q s := fun φ a w hr => by
 have := hr.pv hp
 rw [hc] at this
 simp only [unB, VR] at this
 obtain ⟨t, ht⟩ := this
 refine wp_cond ht ?_
 cases t
 ·exact h0 φ a w hr
 ·exact h1 φ a w hr
theorem ut_ : ∀ (σ : List V) (t : Nat) (v : V), leV (σ.getD t .no) v → les σ (σ.set t v)
 | [], _, _, _ => by simp only [List.set_nil, les]
 | u :: σ, 0, v, h => by simp only [List.getD_cons_zero] at h; simp only [List.set_cons_zero, les]; exact ⟨h, dv_ σ⟩
 | u :: σ, t + 1, v, h => by simp only [List.getD_cons_succ] at h; simp only [List.set_cons_succ, les]; exact ⟨dl_ u, ut_ σ t v h⟩
theorem Can.slotLe {σ σ' : List V} {m : Mem} {u : Nat → Bool} (t : Nat) (v : V) (h : leV (σ.getD t .no) v) (h1 : σ.set t v = σ') : Can E C ⟨σ, m, u⟩ ⟨σ', m, u⟩ := fun φ a w hr => by
 subst h1
 exact ⟨φ, hr.defers, hr.slots.le (ut_ σ t v h), hr.mem, hr.inj, hr.own, hr.used, hr.phi0, hr.frame, hr.glob, hr.lad⟩
theorem aes_ {t t' el z y : Nat} {zc : List V} {x : Operand} {k : Bool} {rows : List (List V)} (hp : PC E o s) (ho : o.op = .binOp .eql t x (.const (.slice none 0 0)) t') (ht : (bn_ E.P t).map (·.k) = some (.sl el z y zc)) (hx : s.pv E x = .sl k rows) (hne : rows.head? ≠ some []) :
  Op1 E o s { v := match rows with | [] => unB | _ => .b false } :=
 Op1.pure fun s' h1 _ C φ a w hr => by
  have hxo : x ∈ o.op.operands := by simp [ho, Op.operands]
  have k1 : VR φ (C.S φ s'.m) w (s.pv E x) (a.eval x) := by
   have := hr.pv (x := x) (by rw [h1 x hxo]; exact hp x hxo)
   unfold St.pv at this ⊢
   rwa [h1 x hxo] at this
  rw [hx] at k1
  simp only [VR] at k1
  obtain ⟨A, c, z', xs, e1, e2, e3, e4, e5, e6⟩ := k1
  obtain ⟨hu, _⟩ := ex_ ht
  have hrun := Lib.run_eql_slice_nil (P := E.P) w t el A rows.length c 0 0 hu
  have he : a.eval (.const (.slice none 0 0)) = .slice none 0 0 := rfl
  refine ⟨.bool A.isNone, by simp [execOp, ho, e1, he, h3_ .eql t x (.const (.slice none 0 0)) (.slice A rows.length c) (.slice none 0 0) E.P w (by simp) (by simp), hrun], ?_⟩
  cases rows with
  | nil => simp only [unB, VR]; exact ⟨_, rfl⟩
  | cons r rs =>
   simp only [VRr] at e6
   obtain ⟨ys, zs, rfl, _, h2, _⟩ := e6
   have hr1 : r ≠ [] := fun e => hne (by rw [e]; rfl)
   have : ys ≠ [] := fun e => hr1 (List.eq_nil_of_length_eq_zero (by rw [← h2.len, e]; rfl))
   obtain ⟨g, p, rfl, _⟩ := e5 (by simp [this])
   simp only [VR, Option.isNone_some]
def nilV (v : V) : V := match v with | .sl _ [] => unB | .sl _ _ => .b false | _ => .no
def nilO (E : Env) : CallC E where
 ef := fun o s => match o.op with
  | .binOp .eql _ x _ _ => { v := nilV (s.pv E x) }
  | _ => { v := .no }
 ob := fun o s => pcB E o s = true ∧ match o.op with
  | .binOp .eql t x (.const (.slice none 0 0)) _ => (fq_ E.P t).isSome = true ∧ match s.pv E x with | .sl _ rows => rows.head? ≠ some [] | _ => False
  | _ => False
 ok := fun o s ⟨h1, h2⟩ => by
  obtain ⟨dst, op, ty, pos, after, guard⟩ := o
  split at h2
  ·rename_i t x t' ho
   dsimp only at ho
   subst ho
   obtain ⟨h3, h4⟩ := h2
   dsimp only
   cases ht : fq_ E.P t with
   | none => simp [ht] at h3
   | some p =>
    obtain ⟨el, z, y, zc⟩ := p
    generalize hx : s.pv E x = vx at h4
    cases vx <;> try exact h4.elim
    rename_i k rows
    have := aes_ (s := s) (bw_ h1) rfl (em_ ht) hx h4
    cases rows with
    | nil => exact this
    | cons r rs => exact this
  ·exact h2.elim
end
theorem ol_ : ∀ a b : List (List V), b4_ (a ++ b) = (b4_ a && b4_ b)
 | [], b => by simp only [List.nil_append, b4_, Bool.true_and]
 | x :: a, b => by simp only [List.cons_append, b4_, ol_ a b, Bool.and_assoc]
def eb_ (l : List (List V)) (z : List V) (k : Nat) : List (List V) := l.mapIdx fun i r => if i < k then r else z
theorem hi_ (l : List (List V)) (z : List V) (k j : Nat) : (eb_ l z k)[j]? = (l[j]?).map fun r => if j < k then r else z := by simp [eb_]
theorem az_ (l : List (List V)) (z : List V) (k : Nat) : (eb_ l z k).length = l.length := by simp [eb_]
theorem ht_ (l : List (List V)) (z : List V) : eb_ l z 0 = List.replicate l.length z := by
 apply List.ext_getElem?; intro j
 rw [hi_, List.getElem?_replicate]
 rcases Nat.lt_or_ge j l.length with h | h
 ·rw [List.getElem?_eq_getElem h, if_pos h]; simp
 ·rw [List.getElem?_eq_none h, if_neg (by omega)]; rfl
theorem ja_ {l : List (List V)} {z : List V} {k : Nat} (h : l.length ≤ k) : eb_ l z k = l := by
 apply List.ext_getElem?; intro j
 rw [hi_]
 rcases Nat.lt_or_ge j l.length with h2 | h2
 ·rw [List.getElem?_eq_getElem h2, Option.map_some, if_pos (by omega)]
 ·rw [List.getElem?_eq_none h2]; rfl
theorem ha_ {l : List (List V)} {z : List V} {k : Nat} (h : k < l.length) : (eb_ l z k).set k (l.getD k []) = eb_ l z (k + 1) := by
 apply List.ext_getElem?; intro j
 rw [List.getElem?_set, hi_, hi_, az_]
 by_cases e : k = j
 ·subst e
  rw [if_pos rfl, if_pos h, List.getElem?_eq_getElem h, Option.map_some, if_pos (by omega), List.getD_eq_getElem?_getD, List.getElem?_eq_getElem h]; rfl
 ·rw [if_neg e]
  by_cases h2 : j < k
  ·rw [show (fun r : List V => if j < k then r else z) = fun r => if j < k + 1 then r else z from by funext r; rw [if_pos h2, if_pos (by omega)]]
  ·rw [show (fun r : List V => if j < k then r else z) = fun r => if j < k + 1 then r else z from by funext r; rw [if_neg h2, if_neg (by omega)]]
theorem hl_ : ∀ {l : List (List V)}, b4_ l = true ↔ ∀ r ∈ l, cr_ r = true
 | [] => by simp [b4_]
 | x :: l => by simp only [b4_, Bool.and_eq_true, hl_ (l := l), List.forall_mem_cons]
theorem ly_ {l : List (List V)} {z : List V} {k : Nat} {r : List V} (h : r ∈ eb_ l z k) : r ∈ l ∨ r = z := by
 obtain ⟨j, hj⟩ := List.getElem?_of_mem h
 rw [hi_] at hj
 obtain ⟨q, h1, h2⟩ := Option.map_eq_some_iff.1 hj
 split at h2
 ·exact .inl (h2 ▸ List.mem_of_getElem? h1)
 ·exact .inr h2.symm
theorem hm_ {l : List (List V)} {z : List V} {k : Nat} (h : b4_ l = true) (hz : cr_ z = true) : b4_ (eb_ l z k) = true :=
 hl_.2 fun r hr => by
  rcases ly_ hr with hr | rfl
  ·exact hl_.1 h r hr
  ·exact hz
theorem fg_ {E : Env} {f : FuncId} {fn : Func} {c : Code} {vs rs : List V} (hf : E.P.funcs[f]? = some fn) (hb : fn.body = some c) (hname : (fn.name == "runtime.NumGoroutine") = false)
  (h : ∀ S w (xs : Array Value), VRs (fun _ => none) S w vs xs.toList → (∀ g cs, E.G g = some cs → VR (fun _ => none) S w (.rp cs) (.pointer (some ⟨g, 0, none⟩))) → (∃ B, E.H B w ∧ B ≤ w.heap.size) →
   Calls E.P f xs w fun e w' => ∃ ys, e = .returned (fw_ ys) ∧ Below w.heap.size w w' ∧ VRs (fun _ => none) (fun g => S g ∨ w.heap.size ≤ g) w' rs ys) : ACall E f vs [] rs [] := by
 refine ⟨fun args w => ?_, fun φ S w args hp => ?_⟩
 ·simp [callFunc, hf, hb]
  simpa using hname
 ·have hφ : φ = fun _ => none := by
   funext l
   cases hh : φ l with
   | none => rfl
   | some x => have := hp.low l (by rw [hh]; simp); simp at this
  subst hφ
  obtain ⟨B, b1, b2, _⟩ := hp.lad
  refine (h S w args hp.args hp.glob ⟨B, b1, b2⟩).mono fun e w' ⟨ys, h1, h2, h3⟩ => ⟨ys, fun _ => none, h1, ?_⟩
  refine ⟨fun i hi => by simp at hi, h3.keep ⟨fun _ _ h => h, fun g hg _ => ⟨⟨hg, fun l b hb => by simp⟩, rfl⟩, Nat.le_refl _, fun _ _ h => h⟩, fun i b hb => by simp at hb, fun i g _ hg => by simp at hg, fun i j g hi _ _ _ => by simp at hi, FrameW.below h2 _⟩
end
section
open Go.RowKit
theorem Can.leAt {E : Env} {C : Cx} {σ : List V} {L L' : List (Nat × Blk)} {u : Nat → Bool} (l : Nat) (rows : List (List V)) {b : Blk} (hb : a6_ L l = some b) (h : ler b.rows rows) (h1 : pv_ L l ⟨b.T, b.z, rows⟩ = L') : Can E C ⟨σ, a6_ L, u⟩ ⟨σ, a6_ L', u⟩ := fun φ a w hr => by
 subst h1
 rw [← mu_]
 have hm : ∀ x b', upd (a6_ L) l (some ⟨b.T, b.z, rows⟩) x = some b' → ∃ b0, a6_ L x = some b0 ∧ ∀ S, MR φ S w x b0 → MR φ S w x b' := fun x b' hx => by
  by_cases e : x = l
  ·subst e
   rw [c4_] at hx; cases hx
   refine ⟨b, hb, fun S hM => ?_⟩
   rcases hM with ⟨k1, k2⟩ | ⟨g, arr, xs, k1, k2, k3, k4, hzz⟩ | ⟨g, es, ck, xs, k1, k2, k3, k4, k5⟩
   ·refine .inl ⟨k1, ?_⟩
    rw [k2] at h
    cases rows with
    | nil => rfl
    | cons r rs => simp [ler] at h
   ·exact .inr (.inl ⟨g, arr, xs, k1, k2, k3.le h, k4, hzz⟩)
   ·exact .inr (.inr ⟨g, es, ck, xs, k1, k2, k3, k4.le h, k5⟩)
  ·rw [b5_ _ e] at hx; exact ⟨b', hx, fun _ h => h⟩
 have hS : C.S φ (upd (a6_ L) l (some ⟨b.T, b.z, rows⟩)) = C.S φ (a6_ L) := by
  funext k
  simp only [Cx.S, pk_, eq_iff_iff]
  refine and_congr_right fun _ => ⟨fun hh x b' hb' => ?_, fun hh x b' hb' => ?_⟩
  ·by_cases e : x = l
   ·subst e; exact hh x _ (c4_ _ _ _)
   ·exact hh x b' (by rw [b5_ _ e]; exact hb')
  ·by_cases e : x = l
   ·subst e; exact hh x b hb
   ·rw [b5_ _ e] at hb'; exact hh x b' hb'
 refine ⟨φ, hr.defers, by dsimp only; rw [hS]; exact hr.slots, fun x b' hx => ?_, fun x x' b1 b2 g h1 h2 => ?_, fun x b1 g h1 => ?_, hr.used, hr.phi0, hr.frame, fun g cs hg => by dsimp only; rw [hS]; exact hr.glob g cs hg, hr.lad⟩
 ·obtain ⟨b0, k1, k2⟩ := hm x b' hx
  dsimp only
  rw [hS]
  exact k2 _ (hr.mem x b0 k1)
 ·obtain ⟨c1, k1, _⟩ := hm x b1 h1
  obtain ⟨c2, k2, _⟩ := hm x' b2 h2
  exact hr.inj x x' c1 c2 g k1 k2
 ·obtain ⟨c1, k1, _⟩ := hm x b1 h1
  exact hr.own x c1 g k1
end
section
open Go.RowKit
def ifV (b : Bool) : V := .q fun x => if b then x = .nilIface else ∃ t p, x = .iface t p
theorem zq_ (b : Bool) : peel (ifV b) = ifV b := rfl
theorem vg_ (b : Bool) : c7_ (ifV b) = true := rfl
theorem xm_ (b : Bool) : (ifV b).pure = true := rfl
theorem xe_ (b : Bool) : (ifV b).flat = true := rfl
theorem adv_ (η : List Nat) (b : Bool) : rn η (ifV b) = ifV b := by simp only [ifV, rn]
theorem aa3_ (u : Nat → Bool) (b : Bool) : V.inn u (ifV b) = true := by simp only [ifV, V.inn]
theorem aec_ (k : Nat) (b : Bool) : V.cl k (ifV b) = true := by simp only [ifV, V.cl]
section
variable {E : Env} {s : St} {o : Oper}
theorem x9_ {t t' : TypeId} {x : Operand} {b : Bool} (hp : PC E o s) (ho : o.op = .binOp .eql t x (.const .nilIface) t') (ht : E.P.underlying t = some (.interface (E.P.methodsAt t))) (hx : s.pv E x = ifV b) : Op1 E o s { v := .b b } :=
 Op1.pure fun s' h1 _ C φ a w hr => by
  have hxo : x ∈ o.op.operands := by simp [ho, Op.operands]
  have k1 : VR φ (C.S φ s'.m) w (s.pv E x) (a.eval x) := by
   have := hr.pv (x := x) (by rw [h1 x hxo]; exact hp x hxo)
   unfold St.pv at this ⊢
   rwa [h1 x hxo] at this
  rw [hx] at k1
  simp only [ifV, VR] at k1
  have he : a.eval (.const .nilIface) = .nilIface := rfl
  refine ⟨.bool b, ?_, by simp only [VR]⟩
  cases b with
  | true =>
   simp only [if_true] at k1
   have hrun := run_eql_nil_nil (P := E.P) w t ht
   have hg : (eqGuard .eql t x (.const .nilIface) .nilIface .nilIface).run E.P w = .ok () w := by simp [eqGuard]
   simp [execOp, ho, k1, he, hrun, hg]
  | false =>
   simp only [Bool.false_eq_true, if_false] at k1
   obtain ⟨tt, p, k1⟩ := k1
   have hrun := run_eql_held_nil (P := E.P) w t tt p ht
   have hg : (eqGuard .eql t x (.const .nilIface) (.iface tt p) .nilIface).run E.P w = .ok () w := by simp [eqGuard]
   simp [execOp, ho, k1, he, hrun, hg]
def ifO (E : Env) (t : TypeId) (b : Bool) (ht : E.P.underlying t = some (.interface (E.P.methodsAt t))) : CallC E where
 ef := fun _ _ => { v := .b b }
 ob := fun o s => pcB E o s = true ∧ match o.op with
  | .binOp .eql t' x (.const .nilIface) _ => t' = t ∧ s.pv E x = ifV b
  | _ => False
 ok := fun o s ⟨h1, h2⟩ => by
  obtain ⟨dst, op, ty, pos, after, guard⟩ := o
  split at h2
  ·rename_i t1 x t2 ho
   dsimp only at ho
   subst ho
   obtain ⟨rfl, h4⟩ := h2
   exact x9_ (bw_ h1) rfl ht h4
  ·exact h2.elim
theorem aas_ {x y z : Operand} {k : IntKind} {p q r : Int} {ts : Array TypeId} (hp : PC E o s) (ho : o.op = .call { callee := .builtin .max, args := #[x, y, z], argTypes := ts }) (hx : s.pv E x = .i k p) (hy : s.pv E y = .i k q) (hz : s.pv E z = .i k r) :
  Op1 E o s { v := .i k (if r > (if q > p then q else p) then r else if q > p then q else p) } := by
 refine Op1.pure' hp fun φ S w ρ hr _ => ?_
 have h1 := hr x (by simp [ho, Op.operands, Call.operands])
 have h2 := hr y (by simp [ho, Op.operands, Call.operands])
 have h3 := hr z (by simp [ho, Op.operands, Call.operands])
 rw [hx] at h1; rw [hy] at h2; rw [hz] at h3
 simp only [VR] at h1 h2 h3
 exact ⟨_, by simp [execOp, ho, h1, h2, h3, resolve, invoke, builtin, Builtin.max_, Builtin.max2]; rfl, by simp only [VR]⟩
def maxO (E : Env) : CallC E where
 ef := fun o s => match o.op with
  | .call { callee := .builtin .max, args := as, .. } => match as.toList with
   | [x, y, z] => match s.pv E x, s.pv E y, s.pv E z with
    | .i k p, .i _ q, .i _ r => { v := .i k (if r > (if q > p then q else p) then r else if q > p then q else p) }
    | _, _, _ => { v := .no }
   | _ => { v := .no }
  | _ => { v := .no }
 ob := fun o s => pcB E o s = true ∧ match o.op with
  | .call { callee := .builtin .max, args := as, .. } => match as.toList with
   | [x, y, z] => i8_ (s.pv E x) (s.pv E y) ∧ i8_ (s.pv E y) (s.pv E z)
   | _ => False
  | _ => False
 ok := fun o s ⟨h1, h2⟩ => by
  obtain ⟨dst, op, ty, pos, after, guard⟩ := o
  dsimp only at h2 ⊢
  split at h2
  ·rename_i as ts u
   split at h2
   ·rename_i x y z e
    obtain ⟨h3, h4⟩ := h2
    have e2 : as = #[x, y, z] := by apply Array.ext'; simpa using e
    subst e2
    cases hx : s.pv E x <;> cases hy : s.pv E y <;> simp only [hx, hy, i8_] at h3
    cases hz : s.pv E z <;> simp only [hy, hz, i8_] at h4
    subst h3; subst h4
    exact aas_ (bw_ h1) rfl hx hy hz
   ·exact h2.elim
  ·exact h2.elim
end
end
section
open Go.RowKit
def mR (L : List (Int × Int)) : List (List V) := L.map fun p => [.i .i64 p.1, .i .i64 p.2]
def hd_ : List (Int × Int) → Int → Option Int
 | [], _ => none
 | (a, b) :: r, k => if k = a then some b else hd_ r k
def hw_ : List (Int × Int) → Int → Int → List (Int × Int)
 | [], k, v => [(k, v)]
 | (a, b) :: r, k, v => if k = a then (a, v) :: r else (a, b) :: hw_ r k v
theorem up_ : ∀ L, b4_ (mR L) = true
 | [] => rfl
 | _ :: r => by show (cr_ [_, _] && b4_ (mR r)) = true; rw [up_ r]; rfl
def mC (p : Int × Int) : Value × Value := (.int .i64 p.1, .int .i64 p.2)
theorem mx_ {φ : Phi} {S : Nat → Prop} {w : World} : ∀ {L : List (Int × Int)} {xs : List Value}, VRr φ S w 2 (mR L) xs → xs = L.flatMap fun p => [.int .i64 p.1, .int .i64 p.2]
 | [], xs, h => by simp only [mR, List.map_nil, VRr] at h; simpa using h
 | p :: L, xs, h => by
  simp only [mR, List.map_cons, VRr, VRs, VR] at h
  obtain ⟨ys, zs, rfl, _, ⟨x, r, rfl, rfl, y, r', rfl, rfl, rfl⟩, _, h5⟩ := h
  rw [mx_ (L := L) h5]; rfl
theorem ue_ {φ : Phi} {S : Nat → Prop} {w : World} : ∀ L : List (Int × Int), VRr φ S w 2 (mR L) (L.flatMap fun p => [.int .i64 p.1, .int .i64 p.2])
 | [] => by simp [mR, VRr]
 | p :: L => by
  have h1 : VR φ S w (.i .i64 p.1) (.int .i64 p.1) := by simp only [VR]
  have h2 : VR φ S w (.i .i64 p.2) (.int .i64 p.2) := by simp only [VR]
  have := VRr.cons (z := 2) (r := [.i .i64 p.1, .i .i64 p.2]) rfl (VRs.cons h1 (VRs.cons h2 VRs.nil)) (by intro u hu; simp at hu; rcases hu with rfl | rfl <;> rfl) (ue_ (φ := φ) (S := S) (w := w) L)
  simpa [mR] using this
theorem po_ : ∀ {es : List MapEntry} {L : List (Int × Int)}, (es.flatMap fun e => [e.key, e.val]) = (L.flatMap fun p => [.int .i64 p.1, .int .i64 p.2]) → es.map (fun e => (e.key, e.val)) = L.map mC
 | [], [], _ => rfl
 | [], p :: L, h => by simp at h
 | e :: es, [], h => by simp at h
 | e :: es, p :: L, h => by
  simp only [List.flatMap_cons, List.cons_append, List.nil_append, List.cons.injEq] at h
  simp only [List.map_cons, po_ h.2.2, mC, h.1, h.2.1]
theorem ls_ : ∀ {es : List MapEntry} {L : List (Int × Int)}, es.map (fun e => (e.key, e.val)) = L.map mC → (es.flatMap fun e => [e.key, e.val]) = (L.flatMap fun p => [.int .i64 p.1, .int .i64 p.2])
 | [], [], _ => rfl
 | [], p :: L, h => by simp at h
 | e :: es, [], h => by simp at h
 | e :: es, p :: L, h => by
  simp only [List.map_cons, List.cons.injEq, mC, Prod.mk.injEq] at h
  simp only [List.flatMap_cons, ls_ h.2, h.1.1, h.1.2]
theorem jr_ {k : Int} : ∀ {es : List MapEntry} {L : List (Int × Int)} (i : Nat), es.map (fun e => (e.key, e.val)) = L.map mC →
  (hd_ L k = none ∧ Instr.findNow (.int .i64) (.int .i64 k) es i = some none ∧ ∀ v, hw_ L k v = L ++ [(k, v)]) ∨
  ∃ j b, hd_ L k = some b ∧ Instr.findNow (.int .i64) (.int .i64 k) es i = some (some (i + j, .int .i64 b)) ∧ L[j]? = some (k, b) ∧ ∀ v, hw_ L k v = L.set j (k, v)
 | [], [], i, _ => .inl ⟨rfl, rfl, fun _ => rfl⟩
 | [], p :: L, i, h => by simp at h
 | e :: es, [], i, h => by simp at h
 | e :: es, (a, b) :: L, i, h => by
  simp only [List.map_cons, List.cons.injEq, mC, Prod.mk.injEq] at h
  obtain ⟨⟨h1, h2⟩, h3⟩ := h
  by_cases hk : k = a
  ·subst hk
   exact .inr ⟨0, b, by simp [hd_], by simp [Instr.findNow, Instr.sameNow, h1, h2], by simp, fun v => by simp [hw_]⟩
  ·rcases jr_ (k := k) (i + 1) h3 with ⟨q1, q2, q3⟩ | ⟨j, c, q1, q2, q3, q4⟩
   ·exact .inl ⟨by simp [hd_, hk, q1], by simp only [Instr.findNow, Instr.sameNow, h1, if_true, beq_eq_false_iff_ne.2 hk]; exact q2, fun v => by simp [hw_, hk, q3]⟩
   ·exact .inr ⟨j + 1, c, by simp [hd_, hk, q1], by simp only [Instr.findNow, Instr.sameNow, h1, if_true, beq_eq_false_iff_ne.2 hk]; rw [q2, show i + 1 + j = i + (j + 1) by omega], by simpa using q3, fun v => by simp [hw_, hk, q4]⟩
section
variable {E : Env} {C : Cx} {φ : Phi} {s : St} {a : Act} {w w' : World} {o : Oper}
theorem RelAt.writeM (h : RelAt E C φ s a w) {l : Nat} {b : Blk} (hb : s.m l = some b) {g : Nat} (hg : φ l = some (some g)) {rows : List (List V)} {xs : List Value} {es es' : Array MapEntry} {ck ck' : Nat}
  (ha : w.heap[g]? = some (.map es ck)) (hz : b.z = 0) (hw : w'.heap[g]? = some (.map es' ck')) (hsame : ∀ k, k ≠ g → w'.heap[k]? = w.heap[k]?) (hhs : w'.heap.size = w.heap.size)
  (hos : w'.os = w.os ∧ w'.tape = w.tape ∧ w'.output = w.output)
  (hr : VRr φ (C.S φ s.m) w 2 rows xs) (hx : xs = w8_ es') : RelAt E C φ ⟨s.σ, upd s.m l (some { b with rows := rows }), s.u⟩ a w' := by
 have hS : C.S φ (upd s.m l (some { b with rows := rows })) = C.S φ s.m := by
  funext k
  simp only [Cx.S, pk_, eq_iff_iff]
  refine and_congr_right fun _ => ⟨fun hh x b' hb' => ?_, fun hh x b' hb' => ?_⟩
  ·by_cases e : x = l
   ·subst e; exact hh x _ (c4_ _ _ _)
   ·exact hh x b' (by rw [b5_ _ e]; exact hb')
  ·by_cases e : x = l
   ·subst e; exact hh x b hb
   ·rw [b5_ _ e] at hb'; exact hh x b' hb'
 have hset : ∀ k, C.S φ s.m k → k < w.heap.size → C.S φ (upd s.m l (some { b with rows := rows })) k ∧ w'.heap[k]? = w.heap[k]? := fun k hk _ =>
  ⟨by rw [hS]; exact hk, hsame k (fun e => hk.2 l b hb (by rw [e]; exact hg))⟩
 have hfr : FrameW (fun k => k = g) w w' := ⟨hos.1, hos.2.1, hos.2.2, by omega, fun k _ hk => hsame k hk, fun k x hx => by
  by_cases e : k = g
  ·subst e
   simp [World.shape?, ha] at hx
  ·rw [er_ (hsame k e)]; exact hx⟩
 refine h.step (fun _ _ h => h) h.used hset hfr (fun k hk => by subst hk; exact h.own l b k hb hg) (fun x b' hb' => ?_) (fun x x' b1 b2 k h1 h2 h3 h4 => ?_) (fun x b1 k h1 h3 => ?_)
 ·by_cases e : x = l
  ·subst e
   rw [c4_] at hb'; cases hb'
   refine .inr (.inr (.inr ⟨g, es', ck', xs, hg, hw, hz, ?_, hx⟩))
   have hk := h.keeps (fun _ _ h => h) hset hfr
   exact hr.keep hk
  ·rw [b5_ _ e] at hb'
   exact .inl ⟨hb', fun k hk => hsame k (fun e' => e (h.inj x l b' b g hb' hb (by rw [← e']; exact hk) hg))⟩
 ·have f : ∀ y c, upd s.m l (some { b with rows := rows }) y = some c → ∃ c', s.m y = some c' := fun y c hy => by
   by_cases e : y = l
   ·subst e; exact ⟨b, hb⟩
   ·rw [b5_ _ e] at hy; exact ⟨c, hy⟩
  obtain ⟨c1, h1⟩ := f _ _ h1
  obtain ⟨c2, h2⟩ := f _ _ h2
  exact h.inj x x' c1 c2 k h1 h2 h3 h4
 ·by_cases e : x = l
  ·subst e; exact h.own x b k hb h3
  ·rw [b5_ _ e] at h1; exact h.own x b1 k h1 h3
theorem RelAt.newM (h : RelAt E C φ s a w) {l : Nat} (hl : s.u l = false) (T : TypeId) :
  RelAt E C (fun x => if x = l then some (some w.heap.size) else φ x) ⟨s.σ, upd s.m l (some ⟨T, 0, []⟩), fun x => if x = l then true else s.u x⟩ a (w.alloc (.map #[] 0)) := by
 have hn : φ l = none := by
  cases hh : φ l with
  | none => rfl
  | some x => have := h.used l (by rw [hh]; simp); rw [hl] at this; cases this
 have hphi : ∀ x y, φ x = some y → (fun x => if x = l then some (some w.heap.size) else φ x) x = some y := fun x y hxy => by
  by_cases e : x = l
  ·subst e; rw [hn] at hxy; cases hxy
  ·simpa [e] using hxy
 have hset : ∀ g, C.S φ s.m g → g < w.heap.size → C.S (fun x => if x = l then some (some w.heap.size) else φ x) (upd s.m l (some ⟨T, 0, []⟩)) g ∧ (w.alloc (.map #[] 0)).heap[g]? = w.heap[g]? := fun g hg hlt => by
  refine ⟨⟨hg.1, fun x b hb => ?_⟩, Below.heap_alloc w _ g hlt⟩
  by_cases e : x = l
  ·subst e; simp only [if_pos]; intro hh; cases hh; exact absurd hlt (Nat.lt_irrefl _)
  ·rw [b5_ _ e] at hb; simp only [e, if_false]; exact hg.2 x b hb
 have hfr := FrameW.alloc (fun _ => False) w (.map #[] 0)
 refine h.step hphi (fun x hx => ?_) hset hfr (fun _ h => h.elim) (fun x b hb => ?_) (fun x x' b b' g hb hb' hg hg' => ?_) (fun x b g hb hg => ?_)
 ·by_cases e : x = l
  ·simp [e]
  ·simp only [e, if_false] at hx ⊢; exact h.used x hx
 ·by_cases e : x = l
  ·subst e
   rw [c4_] at hb; cases hb
   exact .inr (.inr (.inr ⟨w.heap.size, #[], 0, [], by simp, heap_alloc_new w _, rfl, VRr.nil, rfl⟩))
  ·rw [b5_ _ e] at hb
   exact .inl ⟨hb, fun g hg => Below.heap_alloc w _ g ((h.mem x b hb).lt hg)⟩
 ·by_cases e : x = l <;> by_cases e' : x' = l
  ·rw [e, e']
  ·subst e
   rw [b5_ _ e'] at hb'
   simp only [if_pos, e', if_false] at hg hg'
   cases hg
   exact absurd ((h.mem x' b' hb').lt hg') (Nat.lt_irrefl _)
  ·subst e'
   rw [b5_ _ e] at hb
   simp only [if_pos, e, if_false] at hg hg'
   cases hg'
   exact absurd ((h.mem x b hb).lt hg) (Nat.lt_irrefl _)
  ·rw [b5_ _ e] at hb; rw [b5_ _ e'] at hb'
   simp only [e, e', if_false] at hg hg'
   exact h.inj x x' b b' g hb hb' hg hg'
 ·by_cases e : x = l
  ·subst e; simp only [if_pos] at hg; cases hg; exact .inr h.frame.size
  ·rw [b5_ _ e] at hb; simp only [e, if_false] at hg; exact h.own x b g hb hg
def wc_ (l T : Nat) : Eff := { v := .pt l 0 0 0, wr := [(l, some ⟨T, 0, []⟩)], nw := [l] }
theorem act_ {t : TypeId} {l T : Nat} (ho : o.op = .makeMap t none) : Op1 E o s (wc_ l T) :=
 Op1.of fun s' _ _ e3 C φ a w hr => by
  have hrun : (execOp a.eval o).run E.P w = .ok (.value (.map (some w.heap.size))) (w.alloc (.map #[] 0)) := by
   simp [execOp, ho, run_makeMap]
  refine ⟨_, _, _, .inl hrun, by simp only [wc_]; rw [gl_]; exact hr.newM (e3 l (by simp [wc_])) T, ?_⟩
  simp only [wc_, VR]
  exact ⟨w.heap.size, by simp, by rw [Nat.zero_mul]; rfl⟩
def j4_ (l : Nat) (b : Blk) (L : List (Int × Int)) (k v : Int) : Eff := { v := .no, wr := [(l, some ⟨b.T, 0, mR (hw_ L k v)⟩)], rd := [l] }
theorem acn_ {t kt et : TypeId} {x y z : Operand} {l T : Nat} {L : List (Int × Int)} {k v : Int} (hp : PC E o s) (ho : o.op = .mapUpdate t x y z) (ht : E.P.underlying t = some (.map kt et)) (hkt : E.P.underlying kt = some (.int .i64))
  (hx : s.pv E x = .pt l 0 0 0) (hy : s.pv E y = .i .i64 k) (hz : s.pv E z = .i .i64 v) (hm : s.m l = some ⟨T, 0, mR L⟩) : Op1 E o s (j4_ l ⟨T, 0, mR L⟩ L k v) := by
 have ox : x ∈ o.op.operands := by simp [ho, Op.operands]
 have oy : y ∈ o.op.operands := by simp [ho, Op.operands]
 have oz : z ∈ o.op.operands := by simp [ho, Op.operands]
 have hpx := hp x ox
 have hpy := hp y oy
 have hpz := hp z oz
 refine Op1.of fun s' e1 e2 e3 C φ a w hr => ?_
 have h1 := hr.pv (x := x) (by rw [e1 x ox]; exact hpx)
 have h2 := hr.pv (x := y) (by rw [e1 y oy]; exact hpy)
 have h3 := hr.pv (x := z) (by rw [e1 z oz]; exact hpz)
 have e1x : s'.pv E x = s.pv E x := by unfold St.pv; rw [e1 x ox]
 have e1y : s'.pv E y = s.pv E y := by unfold St.pv; rw [e1 y oy]
 have e1z : s'.pv E z = s.pv E z := by unfold St.pv; rw [e1 z oz]
 rw [e1x, hx] at h1; rw [e1y, hy] at h2; rw [e1z, hz] at h3
 simp only [VR] at h1 h2 h3
 obtain ⟨g, g1, g2⟩ := h1
 rw [qx_] at g2
 have hb : s'.m l = some ⟨T, 0, mR L⟩ := by rw [e2 l (by simp [j4_])]; exact hm
 rcases hr.mem l _ hb with ⟨m1, _⟩ | ⟨g', arr, xs, m1, m2, m3, m4, hzz⟩ | ⟨g', es, ck, xs, m1, m2, m3, m4, m5⟩
 ·rw [g1] at m1; cases m1
 ·exact absurd hzz (Nat.lt_irrefl _)
 ·rw [g1] at m1; cases m1
  have hx5 := mx_ m4
  have hce := po_ (by rw [← hx5, m5]; rfl)
  have hc1 : ∀ es', (Instr.checkKey es' 10000 kt (a.eval y)).run E.P w = .ok () w := fun es' => by rw [h2]; exact Go.MapKept.run_checkKey hkt (by simp [Go.MapKept.IsKey]) es' 9999
  have fin : ∀ (es' : Array MapEntry) (ck' : Nat), (execOp a.eval o).run E.P w = .ok .skip { w with heap := w.heap.setIfInBounds g (.map es' ck') } → es'.toList.map (fun e => (e.key, e.val)) = (hw_ L k v).map mC →
    ∃ x w' φ', ((execOp a.eval o).run E.P w = .ok (.value x) w' ∨ ((execOp a.eval o).run E.P w = .ok .skip w' ∧ x = undef)) ∧ RelAt E C φ' ⟨s'.σ, (j4_ l ⟨T, 0, mR L⟩ L k v).mem s'.m, (j4_ l ⟨T, 0, mR L⟩ L k v).use s'.u⟩ a w' ∧ VR φ' (C.S φ' ((j4_ l ⟨T, 0, mR L⟩ L k v).mem s'.m)) w' (j4_ l ⟨T, 0, mR L⟩ L k v).v x := fun es' ck' hrun hes => by
   obtain ⟨q1, q2⟩ := Go.MapKept.heap_set (o' := Obj.map es' ck') m2
   have hwr := hr.writeM (w' := { w with heap := w.heap.setIfInBounds g (.map es' ck') }) hb g1 m2 rfl q1 q2 (by simp) ⟨rfl, rfl, rfl⟩ (ue_ (hw_ L k v)) (ls_ hes).symm
   refine ⟨undef, _, φ, .inr ⟨hrun, rfl⟩, ?_, by simp only [j4_, VR]⟩
   have q3 : (j4_ l ⟨T, 0, mR L⟩ L k v).mem s'.m = upd s'.m l (some ⟨T, 0, mR (hw_ L k v)⟩) := by simp [j4_, Eff.mem]
   have q4 : (j4_ l ⟨T, 0, mR L⟩ L k v).use s'.u = s'.u := by funext y; simp [j4_, Eff.use]
   rw [q3, q4]
   exact hwr
  rcases jr_ (k := k) 0 hce with ⟨r1, r2, r3⟩ | ⟨j, b, r1, r2, r3, r4⟩
  ·refine fin (es.push { key := .int .i64 k, val := .int .i64 v, born := ck }) (ck + 1) ?_ (by rw [r3]; simp [hce, mC])
   simp [execOp, ho, Instr.mapUpdate, run_underlying ht, g2, Go.MapKept.run_getObj_map m2, hc1, h2, h3, Go.MapKept.run_findKey hkt r2, Go.MapKept.run_setObj_map _ m2, Go.MapKept.run_checkKey hkt (show Go.MapKept.IsKey (.int .i64) (.int .i64 k) by simp [Go.MapKept.IsKey])]
  ·have hj : j < es.size := by
    have h9 := (List.getElem?_eq_some_iff.1 r3).1
    have h8 := congrArg List.length hce
    simp at h8; omega
   have hjk : es[j].key = .int .i64 k := by
    have h8 := congrArg (fun l => l[j]?) hce
    simp only [List.getElem?_map, r3, Option.map_some, mC, Array.getElem?_toList, Array.getElem?_eq_getElem hj] at h8
    simpa using congrArg Prod.fst (Option.some.inj h8)
   refine fin (es.modify j fun e => { e with key := .int .i64 k, val := .int .i64 v }) ck ?_ ?_
   ·simp [execOp, ho, Instr.mapUpdate, run_underlying ht, g2, Go.MapKept.run_getObj_map m2, hc1, h2, h3, Go.MapKept.run_findKey hkt r2, Go.MapKept.run_setObj_map _ m2, Go.MapKept.run_checkKey hkt (show Go.MapKept.IsKey (.int .i64) (.int .i64 k) by simp [Go.MapKept.IsKey]), Array.getElem?_eq_getElem hj, hjk, Go.MapKept.run_keyThatStays (d := .int .i64) (k := .int .i64 k) (by simp [Go.MapKept.IsKey])]
   ·rw [r4, List.map_set, ← hce]
    apply List.ext_getElem?
    intro i
    simp only [List.getElem?_map, Array.getElem?_toList, Array.getElem?_modify, List.getElem?_set, List.length_map, Array.length_toList, mC]
    by_cases hij : j = i
    ·subst hij; simp [hj]
    ·simp [hij]
theorem aby_ {t kt et : TypeId} {x y : Operand} {l T : Nat} {L : List (Int × Int)} {k v : Int} (hp : PC E o s) (ho : o.op = .lookup t x y false) (ht : E.P.underlying t = some (.map kt et)) (hkt : E.P.underlying kt = some (.int .i64))
  (hx : s.pv E x = .pt l 0 0 0) (hy : s.pv E y = .i .i64 k) (hm : s.m l = some ⟨T, 0, mR L⟩) (hv : hd_ L k = some v) : Op1 E o s { v := .i .i64 v, rd := [l] } := by
 refine Op1.pure' hp fun φ S w ρ hr hmm => ?_
 have h1 := hr x (by simp [ho, Op.operands])
 have h2 := hr y (by simp [ho, Op.operands])
 rw [hx] at h1; rw [hy] at h2
 simp only [VR] at h1 h2
 obtain ⟨g, g1, g2⟩ := h1
 rw [qx_] at g2
 rcases hmm l (by simp) _ hm with ⟨m1, _⟩ | ⟨g', arr, xs, m1, m2, m3, m4, hzz⟩ | ⟨g', es, ck, xs, m1, m2, m3, m4, m5⟩
 ·rw [g1] at m1; cases m1
 ·exact absurd hzz (Nat.lt_irrefl _)
 ·rw [g1] at m1; cases m1
  have hx5 := mx_ m4
  have hce := po_ (by rw [← hx5, m5]; rfl)
  rcases jr_ (k := k) 0 hce with ⟨r1, r2, r3⟩ | ⟨j, b, r1, r2, r3, r4⟩
  ·rw [hv] at r1; cases r1
  ·rw [hv] at r1; cases r1
   refine ⟨.int .i64 v, ?_, by simp only [VR]⟩
   simp [execOp, ho, Instr.lookup, run_underlying ht, g2, Go.MapKept.run_getObj_map m2, h2, Go.MapKept.run_findKey hkt r2, Go.MapKept.run_checkKey hkt (show Go.MapKept.IsKey (.int .i64) (.int .i64 k) by simp [Go.MapKept.IsKey])]
def ac0_ (E : Env) (l : Nat) : CallC E where
 ef := fun _ _ => wc_ l 0
 ob := fun o _ => match o.op with | .makeMap _ none => True | _ => False
 ok := fun o s h => by
  obtain ⟨dst, op, ty, pos, after, guard⟩ := o
  split at h
  ·rename_i t ho
   dsimp only at ho
   subst ho
   exact act_ rfl
  ·exact h.elim
def adj_ (E : Env) (l : Nat) (L : List (Int × Int)) (t kt et : TypeId) (k v : Int) (ht : E.P.underlying t = some (.map kt et)) (hkt : E.P.underlying kt = some (.int .i64)) : CallC E where
 ef := fun _ _ => j4_ l ⟨0, 0, mR L⟩ L k v
 ob := fun o s => pcB E o s = true ∧ match o.op with | .mapUpdate t' x y z => t' = t ∧ s.pv E x = .pt l 0 0 0 ∧ s.pv E y = .i .i64 k ∧ s.pv E z = .i .i64 v ∧ s.m l = some ⟨0, 0, mR L⟩ | _ => False
 ok := fun o s ⟨h1, h2⟩ => by
  obtain ⟨dst, op, ty, pos, after, guard⟩ := o
  split at h2
  ·rename_i t1 x y z ho
   dsimp only at ho
   subst ho
   obtain ⟨rfl, h3, h4, h5, h6⟩ := h2
   exact acn_ (bw_ h1) rfl ht hkt h3 h4 h5 h6
  ·exact h2.elim
def ac7_ (E : Env) (l : Nat) (L : List (Int × Int)) (t kt et : TypeId) (k v : Int) (ht : E.P.underlying t = some (.map kt et)) (hkt : E.P.underlying kt = some (.int .i64)) : CallC E where
 ef := fun _ _ => { v := .i .i64 v, rd := [l] }
 ob := fun o s => pcB E o s = true ∧ hd_ L k = some v ∧ match o.op with | .lookup t' x y false => t' = t ∧ s.pv E x = .pt l 0 0 0 ∧ s.pv E y = .i .i64 k ∧ s.m l = some ⟨0, 0, mR L⟩ | _ => False
 ok := fun o s ⟨h1, hv, h2⟩ => by
  obtain ⟨dst, op, ty, pos, after, guard⟩ := o
  split at h2
  ·rename_i t1 x y ho
   dsimp only at ho
   subst ho
   obtain ⟨rfl, h3, h4, h6⟩ := h2
   exact aby_ (bw_ h1) rfl ht hkt h3 h4 h6 hv
  ·exact h2.elim
end
end
section
open Go.RowKit
theorem ACall.frz1 {E : Env} {f : FuncId} {vs rs rs' : List V} {b : Blk} (A : ACall E f vs [] rs [b]) (h : fp_ 0 b.z b.rows rs = rs') : ACall E f vs [] rs' [] := by
 refine ⟨A.1, fun φ S w args hp => (A.2 φ S w args hp).mono fun e w' ⟨xs, φr, he, P⟩ => ⟨xs, φr, he, ?_⟩⟩
 have hb : MR φr (SOf φr S w [b]) w' 0 b := P.mem 0 b rfl
 have hsub : ∀ g, SOf φr S w [b] g → SOf φr S w [] g := fun g hg => ⟨hg.1, fun i c hc => by simp [kv_] at hc⟩
 have hk : KeepsW φr φr (SOf φr S w [b]) (SOf φr S w []) w' w' := ⟨fun _ _ h => h, fun g hg _ => ⟨hsub g hg, rfl⟩, Nat.le_refl _, fun _ _ h => h⟩
 have F : FrzOk φr (SOf φr S w [b]) (SOf φr S w []) w' 0 b.z b.rows := ⟨hsub, ⟨b.T, hb.keep hk fun _ _ => rfl⟩, fun g hg => ⟨⟨.inr (P.new 0 g (Nat.le_refl _) hg), fun i c hc => by simp [kv_] at hc⟩, hb.lt hg⟩⟩
 refine ⟨fun i hi => by simp at hi, ?_, fun i c hc => by simp at hc, fun i g hi hg => P.new i g hi hg, fun i j g hi => by simp at hi, P.frame⟩
 rw [← h]; exact VRs.frz F P.res
end
section
open Go.RowKit
end
section
open Go.RowKit
def bk_ : List V → Option (List Int)
 | [] => some []
 | .i .i64 n :: r => (bk_ r).map (n :: ·)
 | _ :: _ => none
def a9_ : V → Option (List Int)
 | .ag xs => bk_ xs
 | _ => none
theorem n4_ {φ : Phi} {S : Nat → Prop} {w : World} : ∀ {vs : List V} {xs : List Value} {l : List Int}, VRs φ S w vs xs → bk_ vs = some l → xs = l.map (Value.int .i64)
 | [], xs, l, h, e => by
  simp only [bk_, Option.some.injEq] at e
  subst e
  simp only [VRs] at h
  subst h; rfl
 | v :: vs, xs, l, h, e => by
  simp only [VRs] at h
  obtain ⟨x, r, rfl, h1, h2⟩ := h
  cases v <;> try (simp [bk_] at e; done)
  rename_i k n
  cases k <;> try (simp [bk_] at e; done)
  simp only [bk_] at e
  obtain ⟨l', e1, rfl⟩ := Option.map_eq_some_iff.1 e
  simp only [VR] at h1
  rw [h1, n4_ h2 e1]; rfl
def s1_ (P : Program) (t : TypeId) (n : Nat) : Prop := P.eqGuardType P.depth t = false ∧ ∀ (w : World) (xs ys : List Int), xs.length = n → ys.length = n → (Op.equalIn 10000 t (.agg (xs.map (Value.int .i64)).toArray) (.agg (ys.map (Value.int .i64)).toArray)).run P w = .ok (xs == ys) w
def bm_ : BinOp → Option (List Int) → Option (List Int) → Bool
 | .neq, a, b => !(a == b)
 | _, a, b => a == b
theorem li_ {φ : Phi} {S : Nat → Prop} {w : World} {v : V} {x : Value} {l : List Int} (h : VR φ S w v x) (e : a9_ v = some l) : x = .agg (l.map (Value.int .i64)).toArray := by
 cases v <;> try (simp [a9_] at e; done)
 rename_i xs
 simp only [a9_] at e
 simp only [VR] at h
 obtain ⟨ys, rfl, hy⟩ := h
 have := n4_ hy e
 congr 1
 apply Array.ext'; simpa using this
def bl_ (E : Env) (op : BinOp) (t : TypeId) (n : Nat) (H : s1_ E.P t n) : CallC E where
 ef := fun o s => match o.op with
  | .binOp _ _ x y _ => { v := .b (bm_ op (a9_ (s.pv E x)) (a9_ (s.pv E y))) }
  | _ => { v := .no }
 ob := fun o s => pcB E o s = true ∧ match o.op with
  | .binOp op' t' x y _ => op' = op ∧ t' = t ∧ (op = .eql ∨ op = .neq) ∧ (a9_ (s.pv E x)).map List.length = some n ∧ (a9_ (s.pv E y)).map List.length = some n
  | _ => False
 ok := fun o s ⟨h1, h2⟩ => by
  obtain ⟨dst, op0, ty, pos, after, guard⟩ := o
  split at h2
  ·rename_i op' t' x y t2 ho
   dsimp only at ho
   subst ho
   obtain ⟨rfl, rfl, hop, hx, hy⟩ := h2
   obtain ⟨xs, ex, lx⟩ := Option.map_eq_some_iff.1 hx
   obtain ⟨ys, ey, ly⟩ := Option.map_eq_some_iff.1 hy
   refine Op1.pure' (bw_ h1) fun φ S w ρ hr _ => ?_
   have k1 := li_ (hr x (by simp [Op.operands])) ex
   have k2 := li_ (hr y (by simp [Op.operands])) ey
   have hE := H.2 w xs ys lx ly
   rw [ex, ey]
   rcases hop with rfl | rfl
   ·exact ⟨.bool (xs == ys), by simp [execOp, k1, k2, run_eqGuard_agg w .eql _ x y _ _ H.1, run_eql_struct, hE, Result.andThen], by simp [VR, bm_]⟩
   ·exact ⟨.bool (!(xs == ys)), by simp [execOp, k1, k2, run_eqGuard_agg w .neq _ x y _ _ H.1, run_neq_struct, hE, Result.andThen], by simp [VR, bm_]⟩
  ·exact h2.elim
end
section
open Go.RowKit
section
variable {E : Env} {C : Cx} {φ : Phi} {s : St} {o : Oper}
end
end
section
open Go.RowKit
/-! ### lent in depth -/
mutual
def LD (m : Mem) : V → V → Prop
 | v, .sl t r' => leV v (.sl t r') ∨ (t = false ∧ ∃ l z n b, v = .ow l z 0 n ∧ m l = some b ∧ b.z = z ∧ n = b.rows.length ∧ LDr m b.rows r')
 | v, .ag cs' => ∃ cs, v = .ag cs ∧ LDs m cs cs'
 | v, v' => leV v v'
def LDs (m : Mem) : List V → List V → Prop
 | vs, [] => vs = []
 | vs, v' :: r' => ∃ v r, vs = v :: r ∧ LD m v v' ∧ LDs m r r'
def LDr (m : Mem) : List (List V) → List (List V) → Prop
 | rs, [] => rs = []
 | rs, q' :: r' => ∃ q r, rs = q :: r ∧ LDs m q q' ∧ LDr m r r'
end
theorem LDs.nil {m : Mem} : LDs m [] [] := by simp only [LDs]
theorem LDs.cons {m : Mem} {v v' : V} {r r' : List V} (h : LD m v v') (k : LDs m r r') : LDs m (v :: r) (v' :: r') := by simp only [LDs]; exact ⟨v, r, rfl, h, k⟩
theorem LDr.nil {m : Mem} : LDr m [] [] := by simp only [LDr]
theorem LDr.cons {m : Mem} {q q' : List V} {r r' : List (List V)} (h : LDs m q q') (k : LDr m r r') : LDr m (q :: r) (q' :: r') := by simp only [LDr]; exact ⟨q, r, rfl, h, k⟩
theorem LD.ow {m : Mem} {l z n : Nat} {b : Blk} {r' : List (List V)} (h : m l = some b) (hz : b.z = z) (hn : n = b.rows.length) (k : LDr m b.rows r') : LD m (.ow l z 0 n) (.sl false r') := by
 simp only [LD]; exact .inr ⟨trivial, l, z, n, b, rfl, h, hz, hn, k⟩
theorem LD.ag {m : Mem} {cs cs' : List V} (h : LDs m cs cs') : LD m (.ag cs) (.ag cs') := by simp only [LD]; exact ⟨cs, rfl, h⟩
theorem LDs.len {m : Mem} : ∀ {vs vs' : List V}, LDs m vs vs' → vs.length = vs'.length
 | vs, [], h => by simp only [LDs] at h; subst h; rfl
 | vs, v' :: r', h => by
  simp only [LDs] at h
  obtain ⟨v, r, rfl, _, k⟩ := h
  simp [k.len]
theorem LDr.len {m : Mem} : ∀ {vs vs' : List (List V)}, LDr m vs vs' → vs.length = vs'.length
 | vs, [], h => by simp only [LDr] at h; subst h; rfl
 | vs, v' :: r', h => by
  simp only [LDr] at h
  obtain ⟨v, r, rfl, _, k⟩ := h
  simp [k.len]
section
variable {φ : Phi} {S : Nat → Prop} {w : World} {m : Mem}
theorem VR.up {v : V} {x : Value} (h : VR φ S w v x) : VR φ (fun _ => True) w v x :=
 h.keep ⟨fun _ _ h => h, fun _ _ _ => ⟨trivial, rfl⟩, Nat.le_refl _, fun _ _ h => h⟩
end
/-! ### results of one's own: nothing in them is read elsewhere -/
mutual
def V.own : V → Bool
 | .i _ _ | .b _ | .s _ | .np | .no | .q _ | .ow _ _ _ _ => true
 | .ag cs | .tu cs => owns cs
 | .gd _ v => V.own v
 | _ => false
def owns : List V → Bool
 | [] => true
 | v :: r => V.own v && owns r
end
section
variable {E : Env} {s : St} {o : Oper}
end
/-! ### many places in a row -/
end
section
open Go.RowKit
section
variable {E : Env}
end
end
end Go.Proofs.YtefmbmafdgedmaaGreatDoor
