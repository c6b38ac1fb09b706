/- Tree logic, part 13: a region, in the order of its text, or in whatever order its edges allow. Conditions: none. -/
import Derived.Test.YtefmbmafdgedmaaGreatDoorNa
import Derived.Laws.BytesArg
import Derived.Lib.SliceRun
import Derived.WideLaws
import Derived.MapKept
import Derived.Laws.StructEq
import Derived.Lib.AppendZerosOnto
set_option linter.unusedVariables false
set_option linter.unusedSimpArgs false
namespace Go.Proofs.YtefmbmafdgedmaaGreatDoor
section
open Go.RowKit
inductive Lex (E : Env) (ops : Array Oper) : List Oper → St → List Eff → St → Prop
 | nil (s : St) : Lex E ops [] s [] s
 | cons {o : Oper} {rest : List Oper} {s s' : St} {e : Eff} {es : List Eff} (h : RS1 E ops o s e) (hn : ∀ l ∈ e.nw, s.u l = false) (r : Lex E ops rest (s.eff o.dst e) es s') : Lex E ops (o :: rest) s (e :: es) s'
section
variable {E : Env} {C : Cx} {φ : Phi} {s s' : St} {a : Act} {w w' : World} {o : Oper} {e : Eff} {ops : Array Oper} {Q : Exit → Act → World → Prop}
theorem Lex.run : ∀ {l : List Oper} {s : St} {es : List Eff} {a : Act} {w : World} {φ : Phi}, Lex E ops l s es s' → RelAt E C φ s a w → (∀ φ' a' w', RelAt E C φ' s' a' w' → Q .normal a' w') → wpList E.P ops Q l a w
 | _, _, _, _, _, _, .nil _, hr, hQ => wpList_nil (hQ _ _ _ hr)
 | _, _, _, _, _, _, .cons h hn r, hr, hQ => wpList_step fun K hK => h.run hn hr fun φ' a' w' hr' => hK a' w' (r.run hr' hQ)
/-! ### whatever order -/
def stD (D : Nat → Bool) : Nat → List (Oper × Eff) → St → St
 | _, [], s => s
 | k, (o, e) :: r, s => stD D (k + 1) r (if D k then s.eff o.dst e else s)
theorem ia_ {e : Eff} {m : Mem} {x : Nat} (h : x ∉ e.wr.map (·.1)) : e.mem m x = m x :=
 f0_ _ _ fun p hp hx => h (by rw [← hx]; exact List.mem_map.2 ⟨p, hp, rfl⟩)
theorem p3_ {x : Nat} : ∀ (l : List (Nat × Option Blk)) (m m' : Mem), x ∈ l.map (·.1) → (l.foldl (fun m p => upd m p.1 p.2) m) x = (l.foldl (fun m p => upd m p.1 p.2) m') x
 | [], _, _, h => by simp at h
 | p :: l, m, m', h => by
  by_cases hx : x ∈ l.map (·.1)
  ·simp only [List.foldl_cons]; exact p3_ l _ _ hx
  ·have hp : x = p.1 := by simpa [hx] using h
   have hn : ∀ q ∈ l, q.1 ≠ x := fun q hq e => hx (by rw [← e]; exact List.mem_map.2 ⟨q, hq, rfl⟩)
   simp only [List.foldl_cons]
   rw [f0_ l _ hn, f0_ l _ hn, hp, dn_, dn_]
theorem ve_ {e : Eff} {m m' : Mem} {x : Nat} (h : x ∈ e.wr.map (·.1)) : e.mem m x = e.mem m' x := p3_ _ _ _ h
theorem mm_ (s : St) (d : Option Tmp) (e : Eff) : (s.eff d e).σ = match d with | some t => s.σ.set t e.v | none => s.σ := by cases d <;> rfl
theorem ack_ (s : St) (d : Option Tmp) (e : Eff) : (s.eff d e).m = e.mem s.m := by cases d <;> rfl
theorem ur_ (s : St) (d : Option Tmp) (e : Eff) : (s.eff d e).u = e.use s.u := by cases d <;> rfl
theorem St.ext' {s t : St} (h1 : s.σ = t.σ) (h2 : s.m = t.m) (h3 : s.u = t.u) : s = t := by cases s; cases t; simp_all
structure Apart2 (d1 : Option Tmp) (e1 : Eff) (d2 : Option Tmp) (e2 : Eff) : Prop where
 dst : ∀ t, d1 = some t → d2 ≠ some t
 mem : ∀ x, x ∈ e1.wr.map (·.1) → x ∉ e2.wr.map (·.1)
theorem aap_ {d1 d2 : Option Tmp} {e1 e2 : Eff} (h : Apart2 d1 e1 d2 e2) (s : St) : (s.eff d1 e1).eff d2 e2 = (s.eff d2 e2).eff d1 e1 := by
 apply St.ext'
 ·rw [mm_, mm_, mm_, mm_]
  cases d1 with
  | none => cases d2 <;> rfl
  | some t =>
   cases d2 with
   | none => rfl
   | some u => exact List.set_comm _ _ (fun e => h.dst t rfl (by rw [e]))
 ·simp only [ack_]
  funext x
  by_cases h1 : x ∈ e1.wr.map (·.1)
  ·rw [ia_ (h.mem x h1)]; exact ve_ h1
  ·by_cases h2 : x ∈ e2.wr.map (·.1)
   ·rw [ia_ (e := e1) h1]; exact ve_ h2
   ·rw [ia_ h2, ia_ h1, ia_ h1, ia_ h2]
 ·simp only [ur_, Eff.use]
  funext x
  show ((s.u x || e1.nw.contains x) || e2.nw.contains x) = ((s.u x || e2.nw.contains x) || e1.nw.contains x)
  generalize s.u x = p
  generalize e1.nw.contains x = q
  generalize e2.nw.contains x = r
  cases p <;> cases q <;> cases r <;> rfl
theorem w8_ {D : Nat → Bool} {d : Option Tmp} {e : Eff} : ∀ (l : List (Oper × Eff)) (k : Nat) (s : St), (∀ j p, l[j]? = some p → D (k + j) = true → Apart2 d e p.1.dst p.2) → stD D k l (s.eff d e) = (stD D k l s).eff d e
 | [], _, _, _ => rfl
 | (o, e') :: l, k, s, h => by
  simp only [stD]
  have ih := fun s' => w8_ l (k + 1) s' (fun j p hj hD => h (j + 1) p (by simpa using hj) (by rwa [Nat.add_assoc, Nat.add_comm 1 j] at hD))
  cases hD : D k with
  | true =>
   simp only [if_true]
   rw [aap_ (h 0 (o, e') rfl (by simpa using hD))]
   exact ih _
  | false => simp only [Bool.false_eq_true, if_false]; exact ih s
theorem wn_ {D : Nat → Bool} {i : Nat} : ∀ (l : List (Oper × Eff)) (k : Nat) (s : St) (o : Oper) (e : Eff), l[i]? = some (o, e) → D (k + i) = false → (∀ j p, i < j → l[j]? = some p → D (k + j) = true → Apart2 o.dst e p.1.dst p.2) →
  stD (fun x => if x = k + i then true else D x) k l s = (stD D k l s).eff o.dst e
 | [], _, _, _, _, h, _, _ => by simp at h
 | (o', e') :: l, k, s, o, e, h, hD, ha => by
  cases i with
  | zero =>
   simp at h
   obtain ⟨rfl, rfl⟩ := h
   simp only [stD, Nat.add_zero, if_true]
   rw [Nat.add_zero] at hD
   simp only [hD, Bool.false_eq_true, if_false]
   have hsame : ∀ (m : List (Oper × Eff)) (q : Nat) (t : St), k < q → stD (fun x => if x = k then true else D x) q m t = stD D q m t := fun m => by
    induction m with
    | nil => intros; rfl
    | cons p m ih =>
     intro q t hq
     obtain ⟨o2, e2⟩ := p
     have hqk : ¬ q = k := by omega
     simp only [stD, hqk, if_false]
     exact ih _ _ (by omega)
   rw [hsame _ _ _ (by omega)]
   exact w8_ l (k + 1) s (fun j p hj hD2 => ha (j + 1) p (by omega) (by simpa using hj) (by rwa [Nat.add_assoc, Nat.add_comm 1 j] at hD2))
  | succ i =>
   have hki : ¬ k = k + (i + 1) := by omega
   simp only [stD, hki, if_false]
   rw [show k + (i + 1) = k + 1 + i by omega]
   exact wn_ l (k + 1) _ o e (by simpa using h) (by rwa [show k + (i + 1) = k + 1 + i by omega] at hD) (fun j p hij hj hD2 => ha (j + 1) p (by omega) (by simpa using hj) (by rwa [Nat.add_assoc, Nat.add_comm 1 j] at hD2))
theorem agh_ {D D' : Nat → Bool} {t : Nat} : ∀ (l : List (Oper × Eff)) (k : Nat) (s s' : St), s.σ.length = s'.σ.length → s.σ[t]? = s'.σ[t]? → (∀ j p, l[j]? = some p → p.1.dst = some t → D (k + j) = D' (k + j)) → (stD D k l s).σ[t]? = (stD D' k l s').σ[t]?
 | [], _, _, _, _, h, _ => h
 | (o, e) :: l, k, s, s', hl, h, hw => by
  simp only [stD]
  refine agh_ l (k + 1) _ _ ?_ ?_ (fun j p hj hd => by have := hw (j + 1) p (by simpa using hj) hd; rwa [show k + (j + 1) = k + 1 + j by omega] at this)
  ·have : ∀ (s : St), (s.eff o.dst e).σ.length = s.σ.length := fun s => by rw [mm_]; cases o.dst <;> simp
   cases D k <;> cases D' k <;> simp [this, hl]
  ·have h0 := hw 0 (o, e) rfl
   simp only [Nat.add_zero] at h0
   have hne : o.dst ≠ some t → ∀ s : St, (s.eff o.dst e).σ[t]? = s.σ[t]? := fun hd s => by
    rw [mm_]
    cases hod : o.dst with
    | none => rfl
    | some u => simp only []; rw [List.getElem?_set_ne (fun hh => hd (by rw [hod, hh]))]
   by_cases hd : o.dst = some t
   ·rw [h0 hd]
    cases D' k with
    | false => simpa using h
    | true =>
     simp only [if_true]
     rw [mm_, mm_, hd]
     simp only [List.getElem?_set, hl]
     simp
   ·cases D k <;> cases D' k <;> simp only [if_true, Bool.false_eq_true, if_false, hne hd] <;> exact h
theorem agg_ {D D' : Nat → Bool} {x : Nat} : ∀ (l : List (Oper × Eff)) (k : Nat) (s s' : St), s.m x = s'.m x → (∀ j p, l[j]? = some p → x ∈ p.2.wr.map (·.1) → D (k + j) = D' (k + j)) → (stD D k l s).m x = (stD D' k l s').m x
 | [], _, _, _, h, _ => h
 | (o, e) :: l, k, s, s', h, hw => by
  simp only [stD]
  refine agg_ l (k + 1) _ _ ?_ (fun j p hj hd => by have := hw (j + 1) p (by simpa using hj) hd; rwa [show k + (j + 1) = k + 1 + j by omega] at this)
  have h0 := hw 0 (o, e) rfl
  simp only [Nat.add_zero] at h0
  by_cases hd : x ∈ e.wr.map (·.1)
  ·rw [h0 hd]
   cases D' k with
   | false => simpa using h
   | true => simp only [if_true, ack_]; exact ve_ hd
  ·cases D k <;> cases D' k <;> simp only [if_true, Bool.false_eq_true, if_false, ack_, ia_ hd] <;> exact h
theorem ago_ {D : Nat → Bool} {x : Nat} : ∀ (l : List (Oper × Eff)) (k : Nat) (s : St), s.u x = false → (∀ j p, l[j]? = some p → D (k + j) = true → x ∉ p.2.nw) → (stD D k l s).u x = false
 | [], _, _, h, _ => h
 | (o, e) :: l, k, s, h, hw => by
  simp only [stD]
  refine ago_ l (k + 1) _ ?_ (fun j p hj hd => hw (j + 1) p (by simpa using hj) (by rwa [show k + (j + 1) = k + 1 + j by omega]))
  cases hD : D k with
  | false => simpa using h
  | true =>
   have := hw 0 (o, e) rfl (by simpa using hD)
   simp only [if_true, ur_, Eff.use, h, Bool.false_or]
   simpa using this
theorem n1_ {D : Nat → Bool} : ∀ (l : List (Oper × Eff)) (k : Nat) (s : St), (∀ j, k ≤ j → D j = false) → stD D k l s = s
 | [], _, _, _ => rfl
 | (o, e) :: l, k, s, h => by simp only [stD, h k (Nat.le_refl _), Bool.false_eq_true, if_false]; exact n1_ l (k + 1) s fun j hj => h j (by omega)
theorem Lex.len : ∀ {l : List Oper} {s s' : St} {es : List Eff}, Lex E ops l s es s' → es.length = l.length
 | _, _, _, _, .nil _ => rfl
 | _, _, _, _, .cons _ _ r => by simp [r.len]
theorem Lex.at : ∀ {l : List Oper} {s s' : St} {es : List Eff}, Lex E ops l s es s' → ∀ (k i : Nat) (o : Oper) (e : Eff), (l.zip es)[i]? = some (o, e) →
  RS1 E ops o (stD (fun x => decide (x < k + i)) k (l.zip es) s) e ∧ ∀ n ∈ e.nw, (stD (fun x => decide (x < k + i)) k (l.zip es) s).u n = false
 | _, _, _, _, .nil _, _, _, _, _, h => by simp at h
 | _, _, _, _, .cons (es := es) (rest := rest) (s := s) h1 hn r, k, 0, o, e, h => by
  simp at h
  obtain ⟨rfl, rfl⟩ := h
  rw [n1_ _ _ _ (fun j hj => by simp; omega)]
  exact ⟨h1, hn⟩
 | _, _, _, _, .cons h1 hn r, k, i + 1, o, e, h => by
  simp only [List.zip_cons_cons, stD]
  rw [if_pos (by simp)]
  have := r.at (k + 1) i o e (by simpa using h)
  rwa [show k + 1 + i = k + (i + 1) by omega] at this
theorem Lex.fin : ∀ {l : List Oper} {s s' : St} {es : List Eff}, Lex E ops l s es s' → ∀ k, stD (fun _ => true) k (l.zip es) s = s'
 | _, _, _, _, .nil _, _ => rfl
 | _, _, _, _, .cons _ _ r, k => by simp only [List.zip_cons_cons, stD, if_true]; exact r.fin (k + 1)
inductive Ahead (ops : Array Oper) : Nat → Nat → Prop
 | edge {j : Nat} {o : Oper} {e : Edge} (ho : ops[j]? = some o) (he : e ∈ o.after.toList) (hb : Region.binds .any e = true) : Ahead ops e.on j
 | more {i j : Nat} {o : Oper} {e : Edge} (ho : ops[j]? = some o) (he : e ∈ o.after.toList) (hb : Region.binds .any e = true) (h : Ahead ops i e.on) : Ahead ops i j
def aa1_ (acc : List Nat) (o : Oper) : Nat := o.after.toList.foldl (fun s e => if Region.binds .any e then s ||| 2 ^ e.on ||| acc.getD e.on 0 else s) 0
def xe_ : List Oper → List Nat → List Nat
 | [], acc => acc
 | o :: r, acc => xe_ r (acc ++ [aa1_ acc o])
theorem q2_ {acc : List Nat} {i : Nat} : ∀ (l : List Edge) (s0 : Nat), (l.foldl (fun s e => if Region.binds .any e then s ||| 2 ^ e.on ||| acc.getD e.on 0 else s) s0).testBit i = true →
  s0.testBit i = true ∨ ∃ e ∈ l, Region.binds .any e = true ∧ (e.on = i ∨ (acc.getD e.on 0).testBit i = true)
 | [], s0, h => .inl h
 | e :: l, s0, h => by
  rw [List.foldl_cons] at h
  rcases q2_ l _ h with h | ⟨e', he', hb⟩
  ·cases hb : Region.binds .any e with
   | false => simp only [hb, Bool.false_eq_true, if_false] at h; exact .inl h
   | true =>
    simp only [hb, if_true, Nat.testBit_or, Bool.or_eq_true, Nat.testBit_two_pow, decide_eq_true_eq] at h
    rcases h with (h | h) | h
    ·exact .inl h
    ·exact .inr ⟨e, by simp, hb, .inl h⟩
    ·exact .inr ⟨e, by simp, hb, .inr h⟩
  ·exact .inr ⟨e', by simp [he'], hb⟩
theorem ml_ : ∀ (l : List Oper) (acc : List Nat), (∀ j, ops.toList[acc.length + j]? = l[j]?) → (∀ j i, (acc.getD j 0).testBit i = true → Ahead ops i j) → ∀ j i, ((xe_ l acc).getD j 0).testBit i = true → Ahead ops i j
 | [], acc, _, h => h
 | o :: l, acc, hl, h => by
  simp only [xe_]
  refine ml_ l _ (fun j => ?_) (fun j i hb => ?_)
  ·have := hl (j + 1)
   simpa [Nat.add_assoc, Nat.add_comm 1 j] using this
  ·rw [List.getD_eq_getElem?_getD] at hb
   rcases Nat.lt_trichotomy j acc.length with hj | hj | hj
   ·rw [List.getElem?_append_left hj, ← List.getD_eq_getElem?_getD] at hb
    exact h j i hb
   ·subst hj
    simp only [List.getElem?_append_right (Nat.le_refl _), Nat.sub_self, List.getElem?_cons_zero, Option.getD_some] at hb
    have ho : ops[acc.length]? = some o := by have := hl 0; simpa using this
    rcases q2_ _ _ hb with h0 | ⟨e, he, hbd, h1⟩
    ·simp at h0
    ·rcases h1 with rfl | h1
     ·exact .edge ho he hbd
     ·exact .more ho he hbd (h _ _ h1)
   ·rw [List.getElem?_eq_none (by simp; omega)] at hb
    simp at hb
def dt_ (e : Eff) : List Nat × List Nat := (e.rd ++ e.wr.map (·.1), e.wr.map (·.1))
def gf_ (ops : Array Oper) (o1 : Oper) (i1 : List Nat × List Nat) (o2 : Oper) (i2 : List Nat × List Nat) : Bool :=
 (match o1.dst with | some t => (o2.looksAt ops).contains t || o2.dst == some t | none => false) ||
 (match o2.dst with | some t => (o1.looksAt ops).contains t | none => false) ||
 i1.2.any (i2.1.contains ·) || i2.2.any (i1.1.contains ·)
def j0_ (ops : Array Oper) (infos : List (List Nat × List Nat)) : Bool :=
 let cl := xe_ ops.toList []
 ops.toList.zipIdx.all (fun (o, j) => o.after.toList.all fun e => !Region.binds .any e || decide (e.on < j)) &&
 ((ops.toList.zip infos).zipIdx.all fun (p, j) => ((ops.toList.zip infos).zipIdx.take j).all fun (q, i) => !gf_ ops q.1 q.2 p.1 p.2 || (cl.getD j 0).testBit i)
theorem ui_ {infos : List (List Nat × List Nat)} (h : j0_ ops infos = true) :
  (∀ j o, ops[j]? = some o → ∀ e ∈ o.after.toList, Region.binds .any e = true → e.on < j) ∧
  (∀ i j p q, i < j → (ops.toList.zip infos)[i]? = some q → (ops.toList.zip infos)[j]? = some p → gf_ ops q.1 q.2 p.1 p.2 = true → Ahead ops i j) := by
 simp only [j0_, Bool.and_eq_true] at h
 obtain ⟨h1, h2⟩ := h
 refine ⟨fun j o ho e he hb => ?_, fun i j p q hij hq hp hc => ?_⟩
 ·have := List.all_eq_true.1 h1 (o, j) (List.mem_of_getElem? (i := j) (by rw [List.getElem?_zipIdx, Array.getElem?_toList, ho]; simp))
  have := List.all_eq_true.1 this e he
  simpa [hb] using this
 ·have h3 := List.all_eq_true.1 h2 (p, j) (List.mem_of_getElem? (i := j) (by rw [List.getElem?_zipIdx, hp]; simp))
  have h4 := List.all_eq_true.1 h3 (q, i) (List.mem_of_getElem? (i := i) (by rw [List.getElem?_take_of_lt hij, List.getElem?_zipIdx, hq]; simp))
  simp only [hc, Bool.not_true, Bool.false_or] at h4
  exact ml_ ops.toList [] (fun j => by simp) (fun j i hb => by simp at hb) j i h4
theorem Ahead.listed {listed : Nat → Bool} (hcl : ∀ j o, listed j = true → ops[j]? = some o → ∀ e ∈ o.after.toList, Region.binds .any e = true → listed e.on = true) :
  ∀ {i j : Nat}, Ahead ops i j → (listed j = true ∨ ∀ o, ops[j]? = some o → ∀ e ∈ o.after.toList, Region.binds .any e = true → listed e.on = true) → listed i = true := by
 intro i j h
 induction h with
 | edge ho he hb => exact fun h => h.elim (fun h => hcl _ _ h ho _ he hb) (fun h => h _ ho _ he hb)
 | more ho he hb _ ih => exact fun h => ih (.inl (h.elim (fun h => hcl _ _ h ho _ he hb) (fun h => h _ ho _ he hb)))
theorem Op1.transfer {s2 : St} (h : Op1 E o s e) (h1 : ∀ x ∈ o.op.operands, s2.ev E x = s.ev E x) (h2 : ∀ l ∈ e.rd, s2.m l = s.m l) : Op1 E o s2 e :=
 fun s' g1 g2 g3 => h s' (fun x hx => (g1 x hx).trans (h1 x hx)) (fun l hl => (g2 l hl).trans (h2 l hl)) g3
theorem RS1.transfer {s2 : St} (h : RS1 E ops o s e) (h1 : ∀ t ∈ o.looksAt ops, s2.σ.getD t .no = s.σ.getD t .no) (h2 : ∀ l ∈ e.rd, s2.m l = s.m l) : RS1 E ops o s2 e := by
 have hop : ∀ x ∈ o.op.operands, s2.ev E x = s.ev E x := fun x hx => by
  cases x with
  | tmp t => exact h1 t (by simp only [Oper.looksAt, List.mem_append, List.mem_filterMap]; exact .inl ⟨.tmp t, Array.mem_toList_iff.2 hx, rfl⟩)
  | _ => rfl
 unfold RS1 at h ⊢
 cases hg : o.guard with
 | none => simp only [hg] at h ⊢; exact h.transfer hop h2
 | some jf =>
  obtain ⟨j, f⟩ := jf
  simp only [hg] at h ⊢
  obtain ⟨d, c, hd, hc, h⟩ := h
  have e1 : s2.σ.getD d .no = s.σ.getD d .no := h1 d (by simp only [Oper.looksAt, hg, List.mem_append, hd]; exact .inr (by simp))
  refine ⟨d, c, hd, by rw [e1]; exact hc, ?_⟩
  rw [e1]
  rcases h with ⟨v, he, hv⟩ | ⟨ht, hop'⟩ | h
  ·exact .inl ⟨v, he, fun hgc => (hv hgc).transfer hop h2⟩
  ·exact .inr (.inl ⟨ht, hop'.transfer hop h2⟩)
  ·exact .inr (.inr h)
end
end
section
open Go.RowKit
section
variable {E : Env} {C : Cx} {φ : Phi} {s s' : St} {a : Act} {w w' : World} {ops : Array Oper} {Q : Exit → Act → World → Prop}
theorem p4_ {α : Type} {p q : α → Bool} : ∀ {l : List α}, (∀ x ∈ l, q x = true → p x = true) → (∃ x ∈ l, p x = true ∧ q x = false) → (l.filter q).length < (l.filter p).length
 | [], _, ⟨x, hx, _⟩ => by cases hx
 | y :: l, h, ⟨x, hx, hp, hq⟩ => by
  have hle : ∀ (l : List α), (∀ x ∈ l, q x = true → p x = true) → (l.filter q).length ≤ (l.filter p).length := fun l => by
   induction l with
   | nil => intro _; simp
   | cons z l ih =>
    intro h
    have ih := ih fun x hx => h x (by simp [hx])
    have hz := h z (by simp)
    cases hqz : q z <;> cases hpz : p z <;> simp [List.filter_cons, hqz, hpz] <;> first | omega | (simp [hqz, hpz] at hz)
  have hl := hle l fun x hx => h x (by simp [hx])
  rcases List.mem_cons.1 hx with rfl | hx
  ·simp [List.filter_cons, hp, hq]; omega
  ·have ih := p4_ (l := l) (fun x hx => h x (by simp [hx])) ⟨x, hx, hp, hq⟩
   have hy := h y (by simp)
   cases hqy : q y <;> cases hpy : p y <;> simp [List.filter_cons, hqy, hpy] <;> first | omega | (simp [hqy, hpy] at hy)
def unl (n : Nat) (listed : Array Bool) : Nat := ((List.range n).filter fun i => !listed.getD i true).length
theorem ox_ {o1 o2 : Oper} {i1 i2 : List Nat × List Nat} {t : Nat} (h1 : o1.dst = some t) (h2 : t ∈ o2.looksAt ops ∨ o2.dst = some t) : gf_ ops o1 i1 o2 i2 = true := by
 unfold gf_
 simp only [h1, Bool.or_eq_true]
 rcases h2 with h2 | h2
 ·exact .inl (.inl (.inl (.inl (by simpa using h2))))
 ·exact .inl (.inl (.inl (.inr (by simp [h2]))))
theorem v3_ {o1 o2 : Oper} {i1 i2 : List Nat × List Nat} {t : Nat} (h1 : o2.dst = some t) (h2 : t ∈ o1.looksAt ops) : gf_ ops o1 i1 o2 i2 = true := by
 unfold gf_
 simp only [h1, Bool.or_eq_true]
 exact .inl (.inl (.inr (by simpa using h2)))
theorem u7_ {o1 o2 : Oper} {i1 i2 : List Nat × List Nat} {x : Nat} (h1 : x ∈ i1.2) (h2 : x ∈ i2.1) : gf_ ops o1 i1 o2 i2 = true := by
 unfold gf_
 simp only [Bool.or_eq_true]
 exact .inl (.inr (List.any_eq_true.2 ⟨x, h1, by simpa using h2⟩))
theorem zu_ {o1 o2 : Oper} {i1 i2 : List Nat × List Nat} {x : Nat} (h1 : x ∈ i2.2) (h2 : x ∈ i1.1) : gf_ ops o1 i1 o2 i2 = true := by
 unfold gf_
 simp only [Bool.or_eq_true]
 exact .inr (List.any_eq_true.2 ⟨x, h1, by simpa using h2⟩)
theorem vy_ {es : List Eff} (hl : Lex E ops ops.toList s es s') (hB : j0_ ops (es.map dt_) = true) (hQ : ∀ φ' a' w', RelAt E C φ' s' a' w' → Q .normal a' w') :
  ∀ (fuel : Nat) (listed : Array Bool) (a : Act) (w : World) (φ : Phi), listed.size = ops.size → unl ops.size listed ≤ fuel →
   (∀ j o, listed.getD j false = true → ops[j]? = some o → ∀ e ∈ o.after.toList, Region.binds .any e = true → listed.getD e.on false = true) →
   RelAt E C φ (stD (fun i => listed.getD i false) 0 (ops.toList.zip es) s) a w → wpAny E.P .any ops Q fuel listed a w := by
 obtain ⟨hback, hclash⟩ := ui_ hB
 have hlen := hl.len
 have hzipAt : ∀ (j : Nat) (p : Oper × Eff), (ops.toList.zip es)[j]? = some p → (ops.toList.zip (es.map dt_))[j]? = some (p.1, dt_ p.2) := fun j p hp => by
  rw [List.getElem?_zip_eq_some] at hp ⊢
  exact ⟨hp.1, by simp [hp.2]⟩
 have hopAt : ∀ (j : Nat) (p : Oper × Eff), (ops.toList.zip es)[j]? = some p → ops[j]? = some p.1 := fun j p hp => by
  rw [List.getElem?_zip_eq_some] at hp
  rw [← Array.getElem?_toList]; exact hp.1
 have hzip : ∀ (j : Nat) (o : Oper), ops[j]? = some o → ∃ e, (ops.toList.zip es)[j]? = some (o, e) := fun j o ho => by
  have hj : j < es.length := by
   have := (Array.getElem?_eq_some_iff.1 ho).1
   rw [hlen]; simpa using this
  exact ⟨es[j], by rw [List.getElem?_zip_eq_some]; exact ⟨by rw [Array.getElem?_toList]; exact ho, List.getElem?_eq_getElem hj⟩⟩
 -- nothing is ready: all is done
 have alldone : ∀ (listed : Array Bool), listed.size = ops.size → Region.ready .any ops listed = [] → ∀ j, j < ops.size → listed.getD j false = true := fun listed hsz hr => by
  intro j
  induction j using Nat.strongRecOn with
  | _ j ih =>
   intro hj
   cases hh : listed.getD j false with
   | true => rfl
   | false =>
    have : j ∈ Region.ready .any ops listed := mem_ready.2 ⟨by
     have h1 : j < listed.size := by omega
     simp only [Array.getD_eq_getD_getElem?, Array.getElem?_eq_getElem h1, Option.getD_some] at hh ⊢
     exact hh, ops[j], Array.getElem?_eq_getElem hj, fun e he hb => ih e.on (hback j ops[j] (Array.getElem?_eq_getElem hj) e (Array.mem_toList_iff.2 he) hb) (by have := hback j ops[j] (Array.getElem?_eq_getElem hj) e (Array.mem_toList_iff.2 he) hb; omega)⟩
    rw [hr] at this; cases this
 have finish : ∀ (listed : Array Bool) (a : Act) (w : World) (φ : Phi), listed.size = ops.size → Region.ready .any ops listed = [] → RelAt E C φ (stD (fun i => listed.getD i false) 0 (ops.toList.zip es) s) a w → Q .normal a w := fun listed a w φ hsz hr h => by
  have hall := alldone listed hsz hr
  have : stD (fun i => listed.getD i false) 0 (ops.toList.zip es) s = s' := by
   rw [← hl.fin 0]
   have hcongr : ∀ (l : List (Oper × Eff)) (k : Nat) (t : St), (∀ j, j < l.length → listed.getD (k + j) false = true) → stD (fun i => listed.getD i false) k l t = stD (fun _ => true) k l t := fun l => by
    induction l with
    | nil => intros; rfl
    | cons p l ih =>
     intro k t hh
     obtain ⟨o, e⟩ := p
     have h0 := hh 0 (by simp)
     rw [Nat.add_zero] at h0
     simp only [stD, h0, if_true]
     exact ih _ _ fun j hj => by have := hh (j + 1) (by simpa using hj); rwa [show k + 1 + j = k + (j + 1) by omega]
   exact hcongr _ _ _ fun j hj => by rw [Nat.zero_add]; exact hall j (by simp [List.length_zip, hlen] at hj; exact hj)
  rw [this] at h
  exact hQ φ a w h
 intro fuel
 induction fuel with
 | zero =>
  intro listed a w φ hsz hu hcl hr
  have h0 : Region.ready .any ops listed = [] := by
   apply List.eq_nil_iff_forall_not_mem.2
   intro j hj
   obtain ⟨hjl, o, ho, _⟩ := mem_ready.1 hj
   have hlt := (Array.getElem?_eq_some_iff.1 ho).1
   have : j ∈ (List.range ops.size).filter fun i => !listed.getD i true := List.mem_filter.2 ⟨List.mem_range.2 hlt, by rw [hjl]; rfl⟩
   have := List.length_pos_of_mem this
   unfold unl at hu
   omega
  exact ⟨h0, finish listed a w φ hsz h0 hr⟩
 | succ fuel ih =>
  intro listed a w φ hsz hu hcl hr
  refine ⟨fun h0 => finish listed a w φ hsz h0 hr, fun i hi => ?_⟩
  obtain ⟨hil, o, ho, hedges⟩ := mem_ready.1 hi
  have hlt := (Array.getElem?_eq_some_iff.1 ho).1
  have hlt' : i < listed.size := by omega
  have hil' : listed.getD i false = false := by
   simp only [Array.getD_eq_getD_getElem?, Array.getElem?_eq_getElem hlt', Option.getD_some] at hil ⊢
   exact hil
  have hedges' : ∀ o', ops[i]? = some o' → ∀ e ∈ o'.after.toList, Region.binds .any e = true → listed.getD e.on false = true := fun o' ho' e he hb => by
   rw [ho] at ho'; cases ho'
   exact hedges e (Array.mem_toList_iff.1 he) hb
  obtain ⟨e, hz⟩ := hzip i o ho
  obtain ⟨hRS, hfr⟩ := hl.at 0 i o e hz
  simp only [Nat.zero_add] at hRS hfr
  -- who meets i stands as in the text
  have hord : ∀ j p, (ops.toList.zip es)[j]? = some p → (j < i → gf_ ops p.1 (dt_ p.2) o (dt_ e) = true → listed.getD j false = true) ∧ (i < j → gf_ ops o (dt_ e) p.1 (dt_ p.2) = true → listed.getD j false = false) := fun j p hp => by
   refine ⟨fun hji hc => ?_, fun hij hc => ?_⟩
   ·exact (hclash j i _ _ hji (hzipAt j p hp) (hzipAt i _ hz) hc).listed (listed := fun k => listed.getD k false) hcl (.inr hedges')
   ·have ha := hclash i j _ _ hij (hzipAt i _ hz) (hzipAt j p hp) hc
    cases hh : listed.getD j false with
    | false => rfl
    | true =>
     have := ha.listed (listed := fun k => listed.getD k false) hcl (.inl hh)
     simp only [hil'] at this; cases this
  have hslot : ∀ t ∈ o.looksAt ops, (stD (fun k => listed.getD k false) 0 (ops.toList.zip es) s).σ.getD t .no = (stD (fun x => decide (x < i)) 0 (ops.toList.zip es) s).σ.getD t .no := fun t ht => by
   rw [List.getD_eq_getElem?_getD, List.getD_eq_getElem?_getD]
   congr 1
   refine agh_ _ 0 s s rfl rfl fun j p hp hd => ?_
   simp only [Nat.zero_add]
   rcases Nat.lt_trichotomy j i with h | h | h
   ·rw [(hord j p hp).1 h (ox_ hd (.inl ht))]; simp [h]
   ·subst h; rw [hil']; simp
   ·rw [(hord j p hp).2 h (v3_ hd ht)]; simp; omega
  have hmem : ∀ x ∈ e.rd, (stD (fun k => listed.getD k false) 0 (ops.toList.zip es) s).m x = (stD (fun x => decide (x < i)) 0 (ops.toList.zip es) s).m x := fun x hx => by
   refine agg_ _ 0 s s rfl fun j p hp hd => ?_
   simp only [Nat.zero_add]
   have hx1 : x ∈ (dt_ e).1 := by simp [dt_, hx]
   rcases Nat.lt_trichotomy j i with h | h | h
   ·have hc : gf_ ops p.1 (dt_ p.2) o (dt_ e) = true := u7_ hd hx1
    rw [(hord j p hp).1 h hc]; simp [h]
   ·subst h; rw [hil']; simp
   ·have hc : gf_ ops o (dt_ e) p.1 (dt_ p.2) = true := zu_ hd hx1
    rw [(hord j p hp).2 h hc]; simp; omega
  have hRS' := hRS.transfer hslot hmem
  have hlexu : ∀ x, (stD (fun x => decide (x < i)) 0 (ops.toList.zip es) s).u x = false → s.u x = false := fun x => by
   have hmono : ∀ (l : List (Oper × Eff)) (k : Nat) (D : Nat → Bool) (t : St), (stD D k l t).u x = false → t.u x = false := fun l => by
    induction l with
    | nil => intro _ _ _ h; exact h
    | cons p l ih =>
     intro k D t h
     obtain ⟨o, e⟩ := p
     simp only [stD] at h
     have := ih _ _ _ h
     cases hD : D k with
     | false => simpa [hD] using this
     | true =>
      simp only [hD, if_true, ur_, Eff.use, Bool.or_eq_false_iff] at this
      exact this.1
   exact hmono _ _ _ _
  have hnew : ∀ x ∈ e.nw, (stD (fun k => listed.getD k false) 0 (ops.toList.zip es) s).u x = false := fun x hx => by
   refine ago_ _ 0 s (hlexu x (hfr x hx)) fun j p hp hD hxp => ?_
   simp only [Nat.zero_add] at hD
   have hinc : ∀ (l : List (Oper × Eff)) (k n : Nat) (t : St) (q : Oper × Eff), n < k + l.length → k ≤ n → l[n - k]? = some q → x ∈ q.2.nw → ∀ D : Nat → Bool, D n = true → (stD D k l t).u x = true := fun l => by
    have hkeep : ∀ (l : List (Oper × Eff)) (k : Nat) (D : Nat → Bool) (t : St), t.u x = true → (stD D k l t).u x = true := fun l => by
     induction l with
     | nil => intro _ _ _ h; exact h
     | cons p l ih =>
      intro k D t h
      obtain ⟨o, e⟩ := p
      simp only [stD]
      refine ih _ _ _ ?_
      cases D k <;> simp [ur_, Eff.use, h]
    induction l with
    | nil => intro k n t q h1 h2; simp at h1; omega
    | cons p l ih =>
     intro k n t q h1 h2 h3 h4 D hD
     obtain ⟨o, e⟩ := p
     simp only [stD]
     rcases Nat.eq_or_lt_of_le h2 with h5 | h5
     ·subst h5
      simp at h3
      subst h3
      rw [hD, if_pos rfl]
      refine hkeep _ _ _ _ ?_
      simp only [ur_, Eff.use, Bool.or_eq_true]
      exact .inr (by simpa using h4)
     ·refine ih (k + 1) n _ q (by simp at h1; omega) h5 ?_ h4 D hD
      rw [show n - k = (n - (k + 1)) + 1 by omega] at h3
      simpa using h3
   have hjl : j < (ops.toList.zip es).length := (List.getElem?_eq_some_iff.1 hp).1
   have hil2 : i < (ops.toList.zip es).length := (List.getElem?_eq_some_iff.1 hz).1
   rcases Nat.lt_trichotomy j i with h | h | h
   ·have := hinc (ops.toList.zip es) 0 j s p (by omega) (by omega) (by simpa using hp) hxp (fun x => decide (x < i)) (by simp [h])
    rw [hfr x hx] at this; cases this
   ·subst h; rw [hil'] at hD; cases hD
   ·have hj := (hl.at 0 j p.1 p.2 hp).2 x hxp
    simp only [Nat.zero_add] at hj
    have := hinc (ops.toList.zip es) 0 i s (o, e) (by omega) (by omega) (by simpa using hz) hx (fun x => decide (x < j)) (by simp [h])
    rw [hj] at this; cases this
  have hadd : stD (fun x => (listed.setIfInBounds i true).getD x false) 0 (ops.toList.zip es) s = (stD (fun k => listed.getD k false) 0 (ops.toList.zip es) s).eff o.dst e := by
   have e0 : (fun x => (listed.setIfInBounds i true).getD x false) = fun x => if x = 0 + i then true else listed.getD x false := by
    funext x
    rw [Nat.zero_add]
    by_cases hx : x = i
    ·subst hx; simp [hlt']
    ·rw [if_neg hx, getD_set_ne false (Ne.symm hx)]
   rw [e0]
   refine wn_ _ 0 s o e hz (by rw [Nat.zero_add]; exact hil') fun j p hij hp hD => ?_
   rw [Nat.zero_add] at hD
   have hnc : gf_ ops o (dt_ e) p.1 (dt_ p.2) = false := by
    cases hc : gf_ ops o (dt_ e) p.1 (dt_ p.2) with
    | false => rfl
    | true => rw [(hord j p hp).2 hij hc] at hD; cases hD
   refine ⟨fun t ht hpt => ?_, fun x hx hxp => ?_⟩
   ·rw [ox_ ht (.inr hpt)] at hnc; cases hnc
   ·rw [u7_ (x := x) hx (by simp only [dt_, List.mem_append]; exact .inr hxp)] at hnc; cases hnc
  have hrun := hRS'.run hnew hr (K := wpAny E.P .any ops Q fuel (listed.setIfInBounds i true)) (Q := Q) (fun φ' a' w' hr' => by
   refine ih _ a' w' φ' (by simpa using hsz) ?_ (fun j o' hj ho' e' he' hb => ?_) (by rw [hadd]; exact hr')
   ·have : unl ops.size (listed.setIfInBounds i true) < unl ops.size listed := by
     unfold unl
     refine p4_ (fun x _ hx => ?_) ⟨i, List.mem_range.2 hlt, by rw [hil]; rfl, by simp [hlt']⟩
     by_cases hxi : x = i
     ·subst hxi; simp [hlt'] at hx
     ·rw [getD_set_ne true (Ne.symm hxi)] at hx; exact hx
    omega
   ·by_cases hji : j = i
    ·subst hji
     exact getD_set_true (hedges' o' ho' e' he' hb)
    ·rw [getD_set_ne false (Ne.symm hji)] at hj
     exact getD_set_true (hcl j o' hj ho' e' he' hb))
  unfold wpOp
  simp only [ho]
  split
  ·rename_i hw; rw [if_pos hw] at hrun; exact .inl hrun
  ·rename_i hw; rw [if_neg hw] at hrun; exact hrun
theorem tx_ {id : Nat} {es : List Eff} (hm : E.P.follows .mixedOrders = true) (hl : Lex E ops ops.toList s es s') (hB : j0_ ops (es.map dt_) = true) (hr : RelAt E C φ s a w) (hQ : ∀ φ' a' w', RelAt E C φ' s' a' w' → Q .normal a' w') :
  (Code.region id ops true).wp E.P Q a w := by
 refine wp_region_any hm (vy_ hl hB hQ _ _ a _ φ (by simp) ?_ (fun j o hj => ?_) ?_)
 ·unfold unl
  exact Nat.le_trans (List.length_filter_le _ _) (by simp)
 ·rw [Array.getD_eq_getD_getElem?] at hj
  simp only [Array.getElem?_replicate] at hj
  split at hj <;> simp at hj
 ·have : ∀ i, (Array.replicate ops.size false).getD i false = false := fun i => by
   rw [Array.getD_eq_getD_getElem?, Array.getElem?_replicate]; split <;> rfl
  rw [n1_ _ _ _ (fun j _ => this j)]
  exact hr.drew
end
end
section
open Go.RowKit
mutual
def V.inn (u : Nat → Bool) : V → Bool
 | .ow l _ _ _ | .pt l _ _ _ => u l
 | .sl _ rows => am_ u rows
 | .rp cs | .ag cs | .tu cs => al_ u cs
 | .fn _ a c => al_ u a && al_ u c
 | .gd _ v => V.inn u v
 | _ => true
def al_ (u : Nat → Bool) : List V → Bool
 | [] => true
 | v :: r => V.inn u v && al_ u r
def am_ (u : Nat → Bool) : List (List V) → Bool
 | [] => true
 | v :: r => al_ u v && am_ u r
end
mutual
theorem u2_ (u : Nat → Bool) : ∀ v : V, v.pure = true → v.inn u = true
 | .ow _ _ _ _, h | .pt _ _ _ _, h => by simp [V.pure] at h
 | .sl t rows, h => by simp only [V.pure] at h; simp only [V.inn, hq_ u rows h]
 | .rp cs, h => by simp only [V.pure] at h; simp only [V.inn, fx_ u cs h]
 | .ag cs, h => by simp only [V.pure] at h; simp only [V.inn, fx_ u cs h]
 | .tu cs, h => by simp only [V.pure] at h; simp only [V.inn, fx_ u cs h]
 | .fn f a c, h => by simp only [V.pure, Bool.and_eq_true] at h; simp only [V.inn, fx_ u a h.1, fx_ u c h.2, Bool.and_true]
 | .gd c v, h => by simp only [V.pure] at h; simp only [V.inn, u2_ u v h]
 | .i _ _, _ | .b _, _ | .s _, _ | .np, _ | .no, _ | .q _, _ => by simp only [V.inn]
theorem fx_ (u : Nat → Bool) : ∀ v : List V, cv_ v = true → al_ u v = true
 | [], _ => by simp only [al_]
 | v :: r, h => by simp only [cv_, Bool.and_eq_true] at h; simp only [al_, u2_ u v h.1, fx_ u r h.2, Bool.and_true]
theorem hq_ (u : Nat → Bool) : ∀ v : List (List V), cf_ v = true → am_ u v = true
 | [], _ => by simp only [am_]
 | v :: r, h => by simp only [cf_, Bool.and_eq_true] at h; simp only [am_, fx_ u v h.1, hq_ u r h.2, Bool.and_true]
end
section
variable {φ ψ : Phi} {S : Nat → Prop} {w : World} {u : Nat → Bool}
mutual
theorem VR.inn (hφ : ∀ l, u l = true → ψ l = φ l) : ∀ {v : V} {x : Value}, v.inn u = true → VR φ S w v x → VR ψ S w v x
 | .ow l z o n, x, h, k => by simp only [V.inn] at h; simp only [VR, hφ l h] at k ⊢; exact k
 | .pt l z o n, x, h, k => by simp only [V.inn] at h; simp only [VR, hφ l h] at k ⊢; exact k
 | .sl t rows, x, h, k => by
  simp only [V.inn] at h
  simp only [VR] at k ⊢
  obtain ⟨A, c, z, xs, h1, h2, h3, h4, h5, h6⟩ := k
  exact ⟨A, c, z, xs, h1, h2, h3, h4, h5, VRr.inn hφ h h6⟩
 | .rp cs, x, h, k => by
  simp only [V.inn] at h
  simp only [VR] at k ⊢
  obtain ⟨g, o, xs, h1, h2, h3, h4, h5⟩ := k
  exact ⟨g, o, xs, h1, h2, h3, h4, VRs.inn hφ h h5⟩
 | .ag cs, x, h, k => by
  simp only [V.inn] at h
  simp only [VR] at k ⊢
  obtain ⟨xs, h1, h2⟩ := k
  exact ⟨xs, h1, VRs.inn hφ h h2⟩
 | .tu cs, x, h, k => by
  simp only [V.inn] at h
  simp only [VR] at k ⊢
  obtain ⟨xs, h1, h2⟩ := k
  exact ⟨xs, h1, VRs.inn hφ h h2⟩
 | .fn f a c, x, h, k => by
  simp only [V.inn, Bool.and_eq_true] at h
  simp only [VR] at k ⊢
  obtain ⟨a', c', h1, h2, h3⟩ := k
  exact ⟨a', c', h1, VRs.inn hφ h.1 h2, VRs.inn hφ h.2 h3⟩
 | .gd c v, x, h, k => by
  simp only [V.inn] at h
  simp only [VR] at k ⊢
  exact ⟨fun hc => VR.inn hφ h (k.1 hc), k.2⟩
 | .i _ _, _, _, k | .b _, _, _, k | .s _, _, _, k | .np, _, _, k | .no, _, _, k | .q _, _, _, k => by simp only [VR] at k ⊢ <;> exact k
theorem VRs.inn (hφ : ∀ l, u l = true → ψ l = φ l) : ∀ {vs : List V} {xs : List Value}, al_ u vs = true → VRs φ S w vs xs → VRs ψ S w vs xs
 | [], _, _, k => by simp only [VRs] at k ⊢; exact k
 | v :: vs, xs, h, k => by
  simp only [al_, Bool.and_eq_true] at h
  simp only [VRs] at k ⊢
  obtain ⟨x, r, h1, h2, h3⟩ := k
  exact ⟨x, r, h1, VR.inn hφ h.1 h2, VRs.inn hφ h.2 h3⟩
theorem VRr.inn (hφ : ∀ l, u l = true → ψ l = φ l) {z : Nat} : ∀ {rs : List (List V)} {xs : List Value}, am_ u rs = true → VRr φ S w z rs xs → VRr ψ S w z rs xs
 | [], _, _, k => by simp only [VRr] at k ⊢; exact k
 | r :: rs, xs, h, k => by
  simp only [am_, Bool.and_eq_true] at h
  simp only [VRr] at k ⊢
  obtain ⟨ys, zs, h1, h2, h3, h4, h5⟩ := k
  exact ⟨ys, zs, h1, h2, VRs.inn hφ h.1 h3, h4, VRr.inn hφ h.2 h5⟩
end
end
section
variable {E : Env} {C : Cx} {φ : Phi} {s s' : St} {a : Act} {w w' : World}
structure Weak (s s' : St) : Prop where
 σ : les s.σ s'.σ
 inn : al_ s'.u s'.σ = true
 m : ∀ l b, s'.m l = some b → s.m l = some b ∧ s'.u l = true ∧ am_ s'.u b.rows = true
 low : ∀ l, my_ l = true → s'.u l = true
theorem RelAt.weak (h : RelAt E C φ s a w) (k : Weak s s') : ∃ φ', RelAt E C φ' s' a w := by
 let φ' : Phi := fun l => if s'.u l then φ l else none
 have hφ : ∀ l, s'.u l = true → φ' l = φ l := fun l hl => by simp only [φ', hl, if_true]
 have hsub : ∀ l x, φ' l = some x → φ l = some x := fun l x hx => by
  cases hl : s'.u l with
  | true => rw [hφ l hl] at hx; exact hx
  | false => simp only [φ', hl, Bool.false_eq_true, if_false] at hx; cases hx
 have hS : ∀ g, C.S φ s.m g → C.S φ' s'.m g := fun g hg => ⟨hg.1, fun l b hb h1 => hg.2 l b (k.m l b hb).1 (hsub _ _ h1)⟩
 have hk : KeepsW φ φ (C.S φ s.m) (C.S φ' s'.m) w w := ⟨fun _ _ h => h, fun g hg _ => ⟨hS g hg, rfl⟩, Nat.le_refl _, fun _ _ h => h⟩
 refine ⟨φ', h.defers, VRs.inn hφ k.inn ((h.slots.le k.σ).keep hk), fun l b hb => ?_, fun l l' b b' g h1 h2 h3 h4 => h.inj l l' b b' g (k.m l b h1).1 (k.m l' b' h2).1 (hsub _ _ h3) (hsub _ _ h4),
  fun l b g h1 h3 => h.own l b g (k.m l b h1).1 (hsub _ _ h3), fun l hl => ?_, fun l x hx => ?_, h.frame, fun g cs hg => (h.glob g cs hg).keep (φ' := fun _ => none) ⟨fun _ _ h => h, fun g hg _ => ⟨hS g hg, rfl⟩, Nat.le_refl _, fun _ _ h => h⟩, h.lad⟩
 ·obtain ⟨m1, m2, m3⟩ := k.m l b hb
  rcases h.mem l b m1 with ⟨h1, h2⟩ | ⟨g, arr, xs, h1, h2, h3, h4, hzz⟩ | ⟨g, es, ck, xs, h1, h2, h3, h4, h5⟩
  ·exact .inl ⟨by rw [hφ l m2]; exact h1, h2⟩
  ·exact .inr (.inl ⟨g, arr, xs, by rw [hφ l m2]; exact h1, h2, VRr.inn hφ m3 (h3.keep hk), h4, hzz⟩)
  ·exact .inr (.inr ⟨g, es, ck, xs, by rw [hφ l m2]; exact h1, h2, h3, VRr.inn hφ m3 (h4.keep hk), h5⟩)
 ·cases hu : s'.u l with
  | true => rfl
  | false => simp only [φ', hu, Bool.false_eq_true, if_false] at hl; exact absurd rfl hl
 ·have hl := C.low l (by rw [hx]; simp)
  rw [hφ l (k.low l hl)]
  exact h.phi0 l x hx
def Can (E : Env) (C : Cx) (s s' : St) : Prop := ∀ φ a w, RelAt E C φ s a w → ∃ φ', RelAt E C φ' s' a w
theorem Can.refl : Can E C s s := fun φ _ _ h => ⟨φ, h⟩
theorem Can.trans {s1 s2 s3 : St} (h : Can E C s1 s2) (k : Can E C s2 s3) : Can E C s1 s3 := fun φ a w hr =>
 let ⟨φ', h'⟩ := h φ a w hr
 k φ' a w h'
theorem Can.weak (h : Weak s s') : Can E C s s' := fun φ a w hr => hr.weak h
/-! ### code -/
def AWp (E : Env) (C : Cx) (c : Code) (Q : Exit → St → Prop) (s : St) : Prop :=
 ∀ φ a w, RelAt E C φ s a w → c.wp E.P (fun e a' w' => ∃ φ' s', Q e s' ∧ RelAt E C φ' s' a' w') a w
variable {Q Q' : Exit → St → Prop}
def w6_ (K : St → Prop) (Q : Exit → St → Prop) : Exit → St → Prop
 | .normal, s => K s
 | e, s => Q e s
def aa3_ (id : Nat) (Q : Exit → St → Prop) : Exit → St → Prop
 | .exit id', s => if id' = id then Q .normal s else Q (.exit id') s
 | e, s => Q e s
theorem AWp.weak {c : Code} (h : AWp E C c Q s') (k : Weak s s') : AWp E C c Q s := fun φ a w hr =>
 let ⟨φ', hr'⟩ := hr.weak k
 h φ' a w hr'
theorem AWp.can {c : Code} (k : Can E C s s') (h : AWp E C c Q s') : AWp E C c Q s := fun φ a w hr =>
 let ⟨φ', hr'⟩ := k φ a w hr
 h φ' a w hr'
theorem AWp.mono {c : Code} (h : AWp E C c Q s) (hq : ∀ e s, Q e s → Q' e s) : AWp E C c Q' s := fun φ a w hr =>
 wp_mono (h φ a w hr) fun e a w ⟨φ', s', q, r⟩ => ⟨φ', s', hq e s' q, r⟩
theorem AWp.seq {x y : Code} (h : AWp E C x (w6_ (AWp E C y Q) Q) s) : AWp E C (.seq x y) Q s := fun φ a w hr =>
 wp_seq (wp_mono (h φ a w hr) fun e a' w' ⟨φ', s', q, r⟩ => by
  cases e with
  | normal => exact q φ' a' w' r
  | _ => exact ⟨φ', s', q, r⟩)
theorem AWp.cond {c : Operand} {x y : Code} {t : Bool} (hp : d2_ (s.ev E c) = true) (hc : s.pv E c = .b t) (h : if t then AWp E C x Q s else AWp E C y Q s) : AWp E C (.cond c x y) Q s := fun φ a w hr => by
 have := hr.pv hp
 rw [hc] at this
 simp only [VR] at this
 refine wp_cond this ?_
 cases t
 ·exact h φ a w hr
 ·exact h φ a w hr
theorem AWp.skip (h : Q .normal s) : AWp E C .skip Q s := fun φ a w hr => wp_skip ⟨φ, s, h, hr⟩
theorem AWp.exit {id : Nat} (h : Q (.exit id) s) : AWp E C (.exit id) Q s := fun φ a w hr => wp_exit ⟨φ, s, h, hr⟩
theorem AWp.ret (h : Q .ret s) : AWp E C .ret Q s := fun φ a w hr => wp_ret ⟨φ, s, h, hr⟩
theorem AWp.block {id : Nat} {c : Code} (h : AWp E C c (aa3_ id Q) s) : AWp E C (.block id c) Q s := fun φ a w hr =>
 wp_block (wp_mono (h φ a w hr) fun e a' w' ⟨φ', s', q, r⟩ => by
  cases e with
  | exit id' =>
   simp only [aa3_] at q
   simp only [Exit.inBlock]
   split
   ·rename_i hh; rw [if_pos hh] at q; exact ⟨φ', s', q, r⟩
   ·rename_i hh; rw [if_neg hh] at q; exact ⟨φ', s', q, r⟩
  | _ => exact ⟨φ', s', q, r⟩)
theorem AWp.region {id : Nat} {l : List Oper} {es : List Eff} (hl : Lex E l.toArray l s es s') (h : Q .normal s') : AWp E C (.region id l.toArray false) Q s := fun φ a w hr =>
 wp_region_lit (hl.run hr fun φ' _ _ hr' => ⟨φ', s', h, hr'⟩)
theorem AWp.regionDraw {id : Nat} {l : List Oper} {es : List Eff} (hm : E.P.follows .mixedOrders = true) (hl : Lex E l.toArray l s es s') (hB : j0_ l.toArray (es.map dt_) = true) (h : Q .normal s') : AWp E C (.region id l.toArray true) Q s := fun φ a w hr =>
 tx_ hm (by simpa using hl) hB hr fun φ' _ _ hr' => ⟨φ', s', h, hr'⟩
open Classical in
theorem AWp.loop {c : Code} (I : Nat → St → Prop) {n : Nat} (h0 : I n s) (h : ∀ n s, I n s → AWp E C c (w6_ (fun s' => ∃ m s'', m < n ∧ I m s'' ∧ Can E C s' s'') Q) s) : AWp E C (.loop c) Q s := fun φ a w hr => by
 let J : Act → World → Nat → Prop := fun a w n => ∃ s φ, I n s ∧ RelAt E C φ s a w
 have hex : ∀ a w, (∃ n, J a w n) → ∃ n, J a w n ∧ ∀ m, J a w m → n ≤ m := fun a w ⟨n, hn⟩ => by
  induction n using Nat.strongRecOn with
  | _ n ih =>
   by_cases hh : ∃ m, m < n ∧ J a w m
   ·obtain ⟨m, hm, hJ⟩ := hh; exact ih m hm hJ
   ·exact ⟨n, hn, fun m hm => Nat.le_of_not_lt fun hlt => hh ⟨m, hlt, hm⟩⟩
 let μ : Act → World → Nat := fun a w => if hh : ∃ n, J a w n then Classical.choose (hex a w hh) else 0
 have hμ : ∀ a w (hh : ∃ n, J a w n), J a w (μ a w) ∧ ∀ m, J a w m → μ a w ≤ m := fun a w hh => by
  simp only [μ, hh, dif_pos]; exact Classical.choose_spec (hex a w hh)
 refine wp_loop (fun a w => ∃ n, J a w n) μ ⟨n, s, φ, h0, hr⟩ fun a w hJ => ?_
 obtain ⟨⟨s1, φ1, hI, hr1⟩, _⟩ := hμ a w hJ
 refine wp_mono (h _ s1 hI φ1 a w hr1) fun e a' w' ⟨φ', s', q, r⟩ => ?_
 cases e with
 | normal =>
  obtain ⟨m, s'', hm, hI', hw⟩ := q
  have hJ' : J a' w' m := by
   obtain ⟨φ'', r'⟩ := hw φ' a' w' r; exact ⟨_, φ'', hI', r'⟩
  refine ⟨⟨m, hJ'⟩, ?_⟩
  have := (hμ a' w' ⟨m, hJ'⟩).2 m hJ'
  omega
 | _ => exact ⟨φ', s', q, r⟩
end
end
section
open Go.RowKit
def a7_ (P : Program) (s : St) : ResultVar → V
 | .tmp t => peel (s.σ.getD t .no)
 | .cell t ty => match bu_ P ty with | some ti => ldV ti.k.agg ti.size s.m (peel (s.σ.getD t .no)) | none => .no
def a8_ (P : Program) (s : St) : ResultVar → Prop
 | .tmp t => d2_ (s.σ.getD t .no) = true
 | .cell t ty => d2_ (s.σ.getD t .no) = true ∧ match bu_ P ty with | some ti => (ti.k.agg = false → ti.size = 1) ∧ ldC ti.size s.m (peel (s.σ.getD t .no)) | none => False
def aq_ (P : Program) (s : St) : List ResultVar → Prop
 | [] => True
 | r :: rs => a8_ P s r ∧ aq_ P s rs
section
variable {E : Env} {C : Cx} {φ : Phi} {s s' : St} {a : Act} {w w' : World}
theorem abe_ {S : Nat → Prop} {m : Mem} {t : TypeId} {ti : TI} (ht : bu_ E.P t = some ti) (hn : ti.k.agg = false → ti.size = 1) {v : V} {x : Value} (hv : VR φ S w v x) (hm : ∀ l b, m l = some b → MR φ S w l b) (h : ldC ti.size m v) :
  ∃ A y, x = .pointer (some A) ∧ (loadVar t A).run E.P w = .ok y w ∧ VR φ S w (ldV ti.k.agg ti.size m v) y := by
 cases v <;> simp only [ldC] at h <;> simp only [VR] at hv
 case pt l z r c =>
  cases hb : m l with
  | none => simp [hb] at h
  | some b =>
   simp only [hb] at h
   obtain ⟨rfl, h3, h4, hz⟩ := h
   obtain ⟨g, g1, g2⟩ := hv
   rw [gk_ hz] at g2
   rcases hm l b hb with ⟨k1, _⟩ | ⟨g', arr, xs, k1, k2, k3, k4, hzz⟩ | ⟨_, _, _, _, _, _, k1, _⟩
   ·rw [g1] at k1; cases k1
   ·rw [g1] at k1; cases k1
    obtain ⟨q1, q2⟩ := k3.getRow h3
    obtain ⟨y, e1, e2⟩ := ek_ (g := g) (p := r * b.z + c) ht hn (by rw [List.length_drop, q1]; omega) (q2.drop c) (fun j u hu => by
     rw [cell_of_row w g _ arr _ _ k2]
     rw [List.getElem?_drop, List.getElem?_take] at hu
     split at hu
     ·rw [List.getElem?_drop, ← k4, List.getElem?_take] at hu
      split at hu
      ·rw [Array.getElem?_toList] at hu; rw [← hu, Nat.add_assoc]
      ·cases hu
     ·cases hu)
    refine ⟨_, y, g2, e1, ?_⟩
    simp only [ldV, hb]; exact e2
   ·omega
 case rp cs =>
  obtain ⟨g, p, xs, g1, g2, g3, g4, g5⟩ := hv
  obtain ⟨y, e1, e2⟩ := ek_ (g := g) (p := p) ht hn h g5 g4
  exact ⟨_, y, g1, e1, by simp only [ldV]; exact e2⟩
def resS (tmps : Array Value) : ResultVar → Sem Value
 | .tmp t => pure (tmps.getD t undef)
 | .cell ad t => do loadVar t (← asAddr (tmps.getD ad undef))
theorem pc_ (fn : Func) (tmps : Array Value) : results fn tmps = (do let vs ← fn.results.mapM (resS tmps); pure (if h : vs.size = 1 then vs[0] else .tuple vs)) := by
 unfold results
 congr 1
theorem i6_ (hr : RelAt E C φ s a w) : ∀ (l : List ResultVar), aq_ E.P s l → ∃ xs, (l.mapM (resS a.tmps)).run E.P w = .ok xs w ∧ VRs φ (C.S φ s.m) w (l.map (a7_ E.P s)) xs
 | [], _ => ⟨[], rfl, .nil⟩
 | r :: rs, h => by
  simp only [aq_] at h
  obtain ⟨xs, h1, h2⟩ := i6_ hr rs h.2
  have key : ∃ x, (resS a.tmps r).run E.P w = .ok x w ∧ VR φ (C.S φ s.m) w (a7_ E.P s r) x := by
   cases r with
   | tmp t =>
    simp only [a8_] at h
    exact ⟨_, rfl, (hr.slot t).peel h.1⟩
   | cell t ty =>
    simp only [a8_] at h
    obtain ⟨⟨h3, h4⟩, _⟩ := h
    cases hti : bu_ E.P ty with
    | none => simp [hti] at h4
    | some ti =>
     simp only [hti] at h4
     obtain ⟨A, y, e1, e2, e3⟩ := abe_ (E := E) hti h4.1 ((hr.slot t).peel h3) (fun l b hb => hr.mem l b hb) h4.2
     refine ⟨y, ?_, by simp only [a7_, hti]; exact e3⟩
     simp only [resS, Sem.run_bind, e1, asAddr, Sem.run_pure, Result.andThen_ok, e2]
  obtain ⟨x, k1, k2⟩ := key
  refine ⟨x :: xs, ?_, .cons k2 h2⟩
  rw [List.mapM_cons]
  simp only [Sem.run_bind, k1, Result.andThen_ok, h1, Sem.run_pure]
theorem s0_ (xs : List Value) : (if h : xs.toArray.size = 1 then xs.toArray[0] else .tuple xs.toArray) = gg_ xs := by
 match xs with
 | [] => simp [gg_]
 | [x] => simp [gg_]
 | x :: y :: r => simp [gg_]
structure Out (E : Env) (fn : Func) (k : Nat) (rs : List V) (Lr : List Blk) (η : List Nat) (s : St) : Prop where
 can : aq_ E.P s fn.results.toList
 res : les (fn.results.toList.map (a7_ E.P s)) (rns η rs)
 len : η.length = Lr.length
 le : k ≤ Lr.length
 pre : η.take k = List.range k
 nd : η.Nodup
 cl : cls Lr.length rs = true
 clr : ∀ b ∈ Lr, clr Lr.length b.rows = true
 mem : ∀ i b, Lr[i]? = some b → s.m (η.getD i 0) = some (rnB η b)
def om_ (fn : Func) (vs : List V) (L0 : List Blk) : St := ⟨vs ++ List.replicate (fn.ntmps - vs.length) .no, kd_ L0, my_⟩
theorem ow_ {f : FuncId} {fn : Func} {c : Code} {vs rs : List V} {L0 Lr : List Blk} (hf : E.P.funcs[f]? = some fn) (hb : fn.body = some c) (hname : (fn.name == "runtime.NumGoroutine") = false) (hk : L0.length ≤ 10)
  (h : ∀ C, AWp E C c (fun e s => (e = .normal ∨ e = .ret) ∧ ∃ η, Out E fn L0.length rs Lr η s) (om_ fn vs L0)) : ACall E f vs L0 rs Lr := by
 refine ⟨fun args w => ?_, fun φ S w args hp => ?_⟩
 ·simp [callFunc, hf, hb]
  simpa using hname
 ·let C : Cx := ⟨w, φ, fun g => S g ∨ uo_ φ L0 g, uo_ φ L0, fun l hl => by have := hp.low l hl; simp only [my_, Bool.or_eq_true, decide_eq_true_eq]; omega, fun g hg => .inr hg⟩
  have hS : C.S φ (kd_ L0) = fun g => (S g ∨ w.heap.size ≤ g) ∧ l1_ φ (kd_ L0) g := by
   funext g
   simp only [Cx.S, C, eq_iff_iff]
   refine ⟨fun ⟨h1, h2⟩ => ⟨?_, h2⟩, fun ⟨h1, h2⟩ => ⟨?_, h2⟩⟩
   ·rcases h1 with (h1 | ⟨i, hi, h1⟩) | h1
    ·exact .inl h1
    ·exact absurd h1 (h2 i L0[i] (List.getElem?_eq_getElem hi))
    ·exact .inr h1
   ·rcases h1 with h1 | h1
    ·exact .inl (.inl h1)
    ·exact .inr h1
  have hkeep : KeepsW φ φ S (C.S φ (kd_ L0)) w w := ⟨fun _ _ h => h, fun g hg _ => ⟨by rw [hS]; exact ⟨.inl hg, hp.free g hg⟩, rfl⟩, Nat.le_refl _, fun _ _ h => h⟩
  have hlen : args.size = vs.length := by rw [← hp.args.len]; simp
  have nos : ∀ n, VRs φ (C.S φ (kd_ L0)) w (List.replicate n V.no) (List.replicate n undef) := fun n => by
   induction n with
   | zero => exact .nil
   | succ n ih => exact .cons (by simp only [VR]) ih
  have hr : RelAt E C φ (om_ fn vs L0) { tmps := args ++ Array.replicate (fn.ntmps - args.size) undef, defers := [] } w := by
   refine ⟨rfl, ?_, fun l b hb => (hp.mem l b hb).keep hkeep fun _ _ => rfl, fun l l' b b' g h1 h2 h3 h4 => ?_, fun l b g h1 h3 => .inl ⟨l, (List.getElem?_eq_some_iff.1 h1).1, h3⟩, fun l hl => ?_, fun _ _ h => h, FrameW.refl _ _, fun g cs hg => (hp.glob g cs hg).keep (φ' := fun _ => none) ⟨fun _ _ h => h, hkeep.set, Nat.le_refl _, fun _ _ h => h⟩, ?_⟩
   ·simp only [om_, Array.toList_append, Array.toList_replicate, hlen]
    exact (hp.args.keep hkeep).append (nos _)
   ·exact hp.inj l l' g (List.getElem?_eq_some_iff.1 h1).1 (List.getElem?_eq_some_iff.1 h2).1 h3 h4
   ·have := hp.low l hl
    simp only [om_, my_, Bool.or_eq_true, decide_eq_true_eq]; omega
   ·obtain ⟨B, b1, b2, b3⟩ := hp.lad
    exact ⟨B, b1, b2, fun g ⟨i, _, hi⟩ => b3 i g hi⟩
  refine calls_of_wp hf hb (wp_mono (h C φ _ w hr) fun e a' w' ⟨φ', s', ⟨he, η, ho⟩, r⟩ => ?_)
  obtain ⟨xs, x1, x2⟩ := i6_ r fn.results.toList ho.can
  have hres : (results fn a'.tmps).run E.P w' = .ok (gg_ xs) w' := by
   rw [pc_, Array.mapM_eq_mapM_toList]
   simp only [Sem.run_bind, Sem.run_map, x1, Result.andThen_ok, Sem.run_pure]
   rw [s0_]
  have hlow : ∀ i, i < L0.length → φ' i = φ i := fun i hi => by
   rcases hp.mem i L0[i] (List.getElem?_eq_getElem hi) with ⟨h1, _⟩ | ⟨g, _, _, h1, _⟩ | ⟨g, _, _, _, h1, _⟩ <;> rw [h1] <;> exact r.phi0 i _ h1
  have hηi : ∀ i, i < L0.length → η.getD i 0 = i := fun i hi => by
   have h2 : (η.take L0.length)[i]? = some i := by rw [ho.pre, List.getElem?_range hi]
   rw [List.getElem?_take_of_lt hi] at h2
   rw [List.getD_eq_getElem?_getD, h2]; rfl
  have hφ : ∀ i, i < η.length → d3_ η φ' i = φ' (η.getD i 0) := fun i hi => ee_ hi
  have hle := ho.le
  have hlenη := ho.len
  have hSO : ∀ g, C.S φ' s'.m g → SOf (d3_ η φ') S w Lr g := fun g ⟨h1, h2⟩ => by
   refine ⟨?_, fun i b hb h3 => ?_⟩
   ·rcases h1 with (h1 | ⟨i, hi, h1⟩) | h1
    ·exact .inl h1
    ·exfalso
     have hLi : i < Lr.length := by omega
     refine h2 _ _ (ho.mem i Lr[i] (List.getElem?_eq_getElem hLi)) ?_
     rw [hηi i hi, hlow i hi]; exact h1
    ·exact .inr h1
   ·have hi : i < η.length := by rw [hlenη]; exact (List.getElem?_eq_some_iff.1 hb).1
    rw [hφ i hi] at h3
    exact h2 _ _ (ho.mem i b hb) h3
  have hkS : KeepsW (d3_ η φ') (d3_ η φ') (C.S φ' s'.m) (SOf (d3_ η φ') S w Lr) w' w' := ⟨fun _ _ h => h, fun g hg _ => ⟨hSO g hg, rfl⟩, Nat.le_refl _, fun _ _ h => h⟩
  have hpost : Post φ S w L0 rs Lr (d3_ η φ') xs w' := by
   refine ⟨fun i hi => ?_, ?_, fun i b hb => ?_, fun i g hi h3 => ?_, fun i j g hi hj h3 h4 => ?_, r.frame⟩
   ·rw [hφ i (by omega), hηi i hi, hlow i hi]
   ·have x2 := x2.le ho.res
    exact ((VRs.rn hφ (by rw [hlenη]; exact ho.cl)).2 x2).keep hkS
   ·have hi : i < η.length := by rw [hlenη]; exact (List.getElem?_eq_some_iff.1 hb).1
    exact ((MR.rn hφ hi (by rw [hlenη]; exact ho.clr b (List.mem_of_getElem? hb))).2 (r.mem _ _ (ho.mem i b hb))).keep hkS fun _ _ => rfl
   ·rcases Nat.lt_or_ge i η.length with hlt | hge
    ·rw [hφ i hlt] at h3
     have hbi := ho.mem i Lr[i] (List.getElem?_eq_getElem (by omega))
     rcases r.own _ _ g hbi h3 with ⟨j, hj, h5⟩ | h5
     ·exfalso
      have hbj := ho.mem j Lr[j] (List.getElem?_eq_getElem (by omega))
      have := r.inj _ _ _ _ g hbi hbj h3 (by rw [hηi j hj, hlow j hj]; exact h5)
      rw [List.getD_eq_getElem?_getD, List.getD_eq_getElem?_getD, List.getElem?_eq_getElem hlt, List.getElem?_eq_getElem (show j < η.length by omega)] at this
      have := (List.getElem_inj ho.nd).1 this
      omega
     ·exact h5
    ·simp [d3_, List.getElem?_eq_none hge] at h3
   ·have hi' : i < η.length := by omega
    have hj' : j < η.length := by omega
    rw [hφ i hi'] at h3; rw [hφ j hj'] at h4
    have := r.inj _ _ _ _ g (ho.mem i Lr[i] (List.getElem?_eq_getElem hi)) (ho.mem j Lr[j] (List.getElem?_eq_getElem hj)) h3 h4
    rw [List.getD_eq_getElem?_getD, List.getD_eq_getElem?_getD, List.getElem?_eq_getElem hi', List.getElem?_eq_getElem hj'] at this
    exact (List.getElem_inj ho.nd).1 this
  have hd : a'.defers = [] := r.defers
  rcases he with rfl | rfl
  ·exact ⟨hd, gg_ xs, hres, xs, _, rfl, hpost⟩
  ·exact ⟨hd, gg_ xs, hres, xs, _, rfl, hpost⟩
theorem ah_ {f : FuncId} {fn : Func} {c : Code} {vs rs : List V} {L0 Lr : List Blk} (η : List Nat) (hf : E.P.funcs[f]? = some fn) (hb : fn.body = some c) (hname : (fn.name == "runtime.NumGoroutine") = false) (hk : L0.length ≤ 10)
  (h : ∀ C, AWp E C c (fun e s => (e = .normal ∨ e = .ret) ∧ Out E fn L0.length rs Lr η s) (om_ fn vs L0)) : ACall E f vs L0 rs Lr :=
 ow_ hf hb hname hk fun C => (h C).mono fun e s ⟨h1, h2⟩ => ⟨h1, η, h2⟩
end
end
section
open Go.RowKit
section
variable {E : Env} {C : Cx} {φ : Phi} {s s' : St} {a : Act} {w w' : World} {o : Oper} {e : Eff}
def pcB (E : Env) (o : Oper) (s : St) : Bool := o.op.operands.toList.all fun x => d2_ (s.ev E x)
theorem b9_ (h : pcB E o s = true) : PC E o s := fun x hx => List.all_eq_true.1 h x (Array.mem_toList_iff.2 hx)
def nm (o : Oper) : Nat := 10 + o.dst.getD 0
def agc_ (c x y : V) : V := match c, x, y with | .b c, .b p, .b q => .b (bif c then p else q) | _, _, _ => .no
def ags_ (E : Env) (s : St) (c x y : Operand) : Prop :=
 d2_ (s.ev E c) = true ∧ match s.pv E c, s.pv E x, s.pv E y with
  | .b b, .b _, .b _ => (b = true → d2_ (s.ev E x) = true) ∧ (b = false → d2_ (s.ev E y) = true)
  | _, _, _ => False
def pv_ : V → Bool | .pt _ z _ _ => z != 0 | .rp _ => true | _ => false
def z1_ (P : Program) (dst : TypeId) (x : V) : V := match bu_ P dst, x with | some ⟨.int k', _, _⟩, .i _ n => .i k' (k'.wrap n) | _, _ => .no
def af8_ (P : Program) (src dst : TypeId) (x : V) : Prop := (bu_ P src).isSome = true ∧ match bu_ P dst, x with | some ⟨.int _, _, _⟩, .i _ _ => True | _, _ => False
def idxV (x i : V) : V := match x, i with | .s l, .i _ n => .i .u8 (l.getD n.toNat 0).toNat | _, _ => .no
def idxC (P : Program) (t : TypeId) (x i : V) : Prop := match x, i with | .s l, .i _ n => (bu_ P t).map (·.k) = some .str ∧ 0 ≤ n ∧ n < l.length | _, _ => False
def maxV (x y : V) : V := match x, y with | .i k p, .i _ q => .i k (if q > p then q else p) | _, _ => .no
def minV (x y : V) : V := match x, y with | .i k p, .i _ q => .i k (if q < p then q else p) | _, _ => .no
def ks_ (x y : V) : Prop := match x, y with | .i k _, .i k' _ => k = k' | _, _ => False
def g9_ (P : Program) (t : TypeId) : Option (Nat × Nat × Nat × List V) := match bu_ P t with | some ⟨.sl el z y zc, _, _⟩ => some (el, z, y, zc) | _ => none
theorem fz_ {P : Program} {t : TypeId} {el z y : Nat} {zc : List V} (h : g9_ P t = some (el, z, y, zc)) : (bu_ P t).map (·.k) = some (.sl el z y zc) := by
 unfold g9_ at h
 split at h
 ·rename_i h1; cases h; simp [h1]
 ·cases h
def rt_ (P : Program) (t : TypeId) : Option (List (Nat × Nat × Bool)) := match bu_ P t with | some ⟨.st fs, _, _⟩ => some fs | _ => none
theorem q9_ {P : Program} {t : TypeId} {fs : List (Nat × Nat × Bool)} (h : rt_ P t = some fs) : (bu_ P t).map (·.k) = some (.st fs) := by
 unfold rt_ at h
 split at h
 ·rename_i h1; cases h; simp [h1]
 ·cases h
def u6_ (P : Program) (t : TypeId) : Option (Bool × Nat) := (bu_ P t).map fun ti => (ti.k.agg, ti.size)
theorem qb_ {P : Program} {t : TypeId} {ag : Bool} {n : Nat} (h : u6_ P t = some (ag, n)) : ∃ ti, bu_ P t = some ti ∧ ti.k.agg = ag ∧ ti.size = n := by
 unfold u6_ at h
 cases ht : bu_ P t with
 | none => simp [ht] at h
 | some ti => simp [ht] at h; exact ⟨ti, rfl, h.1, h.2⟩
def agb_ (o : Option (List V)) : List V := o.getD []
def wj_ (o : Option (List (List V))) : List (List V) := o.getD []
def evO (E : Env) (o : Oper) (s : St) : Eff :=
 match o.op with
 | .move x | .assign x | .nilCheck x => { v := s.pv E x }
 | .pick c x y => { v := agc_ (s.pv E c) (s.pv E x) (s.pv E y) }
 | .alloc t => m0_ (nm o) t (bi_ E.P t).cells
 | .box t x => m0_ (nm o) t (s.pv E x).cells
 | .build t ps => match rt_ E.P t with | some fs => { v := .ag (agb_ (mw_ fs (bi_ E.P t).cells (f3_ E s ps))) } | none => { v := .no }
 | .buildSlice t n ps => match g9_ E.P t with | some (_, z, _, zc) => { v := .sl true (wj_ (iq_ z (List.replicate n zc) (f3_ E s ps))) } | none => { v := .no }
 | .load t x => match u6_ E.P t with | some (ag, n) => { v := ldV ag n s.m (s.pv E x), rd := c0_ (s.pv E x) } | none => { v := .no }
 | .store _ x y => stV s.m (s.pv E x) (s.pv E y)
 | .binOp op _ x y _ => { v := tg_ op (s.pv E x) (s.pv E y) }
 | .unOp op _ x => { v := aunV op (s.pv E x) }
 | .convert _ dst x => { v := z1_ E.P dst (s.pv E x) }
 | .makeFunc f first captured => { v := .fn f (first.toList.map (s.pv E)) (captured.toList.map (s.pv E)) }
 | .makeSlice t l _ => match g9_ E.P t, s.pv E l with | some (el, z, _, zc), .i _ n => mkE (nm o) el z zc n.toNat | _, _ => { v := .no }
 | .slice _ x lo hi mx => match ioV (lo.map (s.pv E)), ioV (hi.map (s.pv E)), ioV (mx.map (s.pv E)) with | some l, some h, some m => { v := yt_ (s.pv E x) l h m } | _, _, _ => { v := .no }
 | .fieldAddr t x f => match (rt_ E.P t).bind (·[f]?) with | some (off, _, _) => { v := fldV off (s.pv E x) } | none => { v := .no }
 | .indexAddr t x i => match g9_ E.P t with | some (_, z, _, _) => { v := ixaV z (s.pv E x) (s.pv E i) } | none => { v := .no }
 | .index _ x i => { v := idxV (s.pv E x) (s.pv E i) }
 | .extract x i => { v := extV (s.pv E x) i }
 | .call { callee := .builtin .len, args := as, .. } => match as.toList with | [x] => { v := ze_ (s.pv E x) } | _ => { v := .no }
 | .call { callee := .builtin .max, args := as, .. } => match as.toList with | [x, y] => { v := maxV (s.pv E x) (s.pv E y) } | _ => { v := .no }
 | .call { callee := .builtin .min, args := as, .. } => match as.toList with | [x, y] => { v := minV (s.pv E x) (s.pv E y) } | _ => { v := .no }
 | .call { callee := .builtin .append, args := as, argTypes := ts } => match as.toList, ts.toList with
  | [x, y], [t, _] => match g9_ E.P t with | some (el, z, _, _) => vf_ s.m (s.pv E x) (s.pv E y) el z (nm o) | none => { v := .no }
  | _, _ => { v := .no }
 | _ => { v := .no }
def obO (E : Env) (o : Oper) (s : St) : Prop :=
 match o.op with
 | .pick c x y => ags_ E s c x y
 | .move _ | .assign _ | .makeFunc _ _ _ => pcB E o s = true
 | .nilCheck x => pcB E o s = true ∧ pv_ (s.pv E x) = true
 | .alloc t => (bi_ E.P t).cells.all V.one = true ∧ ((bi_ E.P t).cells.length != 0) = true
 | .box _ x => pcB E o s = true ∧ okC (s.pv E x) = true ∧ ((s.pv E x).cells.length != 0) = true
 | .build t ps => pcB E o s = true ∧ match rt_ E.P t with | some fs => cc_ fs = true ∧ (bi_ E.P t).cells.all V.one = true ∧ (mw_ fs (bi_ E.P t).cells (f3_ E s ps)).isSome = true | none => False
 | .buildSlice t n ps => pcB E o s = true ∧ match g9_ E.P t with | some (_, z, _, zc) => 0 < z ∧ zc.length = z ∧ n * z ≤ 16777216 ∧ zc.all V.one = true ∧ (iq_ z (List.replicate n zc) (f3_ E s ps)).isSome = true | none => False
 | .load t x => pcB E o s = true ∧ match u6_ E.P t with | some (ag, n) => (ag = false → n = 1) ∧ ldC n s.m (s.pv E x) | none => False
 | .store t x y => pcB E o s = true ∧ match u6_ E.P t with | some (_, n) => stC n s.m (s.pv E x) (s.pv E y) | none => False
 | .binOp op t x y _ => pcB E o s = true ∧ w9_ E.P op t (s.pv E x) (s.pv E y)
 | .unOp op _ x => pcB E o s = true ∧ aunC op (s.pv E x)
 | .convert src dst x => pcB E o s = true ∧ af8_ E.P src dst (s.pv E x)
 | .makeSlice t l c => pcB E o s = true ∧ match g9_ E.P t, s.pv E l, s.pv E c with | some (_, z, y, zc), .i _ n, .i _ n' => n' = n ∧ 0 < z ∧ zc.length = z ∧ zc.all V.one = true ∧ 0 ≤ n ∧ n * y ≤ 140737488355328 ∧ 0 < y | _, _, _ => False
 | .slice t x lo hi mx => pcB E o s = true ∧ match ioV (lo.map (s.pv E)), ioV (hi.map (s.pv E)), ioV (mx.map (s.pv E)) with | some l, some h, some m => slcC ((bu_ E.P t).map (·.k)) (s.pv E x) l h m | _, _, _ => False
 | .fieldAddr t x f => pcB E o s = true ∧ match (rt_ E.P t).bind (·[f]?) with | some (_, size, _) => 0 < size ∧ pv_ (s.pv E x) = true | none => False
 | .indexAddr t x i => pcB E o s = true ∧ match g9_ E.P t with | some (_, z, _, _) => 0 < z ∧ ixaC z (s.pv E x) (s.pv E i) | none => False
 | .index t x i => pcB E o s = true ∧ idxC E.P t (s.pv E x) (s.pv E i)
 | .extract x i => pcB E o s = true ∧ extC (s.pv E x) i
 | .call { callee := .builtin .len, args := as, argTypes := ts } => pcB E o s = true ∧ match as.toList, ts.toList with | [x], [t] => lenC E.P t (s.pv E x) | _, _ => False
 | .call { callee := .builtin .max, args := as, .. } => pcB E o s = true ∧ match as.toList with | [x, y] => ks_ (s.pv E x) (s.pv E y) | _ => False
 | .call { callee := .builtin .min, args := as, .. } => pcB E o s = true ∧ match as.toList with | [x, y] => ks_ (s.pv E x) (s.pv E y) | _ => False
 | .call { callee := .builtin .append, args := as, argTypes := ts } => pcB E o s = true ∧ match as.toList, ts.toList with
  | [x, y], [t, t'] => t' = t ∧ match g9_ E.P t with | some (el, z, yb, zc) => 0 < z ∧ 0 < yb ∧ zc.length = z ∧ zc.all V.one = true ∧ appC s.m (s.pv E x) (s.pv E y) el z yb | none => False
  | _, _ => False
 | _ => False
theorem af6_ {v : V} (h : pv_ v = true) : fldC v := by cases v <;> simp [pv_] at h <;> first | trivial | (simp only [fldC]; omega)
theorem fy_ {α : Type} {as : Array α} {l : List α} (h : as.toList = l) : as = l.toArray := by rw [← h]
set_option maxHeartbeats 1000000 in
theorem aaq_ (h : obO E o s) : Op1 E o s (evO E o s) := by
 obtain ⟨dst, op, ty, pos, after, guard⟩ := o
 cases op <;> simp only [obO] at h <;> try exact h.elim
 case move x => exact aex_ (b9_ h) rfl
 case assign x => exact x2_ (b9_ h) rfl
 case makeFunc f a c => exact tv_ (b9_ h) rfl
 case pick c x y =>
  obtain ⟨h1, h2⟩ := h
  simp only [evO]
  generalize hc : s.pv E c = vc at h2
  generalize hx : s.pv E x = vx at h2
  generalize hy : s.pv E y = vy at h2
  cases vc <;> cases vx <;> cases vy <;> simp only [] at h2
  exact afz_ (o := ⟨dst, .pick c x y, ty, pos, after, guard⟩) rfl h1 hc (fun hb => ⟨h2.1 hb, hx⟩) (fun hb => ⟨h2.2 hb, hy⟩)
 case nilCheck x =>
  refine u3_ (b9_ h.1) rfl ?_
  have h2 := h.2
  revert h2
  cases s.pv E x <;> intro h2 <;> simp [pv_] at h2
  ·exact .inl ⟨_, _, _, _, by omega, rfl⟩
  ·exact .inr ⟨_, rfl⟩
 case alloc t => exact abw_ rfl rfl h.1 h.2
 case box t x => exact ah1_ (b9_ h.1) rfl h.2.1 h.2.2
 case build t ps =>
  obtain ⟨h1, h2⟩ := h
  simp only [evO]
  cases ht : rt_ E.P t with
  | none => simp [ht] at h2
  | some fs =>
   simp only [ht] at h2 ⊢
   obtain ⟨h3, h4, h5⟩ := h2
   obtain ⟨cs, hcs⟩ := Option.isSome_iff_exists.1 h5
   rw [hcs]
   exact aa9_ (b9_ h1) rfl (q9_ ht) h3 rfl (f1_ h4) hcs
 case buildSlice t n ps =>
  obtain ⟨h1, h2⟩ := h
  simp only [evO]
  cases ht : g9_ E.P t with
  | none => simp [ht] at h2
  | some x =>
   obtain ⟨el, z, y, zc⟩ := x
   simp only [ht] at h2 ⊢
   obtain ⟨h3, h4, h5, h6, h7⟩ := h2
   obtain ⟨cs, hcs⟩ := Option.isSome_iff_exists.1 h7
   rw [hcs]
   exact pq_ (b9_ h1) rfl (fz_ ht) h3 h4 h5 h6 hcs
 case load t x =>
  obtain ⟨h1, h2⟩ := h
  simp only [evO]
  cases ht : u6_ E.P t with
  | none => simp [ht] at h2
  | some p =>
   obtain ⟨ag, n⟩ := p
   simp only [ht] at h2 ⊢
   obtain ⟨ti, h3, rfl, rfl⟩ := qb_ ht
   exact aeg_ (b9_ h1) rfl h3 h2.1 h2.2
 case store t x y =>
  obtain ⟨h1, h2⟩ := h
  cases ht : u6_ E.P t with
  | none => simp [ht] at h2
  | some p =>
   obtain ⟨ag, n⟩ := p
   simp only [ht] at h2
   obtain ⟨ti, h3, rfl, rfl⟩ := qb_ ht
   exact abr_ (b9_ h1) rfl h3 h2
 case binOp op t x y t' => exact ahn_ (b9_ h.1) rfl h.2
 case unOp op t x => exact ajj_ (b9_ h.1) rfl h.2
 case convert src dst' x =>
  obtain ⟨h1, h2, h3⟩ := h
  simp only [evO]
  generalize hx : s.pv E x = vx at h3 ⊢
  cases ht : bu_ E.P dst' with
  | none => simp [ht] at h3
  | some ti =>
   obtain ⟨k, n, z⟩ := ti
   cases k <;> cases vx <;> simp only [ht] at h3
   rename_i k' k n
   simp only [z1_, ht]
   exact aeu_ (o := ⟨dst, .convert src dst' x, ty, pos, after, guard⟩) (b9_ h1) rfl h2 (by simp [ht]) hx
 case makeSlice t l c =>
  obtain ⟨h1, h2⟩ := h
  simp only [evO]
  generalize hl : s.pv E l = vl at h2 ⊢
  generalize hc : s.pv E c = vc at h2
  cases ht : g9_ E.P t with
  | none => simp [ht] at h2
  | some x =>
   obtain ⟨el, z, y, zc⟩ := x
   cases vl <;> cases vc <;> simp only [ht] at h2
   obtain ⟨rfl, h3, h4, h5, h6, h7, h8⟩ := h2
   exact rz_ (o := ⟨dst, .makeSlice t l c, ty, pos, after, guard⟩) (b9_ h1) rfl (fz_ ht) h3 h4 h5 hl hc h6 h7 h8
 case slice t x lo hi mx =>
  obtain ⟨h1, h2⟩ := h
  simp only [evO]
  generalize hl : ioV (lo.map (s.pv E)) = l at h2 ⊢
  generalize hh : ioV (hi.map (s.pv E)) = hh' at h2 ⊢
  generalize hm : ioV (mx.map (s.pv E)) = m at h2 ⊢
  cases l <;> cases hh' <;> cases m <;> simp only [] at h2
  exact aac_ (o := ⟨dst, .slice t x lo hi mx, ty, pos, after, guard⟩) (b9_ h1) rfl hl hh hm h2
 case fieldAddr t x f =>
  obtain ⟨h1, h2⟩ := h
  simp only [evO]
  cases ht : rt_ E.P t with
  | none => simp [ht] at h2
  | some fs =>
   simp only [ht, Option.bind_some] at h2 ⊢
   cases hf : fs[f]? with
   | none => simp [hf] at h2
   | some y =>
    obtain ⟨off, size, ag⟩ := y
    simp only [hf] at h2 ⊢
    exact rq_ (b9_ h1) rfl (q9_ ht) hf h2.1 (af6_ h2.2)
 case indexAddr t x i =>
  obtain ⟨h1, h2⟩ := h
  simp only [evO]
  cases ht : g9_ E.P t with
  | none => simp [ht] at h2
  | some y =>
   obtain ⟨el, z, yb, zc⟩ := y
   simp only [ht] at h2 ⊢
   exact ru_ (b9_ h1) rfl (fz_ ht) h2.1 h2.2
 case index t x i =>
  obtain ⟨h1, h2⟩ := h
  simp only [evO]
  generalize hx : s.pv E x = vx at h2 ⊢
  generalize hi : s.pv E i = vi at h2 ⊢
  cases vx <;> cases vi <;> simp only [idxC] at h2
  exact aaw_ (o := ⟨dst, .index t x i, ty, pos, after, guard⟩) (b9_ h1) rfl h2.1 hx hi h2.2.1 h2.2.2
 case extract x i => exact vj_ (b9_ h.1) rfl h.2
 case call c =>
  obtain ⟨callee, as, ts⟩ := c
  cases callee <;> try exact h.elim
  rename_i b
  cases b <;> try exact h.elim
  case append =>
   obtain ⟨h1, h2⟩ := h
   simp only [evO]
   split at h2
   ·rename_i x y t t' ha htt
    obtain rfl := fy_ ha
    obtain rfl := fy_ htt
    obtain ⟨rfl, h2⟩ := h2
    cases ht : g9_ E.P t' with
    | none => simp [ht] at h2
    | some q =>
     obtain ⟨el, z, yb, zc⟩ := q
     simp only [ht] at h2
     obtain ⟨h3, h4, h5, h6, h7⟩ := h2
     simp only [ht]
     exact yz_ (o := ⟨dst, .call ⟨.builtin .append, #[x, y], #[t', t']⟩, ty, pos, after, guard⟩) (b9_ h1) rfl (fz_ ht) h3 h4 h5 h6 h7
   ·exact h2.elim
  case len =>
   obtain ⟨h1, h2⟩ := h
   simp only [evO]
   split at h2
   ·rename_i x t ha htt
    obtain rfl := fy_ ha
    obtain rfl := fy_ htt
    exact ah8_ (o := ⟨dst, .call ⟨.builtin .len, #[x], #[t]⟩, ty, pos, after, guard⟩) (b9_ h1) rfl h2
   ·exact h2.elim
  case max =>
   obtain ⟨h1, h2⟩ := h
   simp only [evO]
   split at h2
   ·rename_i x y ha
    obtain rfl := fy_ ha
    generalize hx : s.pv E x = vx at h2 ⊢
    generalize hy : s.pv E y = vy at h2 ⊢
    cases vx <;> cases vy <;> simp only [ks_] at h2
    subst h2
    exact ag1_ (o := ⟨dst, .call ⟨.builtin .max, #[x, y], ts⟩, ty, pos, after, guard⟩) (b9_ h1) rfl hx hy
   ·exact h2.elim
  case min =>
   obtain ⟨h1, h2⟩ := h
   simp only [evO]
   split at h2
   ·rename_i x y ha
    obtain rfl := fy_ ha
    generalize hx : s.pv E x = vx at h2 ⊢
    generalize hy : s.pv E y = vy at h2 ⊢
    cases vx <;> cases vy <;> simp only [ks_] at h2
    subst h2
    exact aha_ (o := ⟨dst, .call ⟨.builtin .min, #[x, y], ts⟩, ty, pos, after, guard⟩) (b9_ h1) rfl hx hy
   ·exact h2.elim
/-! ### a region, reckoned -/
structure CallC (E : Env) where
 ef : Oper → St → Eff
 ob : Oper → St → Prop
 ok : ∀ o s, ob o s → Op1 E o s (ef o s)
def z2_ : Oper → Bool
 | { op := .call { callee := .value _, .. }, .. } => true
 | _ => false
def isB : V → Bool | .b _ => true | _ => false
def gE (E : Env) (ops : Array Oper) (o : Oper) (s : St) (e : Eff) : Eff :=
 match o.guard with
 | none => e
 | some (j, f) => match (ops[j]?).bind (·.dst) with
  | some d => bif e.wr.isEmpty && e.nw.isEmpty then { v := .gd (gy_ (s.σ.getD d .no) f) e.v, rd := e.rd } else bif gy_ (s.σ.getD d .no) f then e else { v := .gd false e.v }
  | none => { v := .no }
def gO (E : Env) (ops : Array Oper) (o : Oper) (s : St) (e : Eff) (p : Prop) : Prop :=
 match o.guard with
 | none => p ∧ (e.nw.all fun l => !s.u l) = true
 | some (j, f) => match (ops[j]?).bind (·.dst) with
  | some d => isB (peel (s.σ.getD d .no)) = true ∧ (gy_ (s.σ.getD d .no) f = true → p ∧ (e.nw.all fun l => !s.u l) = true)
  | none => False
theorem gOk {ops : Array Oper} {p : Prop} (hp : p → Op1 E o s e) (h : gO E ops o s e p) : RS1 E ops o s (gE E ops o s e) ∧ ∀ l ∈ (gE E ops o s e).nw, s.u l = false := by
 unfold gO at h
 unfold gE RS1
 cases hg : o.guard with
 | none =>
  simp only [hg] at h ⊢
  exact ⟨hp h.1, fun l hl => by have := List.all_eq_true.1 h.2 l hl; simpa using this⟩
 | some jf =>
  obtain ⟨j, f⟩ := jf
  simp only [hg] at h ⊢
  cases hd : (ops[j]?).bind (·.dst) with
  | none => simp [hd] at h
  | some d =>
   simp only [hd] at h ⊢
   obtain ⟨h1, h4⟩ := h
   have hc : ∃ c, peel (s.σ.getD d .no) = .b c := by
    generalize peel (s.σ.getD d .no) = v at h1
    cases v <;> first | exact ⟨_, rfl⟩ | exact absurd h1 (by simp [isB])
   obtain ⟨c, hb⟩ := hc
   cases h23 : e.wr.isEmpty && e.nw.isEmpty with
   | true =>
    simp only [Bool.and_eq_true] at h23
    obtain ⟨h2, h3⟩ := h23
    simp only [cond_true]
    refine ⟨⟨d, c, rfl, hb, .inl ⟨e.v, rfl, fun hgc => ?_⟩⟩, fun l hl => by cases hl⟩
    have e1 : e = { v := e.v, rd := e.rd } := by
     obtain ⟨v, wr, nw, rd⟩ := e
     simp only [List.isEmpty_iff] at h2 h3
     subst h2 h3
     rfl
    have := hp (h4 hgc).1
    rwa [e1] at this
   | false =>
    simp only [cond_false]
    cases hgc : gy_ (s.σ.getD d .no) f with
    | true =>
     simp only [cond_true]
     exact ⟨⟨d, c, rfl, hb, .inr (.inl ⟨hgc, hp (h4 hgc).1⟩)⟩, fun l hl => by have := List.all_eq_true.1 (h4 hgc).2 l hl; simpa using this⟩
    | false =>
     simp only [cond_false]
     exact ⟨⟨d, c, rfl, hb, .inl ⟨e.v, by rw [hgc], fun h => by rw [hgc] at h; cases h⟩⟩, fun l hl => by cases hl⟩
def lxs (E : Env) (sel : List Nat) (ops : Array Oper) : List Oper → St → List (CallC E) → List Eff → Prop → Prop × List Eff × St
 | [], s, _, es, p => (p, es.reverse, s)
 | o :: r, s, cs, es, p =>
  match z2_ o || sel.contains (o.dst.getD 0) with
  | true => match cs with
   | c :: cs => lxs E sel ops r (s.eff o.dst (gE E ops o s (c.ef o s))) cs (gE E ops o s (c.ef o s) :: es) (p ∧ gO E ops o s (c.ef o s) (c.ob o s))
   | [] => (False, es.reverse, s)
  | false => lxs E sel ops r (s.eff o.dst (gE E ops o s (evO E o s))) cs (gE E ops o s (evO E o s) :: es) (p ∧ gO E ops o s (evO E o s) (obO E o s))
theorem rc_ {sel : List Nat} {ops : Array Oper} : ∀ {l : List Oper} {s s' : St} {cs : List (CallC E)} {es0 es : List Eff} {p0 p : Prop}, lxs E sel ops l s cs es0 p0 = (p, es, s') → p → p0 ∧ ∃ es1, es = es0.reverse ++ es1 ∧ Lex E ops l s es1 s'
 | [], s, s', cs, es0, es, p0, p, h, hp => by
  simp only [lxs, Prod.mk.injEq] at h
  obtain ⟨rfl, rfl, rfl⟩ := h
  exact ⟨hp, [], by simp, .nil s⟩
 | o :: r, s, s', cs, es0, es, p0, p, h, hp => by
  simp only [lxs] at h
  split at h
  ·cases cs with
   | nil => simp only [Prod.mk.injEq] at h; rw [← h.1] at hp; exact hp.elim
   | cons c cs =>
    obtain ⟨⟨h0, h1⟩, es1, h2, h3⟩ := rc_ h hp
    obtain ⟨k1, k2⟩ := gOk (c.ok o s) h1
    exact ⟨h0, gE E ops o s (c.ef o s) :: es1, by rw [h2]; simp, .cons k1 k2 h3⟩
  ·obtain ⟨⟨h0, h1⟩, es1, h2, h3⟩ := rc_ h hp
   obtain ⟨k1, k2⟩ := gOk aaq_ h1
   exact ⟨h0, gE E ops o s (evO E o s) :: es1, by rw [h2]; simp, .cons k1 k2 h3⟩
variable {Q : Exit → St → Prop}
theorem AWp.rgnS {id : Nat} {l : List Oper} (sel : List Nat) (cs : List (CallC E)) {p : Prop} {es : List Eff} (h : lxs E sel l.toArray l s cs [] True = (p, es, s')) (hp : p) (hq : Q .normal s') : AWp E C (.region id l.toArray false) Q s := by
 obtain ⟨_, es1, _, hl⟩ := rc_ h hp
 exact AWp.region hl hq
theorem AWp.rgnDS {id : Nat} {l : List Oper} (sel : List Nat) (cs : List (CallC E)) {p : Prop} {es : List Eff} (hm : E.P.follows .mixedOrders = true) (h : lxs E sel l.toArray l s cs [] True = (p, es, s')) (hB : j0_ l.toArray (es.map dt_) = true) (hp : p) (hq : Q .normal s') : AWp E C (.region id l.toArray true) Q s := by
 obtain ⟨_, es1, he, hl⟩ := rc_ h hp
 simp only [List.reverse_nil, List.nil_append] at he
 subst he
 exact AWp.regionDraw hm hl hB hq
theorem AWp.rgn {id : Nat} {l : List Oper} (cs : List (CallC E)) {p : Prop} {es : List Eff} (h : lxs E [] l.toArray l s cs [] True = (p, es, s')) (hp : p) (hq : Q .normal s') : AWp E C (.region id l.toArray false) Q s := AWp.rgnS [] cs h hp hq
theorem AWp.rgnD {id : Nat} {l : List Oper} (cs : List (CallC E)) {p : Prop} {es : List Eff} (hm : E.P.follows .mixedOrders = true) (h : lxs E [] l.toArray l s cs [] True = (p, es, s')) (hB : j0_ l.toArray (es.map dt_) = true) (hp : p) (hq : Q .normal s') : AWp E C (.region id l.toArray true) Q s := AWp.rgnDS [] cs hm h hB hp hq
end
end
section
open Go.RowKit
def aw_ : List (Nat × Blk) → Mem
 | [], _ => none
 | (l, b) :: r, x => if x = l then some b else aw_ r x
theorem x3_ (x : Nat) : aw_ [] x = none := rfl
theorem gz_ (l : Nat) (b : Blk) (r : List (Nat × Blk)) (x : Nat) : aw_ ((l, b) :: r) x = if x = l then some b else aw_ r x := rfl
def f4_ : List (Nat × Blk) → Nat → Blk → List (Nat × Blk)
 | [], l, b => [(l, b)]
 | (l', b') :: r, l, b => if l = l' then (l, b) :: r else (l', b') :: f4_ r l b
def vm_ : List (Nat × Blk) → Nat → List (Nat × Blk)
 | [], _ => []
 | (l', b') :: r, l => if l = l' then vm_ r l else (l', b') :: vm_ r l
theorem h6_ (L : List (Nat × Blk)) (l : Nat) (b : Blk) : upd (aw_ L) l (some b) = aw_ (f4_ L l b) := by
 induction L with
 | nil => funext x; simp only [upd, aw_, f4_]
 | cons p r ih =>
  obtain ⟨l', b'⟩ := p
  funext x
  have := congrFun ih x
  simp only [upd, aw_, f4_] at this ⊢
  by_cases h : l = l'
  ·subst h
   simp only [if_true, aw_]
   by_cases hx : x = l <;> simp [hx]
  ·simp only [h, if_false, aw_]
   by_cases hx : x = l'
   ·subst hx; simp [Ne.symm h]
   ·simp only [hx, if_false]; exact this
theorem acw_ (L : List (Nat × Blk)) (l : Nat) : upd (aw_ L) l none = aw_ (vm_ L l) := by
 induction L with
 | nil => funext x; simp only [upd, aw_, vm_]; split <;> rfl
 | cons p r ih =>
  obtain ⟨l', b'⟩ := p
  funext x
  have := congrFun ih x
  simp only [upd, aw_, vm_] at this ⊢
  by_cases h : l = l'
  ·subst h
   simp only [if_true]
   by_cases hx : x = l
   ·simp only [hx, if_true] at this ⊢; exact this
   ·simp only [hx, if_false] at this ⊢; exact this
  ·simp only [h, if_false, aw_]
   by_cases hx : x = l'
   ·subst hx; simp [Ne.symm h]
   ·simp only [hx, if_false]; exact this
def bd_ : Nat → List Blk → List (Nat × Blk)
 | _, [] => []
 | k, b :: r => (k, b) :: bd_ (k + 1) r
theorem le_ : ∀ (L : List Blk) (k x : Nat), aw_ (bd_ k L) x = if k ≤ x then L[x - k]? else none
 | [], k, x => by simp [bd_, aw_]
 | b :: r, k, x => by
  simp only [bd_, aw_, le_ r (k + 1) x]
  by_cases h : x = k
  ·subst h; simp
  ·by_cases hk : k ≤ x
   ·rw [if_neg h, if_pos (by omega), if_pos hk, show x - k = (x - (k + 1)) + 1 by omega]; simp
   ·rw [if_neg h, if_neg (by omega), if_neg hk]
theorem ae3_ (L : List Blk) : kd_ L = aw_ (bd_ 0 L) := by
 funext x; rw [le_]; simp [kd_]
def us (L : List Nat) : Nat → Bool := fun x => decide (x < 10) || decide (1000000000 ≤ x) || L.contains x
def wrL : List (Nat × Blk) → List (Nat × Option Blk) → List (Nat × Blk)
 | L, [] => L
 | L, (l, some b) :: r => wrL (f4_ L l b) r
 | L, (l, none) :: r => wrL (vm_ L l) r
theorem nf_ : ∀ (wr : List (Nat × Option Blk)) (L : List (Nat × Blk)) , wr.foldl (fun m p => upd m p.1 p.2) (aw_ L) = aw_ (wrL L wr)
 | [], L => rfl
 | (l, some b) :: r, L => by simp only [List.foldl_cons, wrL, h6_]; exact nf_ r _
 | (l, none) :: r, L => by simp only [List.foldl_cons, wrL, acw_]; exact nf_ r _
theorem kz_ (U nw : List Nat) (x : Nat) : (us U x || nw.contains x) = us (U ++ nw) x := by
 simp only [us, List.contains_eq_mem, List.mem_append, Bool.or_assoc]
 congr 1
 congr 1
 rw [← Bool.decide_or]
theorem aan_ (σ : List V) (L : List (Nat × Blk)) (U : List Nat) (t : Nat) (v : V) (wr : List (Nat × Option Blk)) (nw rd : List Nat) :
  St.eff ⟨σ, aw_ L, us U⟩ (some t) ⟨v, wr, nw, rd⟩ = ⟨σ.set t v, aw_ (wrL L wr), us (U ++ nw)⟩ := by
 apply St.ext'
 ·rfl
 ·exact nf_ wr L
 ·funext x; exact kz_ U nw x
theorem zp_ (σ : List V) (L : List (Nat × Blk)) (U : List Nat) (v : V) (wr : List (Nat × Option Blk)) (nw rd : List Nat) :
  St.eff ⟨σ, aw_ L, us U⟩ none ⟨v, wr, nw, rd⟩ = ⟨σ, aw_ (wrL L wr), us (U ++ nw)⟩ := by
 apply St.ext'
 ·rfl
 ·exact nf_ wr L
 ·funext x; exact kz_ U nw x
theorem ar_ (fn : Func) (vs : List V) (L0 : List Blk) : om_ fn vs L0 = ⟨vs ++ List.replicate (fn.ntmps - vs.length) .no, aw_ (bd_ 0 L0), us []⟩ := by
 apply St.ext'
 ·rfl
 ·exact ae3_ L0
 ·funext x; simp [om_, us, my_]
section
variable {E : Env} {s : St} {o : Oper}
def mt_ (E : Env) (f : FuncId) (vs : List V) (o : Oper) (s : St) : Prop :=
 match o.op with
 | .call { callee := .value fo, args := as, .. } => match s.pv E fo with
  | .fn (.func f') first caps => f' = f ∧ les (first ++ as.toList.map (s.pv E) ++ caps) vs
  | _ => False
 | _ => False
theorem kb_ {f : FuncId} {vs : List V} (h : mt_ E f vs o s) : ∃ fo as ts first caps, o.op = .call { callee := .value fo, args := as, argTypes := ts } ∧ s.pv E fo = .fn (.func f) first caps ∧ les (first ++ as.toList.map (s.pv E) ++ caps) vs := by
 obtain ⟨dst, op, ty, pos, after, guard⟩ := o
 cases op <;> simp only [mt_] at h
 rename_i c
 obtain ⟨callee, as, ts⟩ := c
 cases callee <;> try exact h.elim
 rename_i fo
 dsimp only at h
 generalize hf : s.pv E fo = vf at h
 cases vf <;> try exact h.elim
 rename_i g first caps
 cases g <;> try exact h.elim
 obtain ⟨rfl, h⟩ := h
 exact ⟨fo, as, ts, first, caps, rfl, hf, h⟩
def a2_ {f : FuncId} {vs rs : List V} (A : ACall E f vs [] rs []) : CallC E where
 ef := fun _ _ => { v := g5_ rs }
 ob := fun o s => pcB E o s = true ∧ mt_ E f vs o s ∧ cv_ vs = true ∧ cv_ rs = true
 ok := fun o s ⟨h1, h2, h3, h4⟩ => by
  obtain ⟨fo, as, ts, first, caps, ho, hf, ha⟩ := kb_ h2
  have := rv_ (E := E) (s := s) (o := o) [] [] (b9_ h1) ho hf A (by rw [el_ [] vs h3]; exact ha) rfl rfl rfl (Nat.le_refl _) .nil (fun i b hb => by simp at hb) (eq_ _ _ h3) (fun b hb => by cases hb) (eq_ _ _ h4) (fun b hb => by cases hb)
  simpa [ed_, el_ [] rs h4] using this
def tm_ (E : Env) (o : Oper) (s : St) : List V :=
 match o.op with
 | .call { callee := .value fo, args := as, .. } => match s.pv E fo with
  | .fn _ first caps => first ++ as.toList.map (s.pv E) ++ caps
  | _ => []
 | _ => []
def od_ (E : Env) (f : FuncId) (vs : List V) (o : Oper) (s : St) : Prop :=
 match o.op with
 | .call { callee := .value fo, args := as, .. } => match s.pv E fo with
  | .fn (.func f') first caps => f' = f ∧ les ((first ++ as.toList.map (s.pv E) ++ caps).map (lend s.m)) vs
  | _ => False
 | _ => False
theorem s8_ {f : FuncId} {vs : List V} (h : od_ E f vs o s) : ∃ fo as ts first caps, o.op = .call { callee := .value fo, args := as, argTypes := ts } ∧ s.pv E fo = .fn (.func f) first caps ∧ les ((first ++ as.toList.map (s.pv E) ++ caps).map (lend s.m)) vs ∧ tm_ E o s = first ++ as.toList.map (s.pv E) ++ caps := by
 obtain ⟨dst, op, ty, pos, after, guard⟩ := o
 cases op <;> simp only [od_] at h
 rename_i c
 obtain ⟨callee, as, ts⟩ := c
 cases callee <;> try exact h.elim
 rename_i fo
 dsimp only at h
 simp only [tm_]
 generalize hf : s.pv E fo = vf at h ⊢
 cases vf <;> try exact h.elim
 rename_i g first caps
 cases g <;> try exact h.elim
 obtain ⟨rfl, h⟩ := h
 exact ⟨fo, as, ts, first, caps, rfl, hf, h, rfl⟩
def agf_ {f : FuncId} {vs rs : List V} (A : ACall E f vs [] rs []) : CallC E where
 ef := fun o s => { v := g5_ rs, rd := (tm_ E o s).flatMap c0_ }
 ob := fun o s => pcB E o s = true ∧ od_ E f vs o s ∧ mn_ rs = true ∧ cls 0 vs = true
 ok := fun o s ⟨h1, h2, h3, h4⟩ => by
  obtain ⟨fo, as, ts, first, caps, ho, hf, ha, he⟩ := s8_ h2
  rw [he]
  exact ab1_ (b9_ h1) ho hf A ha h3 h4
def as_ (m : Mem) (η0 : List Nat) : List Nat → List Blk → Prop
 | [], [] => True
 | n :: ns, b :: bs => m n = some (rnB η0 b) ∧ as_ m η0 ns bs
 | _, _ => False
theorem j6_ {m : Mem} {η0 : List Nat} : ∀ {η : List Nat} {L0 : List Blk}, as_ m η0 η L0 → η.length = L0.length ∧ ∀ i b, L0[i]? = some b → m (η.getD i 0) = some (rnB η0 b)
 | [], [], _ => ⟨rfl, fun i b hb => by simp at hb⟩
 | n :: ns, b :: bs, h => by
  simp only [as_] at h
  obtain ⟨h1, h2⟩ := j6_ h.2
  refine ⟨by simp [h1], fun i c hc => ?_⟩
  cases i with
  | zero => simp at hc; subst hc; simpa using h.1
  | succ i => simpa using h2 i c (by simpa using hc)
 | [], _ :: _, h | _ :: _, [], h => by simp [as_] at h
def ay_ (k : Nat) : List Blk → Bool
 | [] => true
 | b :: r => clr k b.rows && ay_ k r
theorem h2_ {k : Nat} : ∀ {L : List Blk}, ay_ k L = true → ∀ b ∈ L, clr k b.rows = true
 | [], _, b, hb => by cases hb
 | c :: L, h, b, hb => by
  simp only [ay_, Bool.and_eq_true] at h
  rcases List.mem_cons.1 hb with rfl | hb
  ·exact h.1
  ·exact h2_ h.2 b hb
def cz_ {f : FuncId} {vs rs : List V} {L0 Lr : List Blk} (η x : List Nat) (A : ACall E f vs L0 rs Lr) : CallC E where
 ef := fun _ _ => ed_ η (η ++ x) rs Lr
 ob := fun o s => pcB E o s = true ∧ mt_ E f (rns η vs) o s ∧ as_ s.m η η L0 ∧ (η ++ x).length = Lr.length ∧ (η ++ x).Nodup ∧ cls η.length vs = true ∧ ay_ η.length L0 = true ∧ cls (η ++ x).length rs = true ∧ ay_ (η ++ x).length Lr = true
 ok := fun o s ⟨h1, h2, h3, h4, h5, h6, h7, h8, h9⟩ => by
  obtain ⟨fo, as, ts, first, caps, ho, hf, ha⟩ := kb_ h2
  obtain ⟨k1, k2⟩ := j6_ h3
  exact rv_ (E := E) (s := s) (o := o) η (η ++ x) (b9_ h1) ho hf A ha k1 (by simp) h4 (by simp) h5 k2 h6 (h2_ h7) h8 (h2_ h9)
end
end
section
open Go.RowKit
theorem bc_ {n : Int} (h1 : -9223372036854775808 ≤ n) (h2 : n < 9223372036854775808) : IntKind.i64.wrap n = n := by
 have e : (2 : Int) ^ IntKind.i64.bits = 18446744073709551616 := rfl
 have e' : IntKind.i64.signed = true := rfl
 have e2 : (2 : Int) ^ (IntKind.i64.bits - 1) = 9223372036854775808 := rfl
 simp only [IntKind.wrap, e, e2, e', Bool.true_and, decide_eq_true_eq]; split <;> omega
section
variable {E : Env} {fn : Func} {rs : List V} {s : St} {l : List ResultVar}
theorem Out.plain (hl : fn.results.toList = l) (h1 : aq_ E.P s l) (h2 : l.map (a7_ E.P s) = rs) (h3 : cv_ rs = true) : Out E fn 0 rs [] [] s := by
 subst hl
 exact ⟨h1, by rw [h2, el_ [] rs h3]; exact e2_ _, rfl, Nat.le_refl _, rfl, List.Pairwise.nil, eq_ _ _ h3, fun b hb => (by cases hb), fun i b hb => (by simp at hb)⟩
theorem Out.mem' {k : Nat} {Lr : List Blk} {η : List Nat} (hl : fn.results.toList = l) (h1 : aq_ E.P s l) (h2 : l.map (a7_ E.P s) = rns η rs) (h3 : k ≤ Lr.length) (h4 : η.take k = List.range k) (h5 : η.Nodup) (h6 : cls Lr.length rs = true) (h7 : ay_ Lr.length Lr = true) (h8 : as_ s.m η η Lr) : Out E fn k rs Lr η s := by
 subst hl
 obtain ⟨k1, k2⟩ := j6_ h8
 exact ⟨h1, by rw [h2]; exact e2_ _, k1, h3, h4, h5, h6, h2_ h7, k2⟩
theorem Out.plainL (hl : fn.results.toList = l) (h1 : aq_ E.P s l) (h2 : les (l.map (a7_ E.P s)) rs) (h3 : cv_ rs = true) : Out E fn 0 rs [] [] s := by
 subst hl
 exact ⟨h1, by rw [el_ [] rs h3]; exact h2, rfl, Nat.le_refl _, rfl, List.Pairwise.nil, eq_ _ _ h3, fun b hb => (by cases hb), fun i b hb => (by simp at hb)⟩
variable {C : Cx} {Q : Exit → St → Prop}
theorem AWp.condB {c : Operand} {x y : Code} {t : Bool} (hc : s.pv E c = .b t) (hp : d2_ (s.ev E c) = true) (h1 : t = true → AWp E C x Q s) (h0 : t = false → AWp E C y Q s) : AWp E C (.cond c x y) Q s :=
 AWp.cond hp hc (by cases t <;> simp_all)
def an_ (L : List (Nat × Blk)) (U : List Nat) : List (Nat × Blk) → Prop
 | [] => True
 | (l, b) :: r => aw_ L l = some b ∧ us U l = true ∧ am_ (us U) b.rows = true ∧ an_ L U r
theorem qo_ {L : List (Nat × Blk)} {U : List Nat} : ∀ {L' : List (Nat × Blk)}, an_ L U L' → ∀ l b, aw_ L' l = some b → aw_ L l = some b ∧ us U l = true ∧ am_ (us U) b.rows = true
 | [], _, l, b, hb => by simp [aw_] at hb
 | (l', b') :: r, h, l, b, hb => by
  simp only [an_] at h
  simp only [aw_] at hb
  split at hb
  ·rename_i e; subst e; cases hb; exact ⟨h.1, h.2.1, h.2.2.1⟩
  ·exact qo_ h.2.2.2 l b hb
theorem Weak.lit {σ σ' : List V} {L L' : List (Nat × Blk)} {U U' : List Nat} (h : les σ σ') (hi : al_ (us U') σ' = true) (hL : an_ L U' L') : Weak ⟨σ, aw_ L, us U⟩ ⟨σ', aw_ L', us U'⟩ :=
 ⟨h, hi, fun l b hb => qo_ hL l b hb, fun l hl => by simp only [my_] at hl; simp [us, hl]⟩
theorem AWp.seqJ {κ : Type} {x y : Code} (M : κ → St) (I : κ → Prop) (h : AWp E C x (w6_ (fun s' => ∃ k, I k ∧ Can E C s' (M k)) Q) s) (k : ∀ k, I k → AWp E C y Q (M k)) : AWp E C (.seq x y) Q s := by
 refine .seq (h.mono fun e s' q => ?_)
 cases e with
 | normal =>
  obtain ⟨j, h1, h2⟩ := q
  exact (k j h1).can h2
 | _ => exact q
theorem AWp.loopK {κ : Type} {c : Code} (st : κ → St) (I : κ → Prop) (μ : κ → Nat) (k0 : κ) (h0 : I k0) (hs : Can E C s (st k0)) (h : ∀ k, I k → AWp E C c (w6_ (fun s' => ∃ k', I k' ∧ μ k' < μ k ∧ Can E C s' (st k')) Q) (st k)) : AWp E C (.loop c) Q s := by
 have main : AWp E C (.loop c) Q (st k0) := by
  refine .loop (fun n s => ∃ k, I k ∧ n = μ k ∧ s = st k) ⟨k0, h0, rfl, rfl⟩ fun n s1 ⟨k, hk, hn, hst⟩ => ?_
  subst hn hst
  refine (h k hk).mono fun e s' q => ?_
  cases e with
  | normal =>
   obtain ⟨k', h1, h2, h3⟩ := q
   exact ⟨μ k', st k', h2, ⟨k', h1, rfl, rfl⟩, h3⟩
  | _ => exact q
 exact main.can hs
variable {o : Oper} {φ : Phi} {S : Nat → Prop} {w : World}
def bsE (l el z : Nat) (rs : List (List V)) (n : Nat) : Eff := { v := .ow l z 0 n, wr := [(l, some ⟨el, z, rs⟩)], nw := [l] }
theorem oj_ {t : TypeId} {n l' : Nat} {ps : Array (Nat × Operand)} {el z y : Nat} {zc : List V} {rs : List (List V)} (hp : PC E o s) (ho : o.op = .buildSlice t n ps) (ht : (bu_ E.P t).map (·.k) = some (.sl el z y zc)) (hz : 0 < z) (hzl : zc.length = z) (hb : n * z ≤ 16777216) (h1 : zc.all V.one = true)
  (hf : iq_ z (List.replicate n zc) (f3_ E s ps) = some rs) : Op1 E o s (bsE l' el z rs n) := by
 refine Op1.of fun s' e1 _ e3 C φ a w hr => ?_
 have hops : ∀ p ∈ ps.toList, p.2 ∈ o.op.operands := fun p hp => by simp [ho, Op.operands]; exact ⟨p.1, Array.mem_toList_iff.1 hp⟩
 have hv : ∀ p ∈ ps.toList, VR φ (C.S φ s'.m) w (s.pv E p.2) (a.eval p.2) := fun p hp' => by
  have e := e1 p.2 (hops p hp')
  have := hr.pv (x := p.2) (by rw [e]; exact hp p.2 (hops p hp'))
  unfold St.pv at this ⊢
  rwa [e] at this
 cases hti : bu_ E.P t with
 | none => simp [hti] at ht
 | some ti =>
  simp [hti] at ht
  obtain ⟨hu, hzz, hy, hzero⟩ := m5_ hti ht
  obtain ⟨i, zv, hi, hiz, hzv, hzn⟩ := fv_ (φ := φ) (S := C.S φ s'.m) (w := w) hzero.symm hzl (f1_ h1)
  have hmc := gx_ zv.cells n (by omega)
  rw [hzn] at hmc
  have hrep := VRr.replicate hzl hzv (hzv.ones h1) n
  rw [← hmc] at hrep
  obtain ⟨r1, ys, r2, r3⟩ := lq_ a.eval (s.pv E) ps.toList hv (List.replicate n zc) rs _ hrep hf
  rw [List.length_replicate] at r1
  have hrun : (execOp a.eval o).run E.P w = .ok (.value (.slice (some ⟨w.heap.size, 0, none⟩) n n)) (w.alloc (.cells ys el)) := by
   have hso := dc_ (P := E.P) w hzz.symm hz
   have e2 : (Array.range (n * z)).map (zv.cells[· % zv.cells.size]!) = madeCells zv.cells (n * z) := rfl
   have hb' : ¬ (16777216 < n * z) := by omega
   by_cases hn : n = 0
   ·subst hn
    have e3 : madeCells zv.cells (0 * z) = #[] := by simp [madeCells]
    rw [e3] at r2
    simp [execOp, ho, Instr.buildSlice, run_underlying hu, hso, newRow]
    rw [show (Array.map (fun _ => default) (Array.range 0) : Array Value) = #[] from by apply Array.ext'; simp, r2]
    simp
   ·have hnz : n * z ≠ 0 := Nat.mul_ne_zero hn (by omega)
    simp [execOp, ho, Instr.buildSlice, run_underlying hu, hso, hb', hnz, zeroValue, typeInfo, hi, hiz, newRow]
    rw [e2, r2]
    simp
  obtain ⟨k1, k2⟩ := hr.alloc (e3 l' (by simp [bsE])) (arr := ys) (T := el) hz r3 List.take_length
  refine ⟨_, _, _, .inl hrun, by simp only [bsE]; rw [id_]; exact k1, ?_⟩
  simp only [bsE, VR]
  refine ⟨_, _, rfl, Nat.le_refl _, ?_, .inr ⟨w.heap.size, el, ys.size, by simp, by simp, f5_ (heap_alloc_new w _), ?_⟩⟩
  ·have := Nat.le_mul_of_pos_right n hz
   unfold maxLen; omega
  ·have := r3.len
   rw [r1, Array.length_toList] at this
   rw [Nat.zero_add]; omega
def bsO (E : Env) : CallC E where
 ef := fun o s => match o.op with
  | .buildSlice t n ps => match g9_ E.P t with | some (el, z, _, zc) => bsE (nm o) el z (wj_ (iq_ z (List.replicate n zc) (f3_ E s ps))) n | none => { v := .no }
  | _ => { v := .no }
 ob := fun o s => pcB E o s = true ∧ match o.op with
  | .buildSlice t n ps => match g9_ E.P t with | some (_, z, _, zc) => 0 < z ∧ zc.length = z ∧ n * z ≤ 16777216 ∧ zc.all V.one = true ∧ (iq_ z (List.replicate n zc) (f3_ E s ps)).isSome = true | none => False
  | _ => False
 ok := fun o s ⟨h1, h2⟩ => by
  obtain ⟨dst, op, ty, pos, after, guard⟩ := o
  cases op <;> try exact h2.elim
  rename_i t n ps _
  dsimp only at h2 ⊢
  cases ht : g9_ E.P t with
  | none => simp [ht] at h2
  | some x =>
   obtain ⟨el, z, y, zc⟩ := x
   simp only [ht] at h2 ⊢
   obtain ⟨h3, h4, h5, h6, h7⟩ := h2
   obtain ⟨cs, hcs⟩ := Option.isSome_iff_exists.1 h7
   rw [hcs]
   exact oj_ (b9_ h1) rfl (fz_ ht) h3 h4 h5 h6 hcs
def ga_ : List (List V) → Option Str
 | [] => some []
 | [.i .u8 n] :: r => (ga_ r).map (UInt8.ofNat n.toNat :: ·)
 | _ => none
theorem VRr.bytes {z : Nat} : ∀ {rows : List (List V)} {xs : List Value} {l : Str}, VRr φ S w z rows xs → ga_ rows = some l → ∃ ns : List Int, xs = ns.map (Value.int .u8) ∧ l = ns.map fun n => UInt8.ofNat n.toNat
 | [], xs, l, h, hb => by simp only [VRr] at h; simp only [ga_, Option.some.injEq] at hb; subst h hb; exact ⟨[], rfl, rfl⟩
 | r :: rows, xs, l, h, hb => by
  simp only [VRr] at h
  obtain ⟨ys, zs, rfl, _, h2, _, h3⟩ := h
  match r, hb, h2 with
  | [.i .u8 n], hb, h2 =>
   simp only [ga_, Option.map_eq_some_iff] at hb
   obtain ⟨l', hb', rfl⟩ := hb
   obtain ⟨ns, rfl, rfl⟩ := VRr.bytes h3 hb'
   simp only [VRs, VR] at h2
   obtain ⟨x, q, rfl, rfl, rfl⟩ := h2
   exact ⟨n :: ns, rfl, rfl⟩
theorem ah3_ {src dst : TypeId} {x : Operand} {el z y : Nat} {zc : List V} {rows : List (List V)} {l : Str} (hp : PC E o s) (ho : o.op = .convert src dst x) (hs : (bu_ E.P src).map (·.k) = some (.sl el z y zc)) (he : (bu_ E.P el).map (·.k) = some (.int .u8)) (hd : (bu_ E.P dst).map (·.k) = some .str)
  (hx : mx_ s.m (s.pv E x) = some rows) (hb : ga_ rows = some l) : Op1 E o s { v := .s l, rd := c0_ (s.pv E x) } := by
 refine Op1.pure' hp fun φ S w ρ hr hm => ?_
 have h1 := hr x (by simp [ho, Op.operands])
 obtain ⟨A, c, z', xs, e1, e2, e3, e4, e5, e6, _⟩ := h5_ h1 hx hm
 obtain ⟨hu, _⟩ := f9_ hs
 have hue : E.P.underlying el = some (.int .u8) := by
  cases h : bu_ E.P el with
  | none => simp [h] at he
  | some ti => simp [h] at he; exact vb_ h he
 have hud : E.P.underlying dst = some .string := by
  cases h : bu_ E.P dst with
  | none => simp [h] at hd
  | some ti => simp [h] at hd; exact sz_ h hd
 obtain ⟨ns, rfl, rfl⟩ := e4.bytes hb
 by_cases hne : ns = []
 ·subst hne
  have hl : rows.length = 0 := by
   cases rows with
   | nil => rfl
   | cons r rs =>
    exfalso
    match r, hb with
    | [.i .u8 n], hb => simp [ga_] at hb
  refine ⟨.string ByteArray.empty, ?_, by simp only [VR]; rfl⟩
  rw [hl] at e1
  have : (convert src dst (ρ x)).run E.P w = .ok (.string ByteArray.empty) w := by
   rw [e1, run_convert_bytes_string w src dst el A 0 c hu hue hud]
   cases A with
   | none => simp [Conv.bytesToString]
   | some a => rw [run_bytesToString w a 0 c [] (by simp [loadCells, loadCellsFrom])]; rfl
  simp only [execOp, ho, Sem.run_bind, this, Result.andThen_ok, Sem.run_pure]
 ·obtain ⟨g, p, rfl, f⟩ := e6 (by simpa using hne)
  have hlen : ns.length = rows.length := by
   have : ∀ (rows : List (List V)) (ns : List Int), ga_ rows = some (ns.map fun n => UInt8.ofNat n.toNat) → ns.length = rows.length := by
    intro rows
    induction rows with
    | nil => intro ns h; simp [ga_] at h; simp [h]
    | cons r rs ih =>
     intro ns h
     match r, h with
     | [.i .u8 n], h =>
      simp only [ga_, Option.map_eq_some_iff] at h
      obtain ⟨l', h1, h2⟩ := h
      cases ns with
      | nil => simp at h2
      | cons m ns => simp only [List.map_cons, List.cons.injEq] at h2; rw [h2.2] at h1; simp [ih ns h1]
   exact this rows ns hb
  have := run_convert_bytes_arg (P := E.P) w src el hu hue g p rows.length c ns hlen (fun i hi => f i (.int .u8 (ns.getD i 0)) (by
   rw [List.getElem?_map, List.getElem?_eq_getElem (by omega), List.getD_eq_getElem?_getD, List.getElem?_eq_getElem (by omega)]; rfl)) dst hud
  exact ⟨.string (strOfNums ns), by simp only [execOp, ho, e1, Sem.run_bind, this, Result.andThen_ok, Sem.run_pure], by simp only [VR, strOfNums]⟩
def cvV (E : Env) (s : St) (x : Operand) : V := match (mx_ s.m (s.pv E x)).bind ga_ with | some l => .s l | none => .no
def cvO (E : Env) : CallC E where
 ef := fun o s => match o.op with
  | .convert _ _ x => { v := cvV E s x, rd := c0_ (s.pv E x) }
  | _ => { v := .no }
 ob := fun o s => pcB E o s = true ∧ match o.op with
  | .convert src dst x => (match g9_ E.P src with | some (el, _, _, _) => (bu_ E.P el).map (·.k) = some (.int .u8) | none => False) ∧ (bu_ E.P dst).map (·.k) = some .str ∧ ((mx_ s.m (s.pv E x)).bind ga_).isSome = true
  | _ => False
 ok := fun o s ⟨h1, h2⟩ => by
  obtain ⟨dst, op, ty, pos, after, guard⟩ := o
  cases op <;> try exact h2.elim
  rename_i src dst' x _
  dsimp only at h2 ⊢
  obtain ⟨h3, h4, h5⟩ := h2
  cases ht : g9_ E.P src with
  | none => simp [ht] at h3
  | some y =>
   obtain ⟨el, z, yb, zc⟩ := y
   simp only [ht] at h3
   obtain ⟨l, hl⟩ := Option.isSome_iff_exists.1 h5
   simp only [cvV, hl]
   obtain ⟨rows, hr, hb⟩ := Option.bind_eq_some_iff.1 hl
   exact ah3_ (b9_ h1) rfl (fz_ ht) h3 h4 hr hb
end
end
section
open Go.RowKit
mutual
def frz (l z : Nat) (rows : List (List V)) : V → V
 | .ow l' z' p n => if l' = l then (if z = z' ∧ p + n ≤ rows.length then .sl false ((rows.drop p).take n) else .no) else .ow l' z' p n
 | .pt l' z' r c => if l' = l then (if z = z' ∧ r < rows.length ∧ 0 < z then .rp ((rows.getD r []).drop c) else .no) else .pt l' z' r c
 | .sl t rs => .sl t (ky_ l z rows rs)
 | .rp cs => .rp (f7_ l z rows cs)
 | .ag cs => .ag (f7_ l z rows cs)
 | .tu cs => .tu (f7_ l z rows cs)
 | .fn f a c => .fn f (f7_ l z rows a) (f7_ l z rows c)
 | .gd c v => .gd c (frz l z rows v)
 | .i k n => .i k n
 | .b x => .b x
 | .s x => .s x
 | .np => .np
 | .q P => .q P
 | .no => .no
def f7_ (l z : Nat) (rows : List (List V)) : List V → List V
 | [] => []
 | v :: r => frz l z rows v :: f7_ l z rows r
def ky_ (l z : Nat) (rows : List (List V)) : List (List V) → List (List V)
 | [] => []
 | v :: r => f7_ l z rows v :: ky_ l z rows r
end
section
variable {E : Env} {C : Cx} {φ : Phi} {S S' : Nat → Prop} {s s' : St} {a : Act} {w w' : World} {l z : Nat} {rows : List (List V)}
mutual
theorem tz_ : ∀ vs : List V, (f7_ l z rows vs).length = vs.length
 | [] => by simp only [f7_]
 | v :: r => by simp only [f7_, List.length_cons, tz_ r]
theorem u4_ : ∀ vs : List (List V), (ky_ l z rows vs).length = vs.length
 | [] => by simp only [ky_]
 | v :: r => by simp only [ky_, List.length_cons, u4_ r]
end
mutual
theorem t2_ : ∀ v : V, v.pure = true → frz l z rows v = v
 | .ow _ _ _ _, h | .pt _ _ _ _, h => by simp [V.pure] at h
 | .sl t rs, h => by simp only [V.pure] at h; simp only [frz, l8_ rs h]
 | .rp cs, h => by simp only [V.pure] at h; simp only [frz, fu_ cs h]
 | .ag cs, h => by simp only [V.pure] at h; simp only [frz, fu_ cs h]
 | .tu cs, h => by simp only [V.pure] at h; simp only [frz, fu_ cs h]
 | .fn f a c, h => by simp only [V.pure, Bool.and_eq_true] at h; simp only [frz, fu_ a h.1, fu_ c h.2]
 | .gd c v, h => by simp only [V.pure] at h; simp only [frz, t2_ v h]
 | .i _ _, _ | .b _, _ | .s _, _ | .np, _ | .no, _ | .q _, _ => by simp only [frz]
theorem fu_ : ∀ v : List V, cv_ v = true → f7_ l z rows v = v
 | [], _ => by simp only [f7_]
 | v :: r, h => by simp only [cv_, Bool.and_eq_true] at h; simp only [f7_, t2_ v h.1, fu_ r h.2]
theorem l8_ : ∀ v : List (List V), cf_ v = true → ky_ l z rows v = v
 | [], _ => by simp only [ky_]
 | v :: r, h => by simp only [cf_, Bool.and_eq_true] at h; simp only [ky_, fu_ v h.1, l8_ r h.2]
end
structure FrzOk (φ : Phi) (S S' : Nat → Prop) (w : World) (l z : Nat) (rows : List (List V)) : Prop where
 sub : ∀ g, S g → S' g
 red : ∃ T, MR φ S' w l ⟨T, z, rows⟩
 blk : ∀ g, φ l = some (some g) → S' g ∧ g < w.heap.size
mutual
theorem VR.frz (F : FrzOk φ S S' w l z rows) : ∀ {v : V} {x : Value}, VR φ S w v x → VR φ S' w (Go.Proofs.YtefmbmafdgedmaaGreatDoor.frz l z rows v) x
 | .ow l' z' p n, x, h => by
  simp only [Go.Proofs.YtefmbmafdgedmaaGreatDoor.frz]
  by_cases e : l' = l
  ·subst e
   rw [if_pos rfl]
   split
   ·rename_i hh
    obtain ⟨T, hm⟩ := F.red
    have h0 : VR φ S' w (.ow l' z' p n) x := by simp only [VR] at h ⊢; exact h
    obtain ⟨A, c, z2, xs, e1, e2, e3, e4, e5, e6, _⟩ := h5_ (m := fun _ => some ⟨T, z, rows⟩) (rows := (rows.drop p).take n) h0 (by simp only [mx_, hh, and_self, if_true]) (fun l2 hl2 b2 hb2 => by
     simp only [c0_, List.mem_singleton] at hl2
     cases hb2; subst hl2; exact hm)
    simp only [VR]
    refine ⟨A, c, z2, xs, e1, e2, e3, fun hx => by simp at hx, fun hne => ?_, e4⟩
    obtain ⟨g, q, f1, f2⟩ := e6 hne
    simp only [VR] at h
    obtain ⟨A', c', k1, k2, k3, k4⟩ := h
    rw [e1] at k1
    have hA : A = A' := by injection k1
    have hcc : c = c' := by injection k1
    rcases k4 with k4 | ⟨g', T', m', k4, k5, _⟩
    ·have h0 : ((rows.drop p).take n).length = 0 := by omega
     have : (rows.drop p).take n = [] := List.length_eq_zero_iff.1 h0
     rw [this] at e4
     simp only [VRr] at e4
     exact absurd e4 hne
    ·have hg : g = g' := by rw [hA, k5] at f1; injection f1 with f1; injection f1 with f1; exact f1.symm
     obtain ⟨b1, b2⟩ := F.blk g' k4
     exact ⟨g, q, f1, by rw [hg]; exact b1, by rw [hg]; exact b2, f2⟩
   ·simp only [VR]
  ·rw [if_neg e]; simp only [VR] at h ⊢; exact h
 | .pt l' z' r c, x, h => by
  simp only [Go.Proofs.YtefmbmafdgedmaaGreatDoor.frz]
  by_cases e : l' = l
  ·subst e
   rw [if_pos rfl]
   split
   ·rename_i hh
    obtain ⟨rfl, hr, hz⟩ := hh
    obtain ⟨T, hm⟩ := F.red
    simp only [VR] at h
    obtain ⟨g, h1, h2⟩ := h
    rw [gk_ hz] at h2
    obtain ⟨b1, b2⟩ := F.blk g h1
    rcases hm with ⟨k1, _⟩ | ⟨g', arr, xs, k1, k2, k3, k4, hzz⟩ | ⟨_, _, _, _, _, _, k1, _⟩
    ·rw [h1] at k1; cases k1
    ·rw [h1] at k1; cases k1
     obtain ⟨q1, q2⟩ := k3.getRow hr
     simp only [VR]
     refine ⟨g, r * z + c, _, h2, b1, b2, fun j u hu => ?_, q2.drop c⟩
     rw [cell_of_row w g _ arr _ _ k2]
     rw [List.getElem?_drop, List.getElem?_take] at hu
     split at hu
     ·rw [List.getElem?_drop, ← k4, List.getElem?_take] at hu
      split at hu
      ·rw [Array.getElem?_toList] at hu; rw [← hu, Nat.add_assoc]
      ·cases hu
     ·cases hu
    ·dsimp only at k1; omega
   ·simp only [VR]
  ·rw [if_neg e]; simp only [VR] at h ⊢; exact h
 | .sl t rs, x, h => by
  simp only [Go.Proofs.YtefmbmafdgedmaaGreatDoor.frz, VR, u4_] at h ⊢
  obtain ⟨A, c, z, xs, h1, h2, h3, h4, h5, h6⟩ := h
  exact ⟨A, c, z, xs, h1, h2, h3, h4, fun hne => let ⟨g, o, k1, k2, k3⟩ := h5 hne; ⟨g, o, k1, F.sub g k2, k3⟩, VRr.frz F h6⟩
 | .rp cs, x, h => by
  simp only [Go.Proofs.YtefmbmafdgedmaaGreatDoor.frz, VR] at h ⊢
  obtain ⟨g, o, xs, h1, h2, h3, h4, h5⟩ := h
  exact ⟨g, o, xs, h1, F.sub g h2, h3, h4, VRs.frz F h5⟩
 | .ag cs, x, h => by
  simp only [Go.Proofs.YtefmbmafdgedmaaGreatDoor.frz, VR] at h ⊢
  obtain ⟨xs, h1, h2⟩ := h
  exact ⟨xs, h1, VRs.frz F h2⟩
 | .tu cs, x, h => by
  simp only [Go.Proofs.YtefmbmafdgedmaaGreatDoor.frz, VR] at h ⊢
  obtain ⟨xs, h1, h2⟩ := h
  exact ⟨xs, h1, VRs.frz F h2⟩
 | .fn f a c, x, h => by
  simp only [Go.Proofs.YtefmbmafdgedmaaGreatDoor.frz, VR] at h ⊢
  obtain ⟨a', c', h1, h2, h3⟩ := h
  exact ⟨a', c', h1, VRs.frz F h2, VRs.frz F h3⟩
 | .gd c v, x, h => by
  simp only [Go.Proofs.YtefmbmafdgedmaaGreatDoor.frz, VR] at h ⊢
  exact ⟨fun hc => VR.frz F (h.1 hc), h.2⟩
 | .i _ _, x, h | .b _, x, h | .s _, x, h | .np, x, h | .no, x, h | .q _, x, h => by simp only [Go.Proofs.YtefmbmafdgedmaaGreatDoor.frz, VR] at h ⊢ <;> exact h
theorem VRs.frz (F : FrzOk φ S S' w l z rows) : ∀ {vs : List V} {xs : List Value}, VRs φ S w vs xs → VRs φ S' w (f7_ l z rows vs) xs
 | [], _, h => by simp only [f7_, VRs] at h ⊢; exact h
 | v :: vs, xs, h => by
  simp only [f7_, VRs] at h ⊢
  obtain ⟨x, r, h1, h2, h3⟩ := h
  exact ⟨x, r, h1, VR.frz F h2, VRs.frz F h3⟩
theorem VRr.frz (F : FrzOk φ S S' w l z rows) {y : Nat} : ∀ {rs : List (List V)} {xs : List Value}, VRr φ S w y rs xs → VRr φ S' w y (ky_ l z rows rs) xs
 | [], _, h => by simp only [ky_, VRr] at h ⊢; exact h
 | r :: rs, xs, h => by
  simp only [ky_, VRr] at h ⊢
  obtain ⟨ys, zs, h1, h2, h3, h4, h5⟩ := h
  exact ⟨ys, zs, h1, (tz_ r).trans h2, VRs.frz F h3, h4, VRr.frz F h5⟩
end
def zv_ (l z : Nat) (rows : List (List V)) (b : Blk) : Blk := { b with rows := ky_ l z rows b.rows }
def ma_ (l : Nat) (b : Blk) : List (Nat × Blk) → List (Nat × Blk)
 | [] => []
 | (l', c) :: r => if l' = l then ma_ l b r else (l', zv_ l b.z b.rows c) :: ma_ l b r
theorem n8_ (l : Nat) (b : Blk) : ∀ (L : List (Nat × Blk)) (x : Nat), aw_ (ma_ l b L) x = if x = l then none else (aw_ L x).map (zv_ l b.z b.rows)
 | [], x => by simp [ma_, aw_]
 | (l', c) :: r, x => by
  simp only [ma_]
  split
  ·rename_i e; subst e
   rw [n8_ l' b r x]
   simp only [aw_]
   split <;> rfl
  ·rename_i e
   simp only [aw_, n8_ l b r x]
   by_cases hx : x = l'
   ·subst hx; simp [e]
   ·simp only [hx, if_false]
theorem RelAt.frz {σ : List V} {L : List (Nat × Blk)} {U : List Nat} {b : Blk} (h : RelAt E C φ ⟨σ, aw_ L, us U⟩ a w) (hb : aw_ L l = some b) (hi : cf_ b.rows = true) :
  RelAt E C φ ⟨f7_ l b.z b.rows σ, aw_ (ma_ l b L), us U⟩ a w := by
 have hmem : ∀ x c, aw_ (ma_ l b L) x = some c → x ≠ l ∧ ∃ c', aw_ L x = some c' ∧ c = zv_ l b.z b.rows c' := fun x c hc => by
  rw [n8_] at hc
  split at hc
  ·cases hc
  ·rename_i hx
   obtain ⟨c', h1, h2⟩ := Option.map_eq_some_iff.1 hc
   exact ⟨hx, c', h1, h2.symm⟩
 have hS : ∀ g, C.S φ (aw_ L) g → C.S φ (aw_ (ma_ l b L)) g := fun g hg => ⟨hg.1, fun x c hc => by obtain ⟨_, c', h1, _⟩ := hmem x c hc; exact hg.2 x c' h1⟩
 have hk : KeepsW φ φ (C.S φ (aw_ L)) (C.S φ (aw_ (ma_ l b L))) w w := ⟨fun _ _ h => h, fun g hg _ => ⟨hS g hg, rfl⟩, Nat.le_refl _, fun _ _ h => h⟩
 have F : FrzOk φ (C.S φ (aw_ L)) (C.S φ (aw_ (ma_ l b L))) w l b.z b.rows := by
  refine ⟨hS, ⟨b.T, ?_⟩, fun g hg => ?_⟩
  ·rcases h.mem l b hb with ⟨h1, h2⟩ | ⟨g, arr, xs, h1, h2, h3, h4, hzz⟩ | ⟨g, es, ck, xs, h1, h2, h3, h4, h5⟩
   ·exact .inl ⟨h1, h2⟩
   ·exact .inr (.inl ⟨g, arr, xs, h1, h2, h3.keep hk, h4, hzz⟩)
   ·exact .inr (.inr ⟨g, es, ck, xs, h1, h2, h3, h4.keep hk, h5⟩)
  ·have hlt : g < w.heap.size := (h.mem l b hb).lt hg
   refine ⟨⟨?_, fun x c hc hx => ?_⟩, hlt⟩
   ·rcases h.own l b g hb hg with h1 | h1
    ·exact .inl (C.sub g h1)
    ·exact .inr h1
   ·obtain ⟨hxl, c', h1, _⟩ := hmem x c hc
    exact hxl (h.inj x l c' b g h1 hb hx hg)
 refine ⟨h.defers, VRs.frz F h.slots, fun x c hc => ?_, fun x x' c c' g h1 h2 h3 h4 => ?_, fun x c g h1 h3 => ?_, h.used, h.phi0, h.frame, fun g cs hg => (h.glob g cs hg).keep (φ' := fun _ => none) ⟨fun _ _ h => h, fun g hg _ => ⟨hS g hg, rfl⟩, Nat.le_refl _, fun _ _ h => h⟩, h.lad⟩
 ·obtain ⟨hx, c', h1, rfl⟩ := hmem x c hc
  rcases h.mem x c' h1 with ⟨k1, k2⟩ | ⟨g, arr, xs, k1, k2, k3, k4, hzz⟩ | ⟨g, es, ck, xs, k1, k2, k3, k4, k5⟩
  ·exact .inl ⟨k1, by simp only [zv_, k2, ky_]⟩
  ·exact .inr (.inl ⟨g, arr, xs, k1, k2, VRr.frz F k3, k4, hzz⟩)
  ·exact .inr (.inr ⟨g, es, ck, xs, k1, k2, k3, VRr.frz F k4, k5⟩)
 ·obtain ⟨_, d, e1, _⟩ := hmem x c h1
  obtain ⟨_, d', e2, _⟩ := hmem x' c' h2
  exact h.inj x x' d d' g e1 e2 h3 h4
 ·obtain ⟨_, d, e1, _⟩ := hmem x c h1
  exact h.own x d g e1 h3
theorem AWp.frz {c : Code} {Q : Exit → St → Prop} {σ σ' : List V} {L L' : List (Nat × Blk)} {U : List Nat} {b : Blk} (l : Nat) (hb : aw_ L l = some b) (hi : cf_ b.rows = true) (h1 : f7_ l b.z b.rows σ = σ') (h2 : ma_ l b L = L') (h : AWp E C c Q ⟨σ', aw_ L', us U⟩) : AWp E C c Q ⟨σ, aw_ L, us U⟩ := fun φ a w hr => by
 subst h1 h2
 exact h φ a w (hr.frz hb hi)
theorem Can.frz {σ σ' : List V} {L L' : List (Nat × Blk)} {U : List Nat} {b : Blk} (l : Nat) (hb : aw_ L l = some b) (hi : cf_ b.rows = true) (h1 : f7_ l b.z b.rows σ = σ') (h2 : ma_ l b L = L') : Can E C ⟨σ, aw_ L, us U⟩ ⟨σ', aw_ L', us U⟩ := fun φ a w hr => by
 subst h1 h2
 exact ⟨φ, hr.frz hb hi⟩
/-! two names change places -/
def sw (l l' x : Nat) : Nat := if x = l then l' else if x = l' then l else x
theorem jp_ (l l' x : Nat) : sw l l' (sw l l' x) = x := by
 unfold sw
 by_cases h1 : x = l
 ·subst h1; by_cases h2 : l' = x <;> simp [h2]
 ·by_cases h2 : x = l'
  ·subst h2; simp [h1]
  ·simp [h1, h2]
def swL (l l' : Nat) : List Nat := (List.range 200).map (sw l l')
theorem bn_ {l l' x : Nat} (h : x < 200) : (swL l l').getD x 0 = sw l l' x := by
 simp [swL, List.getD_eq_getElem?_getD, h]
def swM (l l' : Nat) (L : List (Nat × Blk)) : List (Nat × Blk) := L.map fun p => (sw l l' p.1, rnB (swL l l') p.2)
theorem rg_ (l l' : Nat) : ∀ (L : List (Nat × Blk)) (x : Nat), aw_ (swM l l' L) x = (aw_ L (sw l l' x)).map (rnB (swL l l'))
 | [], x => rfl
 | (y, b) :: r, x => by
  have ih := rg_ l l' r x
  simp only [swM, List.map_cons, aw_] at ih ⊢
  by_cases h : x = sw l l' y
  ·have h' : sw l l' x = y := by rw [h, jp_]
   rw [if_pos h, if_pos h']; rfl
  ·have h' : ¬ sw l l' x = y := fun e => h (by rw [← e, jp_])
   rw [if_neg h, if_neg h']; exact ih
theorem Can.swap {σ σ' : List V} {L L' : List (Nat × Blk)} {U U' : List Nat} (l l' : Nat) (hl : 10 ≤ l) (hl' : 10 ≤ l') (hb : l < 200) (hb' : l' < 200) (hc : cls 200 σ = true) (hm : (L.all fun p => decide (p.1 < 200) && clr 200 p.2.rows) = true) (h1 : rns (swL l l') σ = σ') (h2 : swM l l' L = L') (h3 : U.map (sw l l') = U') :
  Can E C ⟨σ, aw_ L, us U⟩ ⟨σ', aw_ L', us U'⟩ := fun φ a w hr => by
 subst h1 h2 h3
 have hlen : (swL l l').length = 200 := by simp [swL]
 have hφ : ∀ i, i < (swL l l').length → φ i = (fun x => φ (sw l l' x)) ((swL l l').getD i 0) := fun i hi => by
  rw [hlen] at hi
  rw [bn_ hi]
  simp only [jp_]
 have low : ∀ x, my_ x = true → sw l l' x = x := fun x hx => by simp only [my_, Bool.or_eq_true, decide_eq_true_eq] at hx; unfold sw; rw [if_neg (by omega), if_neg (by omega)]
 have hmem : ∀ x b, aw_ (swM l l' L) x = some b → ∃ b', aw_ L (sw l l' x) = some b' ∧ b = rnB (swL l l') b' := fun x b h => by
  rw [rg_] at h
  obtain ⟨b', k1, k2⟩ := Option.map_eq_some_iff.1 h
  exact ⟨b', k1, k2.symm⟩
 have hS : ∀ g, C.S φ (aw_ L) g ↔ C.S (fun x => φ (sw l l' x)) (aw_ (swM l l' L)) g := fun g => by
  simp only [Cx.S]
  refine and_congr_right fun _ => ⟨fun hh x b hb => ?_, fun hh x b hb => ?_⟩
  ·obtain ⟨b', k1, _⟩ := hmem x b hb
   exact hh _ b' k1
  ·have := hh (sw l l' x) (rnB (swL l l') b) (by rw [rg_, jp_, hb]; rfl)
   simpa only [jp_] using this
 have hk : ∀ ψ : Phi, KeepsW ψ ψ (C.S φ (aw_ L)) (C.S (fun x => φ (sw l l' x)) (aw_ (swM l l' L))) w w := fun ψ => ⟨fun _ _ h => h, fun g hg _ => ⟨(hS g).1 hg, rfl⟩, Nat.le_refl _, fun _ _ h => h⟩
 have hLm : ∀ y b, aw_ L y = some b → y < 200 ∧ clr 200 b.rows = true := fun y b h => by
  have : ∀ (L : List (Nat × Blk)), aw_ L y = some b → (y, b) ∈ L := by
   intro L
   induction L with
   | nil => intro h; simp [aw_] at h
   | cons p r ih =>
    obtain ⟨z, c⟩ := p
    intro h
    simp only [aw_] at h
    split at h
    ·rename_i e; subst e; cases h; exact List.mem_cons_self
    ·exact List.mem_cons_of_mem _ (ih h)
  have := List.all_eq_true.1 hm _ (this L h)
  simpa using this
 refine ⟨fun x => φ (sw l l' x), hr.defers, ((VRs.rn hφ (by rw [hlen]; exact hc)).1 hr.slots).keep (hk _), fun x b hb => ?_, fun x x' b b' g h1 h2 h3 h4 => ?_, fun x b g h1 h3 => ?_, fun x hx => ?_, fun x y hx => ?_, hr.frame, fun g cs hg => (hr.glob g cs hg).keep (hk _), hr.lad⟩
 ·obtain ⟨b', k1, rfl⟩ := hmem x b hb
  obtain ⟨k2, k3⟩ := hLm _ b' k1
  have := (MR.rn (φ := fun x => φ (sw l l' x)) hφ (by rw [hlen]; exact k2) (by rw [hlen]; exact k3)).1 (hr.mem _ b' k1)
  rw [bn_ k2, jp_] at this
  exact this.keep (hk _) fun _ _ => rfl
 ·obtain ⟨c, k1, _⟩ := hmem x b h1
  obtain ⟨c', k2, _⟩ := hmem x' b' h2
  have := hr.inj _ _ c c' g k1 k2 h3 h4
  rw [← jp_ l l' x, this, jp_]
 ·obtain ⟨c, k1, _⟩ := hmem x b h1
  exact hr.own _ c g k1 h3
 ·have := hr.used _ hx
  simp only [us, Bool.or_eq_true, decide_eq_true_eq, List.contains_eq_mem, List.mem_map] at this ⊢
  rcases this with h | h
  ·left
   have e : sw l l' (sw l l' x) = sw l l' x := low _ (by simp only [my_, Bool.or_eq_true, decide_eq_true_eq]; exact h)
   rw [jp_] at e
   rw [← e] at h; exact h
  ·exact .inr ⟨_, h, jp_ _ _ _⟩
 ·have hx10 := C.low x (by rw [hx]; simp)
  simp only [low x hx10]
  exact hr.phi0 x y hx
end
end
section
open Go.RowKit
section
variable {E : Env} {C : Cx} {φ : Phi} {s : St} {a : Act} {w : World}
theorem RelAt.reread (h : RelAt E C φ s a w) {l : Nat} {b b' : Blk} (hb : s.m l = some b) (hm : MR φ (C.S φ s.m) w l b') : RelAt E C φ ⟨s.σ, upd s.m l (some b'), s.u⟩ a w := by
 have old : ∀ x c, upd s.m l (some b') x = some c → ∃ c', s.m x = some c' := fun x c hx => by
  by_cases e : x = l
  ·subst e; exact ⟨b, hb⟩
  ·rw [cj_ _ e] at hx; exact ⟨c, hx⟩
 have hS : C.S φ (upd s.m l (some b')) = C.S φ s.m := by
  funext g
  simp only [Cx.S, l1_, eq_iff_iff]
  refine and_congr_right fun _ => ⟨fun hh x c hx => ?_, fun hh x c hx => ?_⟩
  ·by_cases e : x = l
   ·subst e; exact hh x _ (dn_ _ _ _)
   ·exact hh x c (by rw [cj_ _ e]; exact hx)
  ·obtain ⟨c', hc⟩ := old x c hx
   exact hh x c' hc
 refine ⟨h.defers, by rw [hS]; exact h.slots, fun x c hx => ?_, fun x x' c c' g h1 h2 h3 h4 => ?_, fun x c g h1 h3 => ?_, h.used, h.phi0, h.frame, by rw [hS]; exact h.glob, h.lad⟩
 ·rw [hS]
  dsimp only at hx
  by_cases e : x = l
  ·subst e; rw [dn_] at hx; cases hx; exact hm
  ·rw [cj_ _ e] at hx; exact h.mem x c hx
 ·obtain ⟨d, h1⟩ := old _ _ h1
  obtain ⟨d', h2⟩ := old _ _ h2
  exact h.inj x x' d d' g h1 h2 h3 h4
 ·obtain ⟨d, h1⟩ := old _ _ h1
  exact h.own x d g h1 h3
theorem s2_ {α : Type} {l : List α} {i : Nat} {x : α} (h : l[i]? = some x) : l.set i x = l := by
 apply List.ext_getElem?
 intro j
 rw [List.getElem?_set]
 split
 ·rename_i e
  subst e
  rw [h, if_pos (List.getElem?_eq_some_iff.1 h).1]
 ·rfl
theorem VR.own {S : Nat → Prop} {x : Value} {l z : Nat} (h : VR φ S w (.sl true []) x) : VR φ S w (.ow l z 0 0) x := by
 simp only [VR] at h ⊢
 obtain ⟨A, c, z', xs, h1, h2, h3, h4, h5⟩ := h
 exact ⟨A, c, h1, h2, h3, .inl (h4 trivial)⟩
theorem Can.ownSlot {σ : List V} {L L' : List (Nat × Blk)} {U : List Nat} (t l T z : Nat) (hl : us U l = false) (ht : σ.getD t .no = .sl true []) (hL : f4_ L l ⟨T, z, []⟩ = L') : Can E C ⟨σ, aw_ L, us U⟩ ⟨σ.set t (.ow l z 0 0), aw_ L', us (U ++ [l])⟩ := fun φ a w hr => by
 subst hL
 have he := hr.empty (l := l) hl T z
 have e1 : (⟨σ, upd (aw_ L) l (some ⟨T, z, []⟩), fun x => if x = l then true else us U x⟩ : St) = ⟨σ, aw_ (f4_ L l ⟨T, z, []⟩), us (U ++ [l])⟩ := by
  apply St.ext'
  ·rfl
  ·exact h6_ L l _
  ·funext x
   show (if x = l then true else us U x) = us (U ++ [l]) x
   rw [← kz_]
   by_cases h : x = l <;> simp [h]
 dsimp only at he
 rw [e1] at he
 refine ⟨_, he.defers, ?_, he.mem, he.inj, he.own, he.used, he.phi0, he.frame, he.glob, he.lad⟩
 have hv := he.slot t
 dsimp only at hv
 rw [ht] at hv
 have := he.slots.set t (VR.own (l := l) (z := z) hv)
 dsimp only at this ⊢
 rwa [show a.tmps.toList.set t (a.tmps.getD t undef) = a.tmps.toList by
  apply List.ext_getElem?
  intro i
  rw [List.getElem?_set]
  split
  ·rename_i e
   subst e
   split
   ·rename_i h
    rw [List.getElem?_eq_getElem h, Array.getD_eq_getD_getElem?, Array.getElem?_eq_getElem (by simpa using h)]
    simp
   ·rename_i h
    rw [List.getElem?_eq_none (by omega)]
  ·rfl] at this
theorem Can.ownCell {σ : List V} {L L' : List (Nat × Blk)} {U : List Nat} {b : Blk} {row : List V} (p c l T z : Nat) (hl : us U l = false) (hb : aw_ L p = some b) (hr : b.rows = [row]) (ht : row[c]? = some (.sl true [])) (hL : f4_ (f4_ L l ⟨T, z, []⟩) p { b with rows := [row.set c (.ow l z 0 0)] } = L') :
  Can E C ⟨σ, aw_ L, us U⟩ ⟨σ, aw_ L', us (U ++ [l])⟩ := fun φ a w hrel => by
 subst hL
 have he := hrel.empty (l := l) hl T z
 have e1 : (⟨σ, upd (aw_ L) l (some ⟨T, z, []⟩), fun x => if x = l then true else us U x⟩ : St) = ⟨σ, aw_ (f4_ L l ⟨T, z, []⟩), us (U ++ [l])⟩ := by
  apply St.ext'
  ·rfl
  ·exact h6_ L l _
  ·funext x
   show (if x = l then true else us U x) = us (U ++ [l]) x
   rw [← kz_]
   by_cases h : x = l <;> simp [h]
 dsimp only at he
 rw [e1] at he
 have hpl : p ≠ l := fun e => by
  subst e
  have hu := hrel.used p (hrel.mem p b hb).name
  dsimp only at hu
  rw [hl] at hu; cases hu
 have hb' : aw_ (f4_ L l ⟨T, z, []⟩) p = some b := by rw [← h6_, cj_ _ hpl]; exact hb
 have hmr : MR (fun x => if x = l then some none else φ x) (C.S (fun x => if x = l then some none else φ x) (aw_ (f4_ L l ⟨T, z, []⟩))) w p { b with rows := [row.set c (.ow l z 0 0)] } := by
  rcases he.mem p b hb' with ⟨h1, h2⟩ | ⟨g, arr, xs, h1, h2, h3, h4, hzz⟩ | ⟨g, es, ck, xs, h1, h2, hz0, h3, h4⟩
  ·rw [hr] at h2; cases h2
  ·rw [hr] at h3
   simp only [VRr] at h3
   obtain ⟨ys, zs, rfl, k1, k2, k3, rfl⟩ := h3
   obtain ⟨x, x1, x2⟩ := k2.get ht
   refine .inr (.inl ⟨g, arr, _, h1, h2, ?_, h4, hzz⟩)
   simp only [VRr]
   have := k2.set c (VR.own (l := l) (z := z) x2)
   rw [show ys.set c x = ys from s2_ x1] at this
   exact ⟨ys, [], rfl, by simpa using k1, this, k3, rfl⟩
  ·rw [hr] at h3
   simp only [VRr] at h3
   obtain ⟨ys, zs, rfl, k1, k2, k3, rfl⟩ := h3
   obtain ⟨x, x1, x2⟩ := k2.get ht
   refine .inr (.inr ⟨g, es, ck, _, h1, h2, hz0, ?_, h4⟩)
   simp only [VRr]
   have := k2.set c (VR.own (l := l) (z := z) x2)
   rw [show ys.set c x = ys from s2_ x1] at this
   exact ⟨ys, [], rfl, by simpa using k1, this, k3, rfl⟩
 have := he.reread hb' hmr
 rw [h6_] at this
 exact ⟨_, this⟩
end
end
section
open Go.RowKit
section
variable {E : Env} {s : St} {o : Oper}
def c1_ {f : FuncId} {vs rs : List V} (p : Prop) (A : p → ACall E f vs [] rs []) : CallC E where
 ef := fun _ _ => { v := g5_ rs }
 ob := fun o s => pcB E o s = true ∧ mt_ E f vs o s ∧ cv_ vs = true ∧ cv_ rs = true ∧ p
 ok := fun o s ⟨h1, h2, h3, h4, h5⟩ => (a2_ (A h5)).ok o s ⟨h1, h2, h3, h4⟩
def abo_ {f : FuncId} {vs rs : List V} (p : Prop) (A : p → ACall E f vs [] rs []) : CallC E where
 ef := fun o s => { v := g5_ rs, rd := (tm_ E o s).flatMap c0_ }
 ob := fun o s => pcB E o s = true ∧ od_ E f vs o s ∧ mn_ rs = true ∧ cls 0 vs = true ∧ p
 ok := fun o s ⟨h1, h2, h3, h4, h5⟩ => (agf_ (A h5)).ok o s ⟨h1, h2, h3, h4⟩
def aa2_ {f : FuncId} {vs rs : List V} {L0 Lr : List Blk} (η x : List Nat) (p : Prop) (A : p → ACall E f vs L0 rs Lr) : CallC E where
 ef := fun _ _ => ed_ η (η ++ x) rs Lr
 ob := fun o s => pcB E o s = true ∧ mt_ E f (rns η vs) o s ∧ as_ s.m η η L0 ∧ (η ++ x).length = Lr.length ∧ (η ++ x).Nodup ∧ cls η.length vs = true ∧ ay_ η.length L0 = true ∧ cls (η ++ x).length rs = true ∧ ay_ (η ++ x).length Lr = true ∧ p
 ok := fun o s ⟨h1, h2, h3, h4, h5, h6, h7, h8, h9, h10⟩ => (cz_ η x (A h10)).ok o s ⟨h1, h2, h3, h4, h5, h6, h7, h8, h9⟩
end
section
variable {E : Env} {C : Cx} {s : St} {o : Oper} {Q : Exit → St → Prop}
def unB : V := .q fun x => ∃ t, x = .bool t
theorem yg_ : d2_ unB = true := rfl
theorem aai_ : peel unB = unB := rfl
theorem AWp.condQ {c : Operand} {x y : Code} (hc : s.pv E c = unB) (hp : d2_ (s.ev E c) = true) (h1 : AWp E C x Q s) (h0 : AWp E C y Q s) : AWp E C (.cond c x y) Q s := fun φ a w hr => by
 have := hr.pv hp
 rw [hc] at this
 simp only [unB, VR] at this
 obtain ⟨t, ht⟩ := this
 refine wp_cond ht ?_
 cases t
 ·exact h0 φ a w hr
 ·exact h1 φ a w hr
theorem wz_ : ∀ (σ : List V) (t : Nat) (v : V), leV (σ.getD t .no) v → les σ (σ.set t v)
 | [], _, _, _ => by simp only [List.set_nil, les]
 | u :: σ, 0, v, h => by simp only [List.getD_cons_zero] at h; simp only [List.set_cons_zero, les]; exact ⟨h, e2_ σ⟩
 | u :: σ, t + 1, v, h => by simp only [List.getD_cons_succ] at h; simp only [List.set_cons_succ, les]; exact ⟨fk_ u, wz_ σ t v h⟩
theorem Can.slotLe {σ σ' : List V} {m : Mem} {u : Nat → Bool} (t : Nat) (v : V) (h : leV (σ.getD t .no) v) (h1 : σ.set t v = σ') : Can E C ⟨σ, m, u⟩ ⟨σ', m, u⟩ := fun φ a w hr => by
 subst h1
 exact ⟨φ, hr.defers, hr.slots.le (wz_ σ t v h), hr.mem, hr.inj, hr.own, hr.used, hr.phi0, hr.frame, hr.glob, hr.lad⟩
theorem ah4_ {t t' el z y : Nat} {zc : List V} {x : Operand} {k : Bool} {rows : List (List V)} (hp : PC E o s) (ho : o.op = .binOp .eql t x (.const (.slice none 0 0)) t') (ht : (bu_ E.P t).map (·.k) = some (.sl el z y zc)) (hx : s.pv E x = .sl k rows) (hne : rows.head? ≠ some []) :
  Op1 E o s { v := match rows with | [] => unB | _ => .b false } :=
 Op1.pure fun s' h1 _ C φ a w hr => by
  have hxo : x ∈ o.op.operands := by simp [ho, Op.operands]
  have k1 : VR φ (C.S φ s'.m) w (s.pv E x) (a.eval x) := by
   have := hr.pv (x := x) (by rw [h1 x hxo]; exact hp x hxo)
   unfold St.pv at this ⊢
   rwa [h1 x hxo] at this
  rw [hx] at k1
  simp only [VR] at k1
  obtain ⟨A, c, z', xs, e1, e2, e3, e4, e5, e6⟩ := k1
  obtain ⟨hu, _⟩ := f9_ ht
  have hrun := Lib.run_eql_slice_nil (P := E.P) w t el A rows.length c 0 0 hu
  have he : a.eval (.const (.slice none 0 0)) = .slice none 0 0 := rfl
  refine ⟨.bool A.isNone, by simp [execOp, ho, e1, he, jt_ .eql t x (.const (.slice none 0 0)) (.slice A rows.length c) (.slice none 0 0) E.P w (by simp) (by simp), hrun], ?_⟩
  cases rows with
  | nil => simp only [unB, VR]; exact ⟨_, rfl⟩
  | cons r rs =>
   simp only [VRr] at e6
   obtain ⟨ys, zs, rfl, _, h2, _⟩ := e6
   have hr1 : r ≠ [] := fun e => hne (by rw [e]; rfl)
   have : ys ≠ [] := fun e => hr1 (List.eq_nil_of_length_eq_zero (by rw [← h2.len, e]; rfl))
   obtain ⟨g, p, rfl, _⟩ := e5 (by simp [this])
   simp only [VR, Option.isNone_some]
def nilV (v : V) : V := match v with | .sl _ [] => unB | .sl _ _ => .b false | _ => .no
def nilO (E : Env) : CallC E where
 ef := fun o s => match o.op with
  | .binOp .eql _ x _ _ => { v := nilV (s.pv E x) }
  | _ => { v := .no }
 ob := fun o s => pcB E o s = true ∧ match o.op with
  | .binOp .eql t x (.const (.slice none 0 0)) _ => (g9_ E.P t).isSome = true ∧ match s.pv E x with | .sl _ rows => rows.head? ≠ some [] | _ => False
  | _ => False
 ok := fun o s ⟨h1, h2⟩ => by
  obtain ⟨dst, op, ty, pos, after, guard⟩ := o
  split at h2
  ·rename_i t x t' ho
   dsimp only at ho
   subst ho
   obtain ⟨h3, h4⟩ := h2
   dsimp only
   cases ht : g9_ E.P t with
   | none => simp [ht] at h3
   | some p =>
    obtain ⟨el, z, y, zc⟩ := p
    generalize hx : s.pv E x = vx at h4
    cases vx <;> try exact h4.elim
    rename_i k rows
    have := ah4_ (s := s) (b9_ h1) rfl (fz_ ht) hx h4
    cases rows with
    | nil => exact this
    | cons r rs => exact this
  ·exact h2.elim
end
theorem p5_ : ∀ a b : List (List V), cf_ (a ++ b) = (cf_ a && cf_ b)
 | [], b => by simp only [List.nil_append, cf_, Bool.true_and]
 | x :: a, b => by simp only [List.cons_append, cf_, p5_ a b, Bool.and_assoc]
def dj_ (l : List (List V)) (z : List V) (k : Nat) : List (List V) := l.mapIdx fun i r => if i < k then r else z
theorem hs_ (l : List (List V)) (z : List V) (k j : Nat) : (dj_ l z k)[j]? = (l[j]?).map fun r => if j < k then r else z := by simp [dj_]
theorem ai_ (l : List (List V)) (z : List V) (k : Nat) : (dj_ l z k).length = l.length := by simp [dj_]
theorem go_ (l : List (List V)) (z : List V) : dj_ l z 0 = List.replicate l.length z := by
 apply List.ext_getElem?; intro j
 rw [hs_, List.getElem?_replicate]
 rcases Nat.lt_or_ge j l.length with h | h
 ·rw [List.getElem?_eq_getElem h, if_pos h]; simp
 ·rw [List.getElem?_eq_none h, if_neg (by omega)]; rfl
theorem gu_ {l : List (List V)} {z : List V} {k : Nat} (h : l.length ≤ k) : dj_ l z k = l := by
 apply List.ext_getElem?; intro j
 rw [hs_]
 rcases Nat.lt_or_ge j l.length with h2 | h2
 ·rw [List.getElem?_eq_getElem h2, Option.map_some, if_pos (by omega)]
 ·rw [List.getElem?_eq_none h2]; rfl
theorem gw_ {l : List (List V)} {z : List V} {k : Nat} (h : k < l.length) : (dj_ l z k).set k (l.getD k []) = dj_ l z (k + 1) := by
 apply List.ext_getElem?; intro j
 rw [List.getElem?_set, hs_, hs_, ai_]
 by_cases e : k = j
 ·subst e
  rw [if_pos rfl, if_pos h, List.getElem?_eq_getElem h, Option.map_some, if_pos (by omega), List.getD_eq_getElem?_getD, List.getElem?_eq_getElem h]; rfl
 ·rw [if_neg e]
  by_cases h2 : j < k
  ·rw [show (fun r : List V => if j < k then r else z) = fun r => if j < k + 1 then r else z from by funext r; rw [if_pos h2, if_pos (by omega)]]
  ·rw [show (fun r : List V => if j < k then r else z) = fun r => if j < k + 1 then r else z from by funext r; rw [if_neg h2, if_neg (by omega)]]
theorem mg_ : ∀ {l : List (List V)}, cf_ l = true ↔ ∀ r ∈ l, cv_ r = true
 | [] => by simp [cf_]
 | x :: l => by simp only [cf_, Bool.and_eq_true, mg_ (l := l), List.forall_mem_cons]
theorem i0_ {l : List (List V)} {z : List V} {k : Nat} {r : List V} (h : r ∈ dj_ l z k) : r ∈ l ∨ r = z := by
 obtain ⟨j, hj⟩ := List.getElem?_of_mem h
 rw [hs_] at hj
 obtain ⟨q, h1, h2⟩ := Option.map_eq_some_iff.1 hj
 split at h2
 ·exact .inl (h2 ▸ List.mem_of_getElem? h1)
 ·exact .inr h2.symm
theorem hw_ {l : List (List V)} {z : List V} {k : Nat} (h : cf_ l = true) (hz : cv_ z = true) : cf_ (dj_ l z k) = true :=
 mg_.2 fun r hr => by
  rcases i0_ hr with hr | rfl
  ·exact mg_.1 h r hr
  ·exact hz
theorem gp_ {E : Env} {f : FuncId} {fn : Func} {c : Code} {vs rs : List V} (hf : E.P.funcs[f]? = some fn) (hb : fn.body = some c) (hname : (fn.name == "runtime.NumGoroutine") = false)
  (h : ∀ S w (xs : Array Value), VRs (fun _ => none) S w vs xs.toList → (∀ g cs, E.G g = some cs → VR (fun _ => none) S w (.rp cs) (.pointer (some ⟨g, 0, none⟩))) → (∃ B, E.H B w ∧ B ≤ w.heap.size) →
   Calls E.P f xs w fun e w' => ∃ ys, e = .returned (gg_ ys) ∧ Below w.heap.size w w' ∧ VRs (fun _ => none) (fun g => S g ∨ w.heap.size ≤ g) w' rs ys) : ACall E f vs [] rs [] := by
 refine ⟨fun args w => ?_, fun φ S w args hp => ?_⟩
 ·simp [callFunc, hf, hb]
  simpa using hname
 ·have hφ : φ = fun _ => none := by
   funext l
   cases hh : φ l with
   | none => rfl
   | some x => have := hp.low l (by rw [hh]; simp); simp at this
  subst hφ
  obtain ⟨B, b1, b2, _⟩ := hp.lad
  refine (h S w args hp.args hp.glob ⟨B, b1, b2⟩).mono fun e w' ⟨ys, h1, h2, h3⟩ => ⟨ys, fun _ => none, h1, ?_⟩
  refine ⟨fun i hi => by simp at hi, h3.keep ⟨fun _ _ h => h, fun g hg _ => ⟨⟨hg, fun l b hb => by simp⟩, rfl⟩, Nat.le_refl _, fun _ _ h => h⟩, fun i b hb => by simp at hb, fun i g _ hg => by simp at hg, fun i j g hi _ _ _ => by simp at hi, FrameW.below h2 _⟩
end
section
open Go.RowKit
theorem Can.leAt {E : Env} {C : Cx} {σ : List V} {L L' : List (Nat × Blk)} {u : Nat → Bool} (l : Nat) (rows : List (List V)) {b : Blk} (hb : aw_ L l = some b) (h : ler b.rows rows) (h1 : f4_ L l ⟨b.T, b.z, rows⟩ = L') : Can E C ⟨σ, aw_ L, u⟩ ⟨σ, aw_ L', u⟩ := fun φ a w hr => by
 subst h1
 rw [← h6_]
 have hm : ∀ x b', upd (aw_ L) l (some ⟨b.T, b.z, rows⟩) x = some b' → ∃ b0, aw_ L x = some b0 ∧ ∀ S, MR φ S w x b0 → MR φ S w x b' := fun x b' hx => by
  by_cases e : x = l
  ·subst e
   rw [dn_] at hx; cases hx
   refine ⟨b, hb, fun S hM => ?_⟩
   rcases hM with ⟨k1, k2⟩ | ⟨g, arr, xs, k1, k2, k3, k4, hzz⟩ | ⟨g, es, ck, xs, k1, k2, k3, k4, k5⟩
   ·refine .inl ⟨k1, ?_⟩
    rw [k2] at h
    cases rows with
    | nil => rfl
    | cons r rs => simp [ler] at h
   ·exact .inr (.inl ⟨g, arr, xs, k1, k2, k3.le h, k4, hzz⟩)
   ·exact .inr (.inr ⟨g, es, ck, xs, k1, k2, k3, k4.le h, k5⟩)
  ·rw [cj_ _ e] at hx; exact ⟨b', hx, fun _ h => h⟩
 have hS : C.S φ (upd (aw_ L) l (some ⟨b.T, b.z, rows⟩)) = C.S φ (aw_ L) := by
  funext k
  simp only [Cx.S, l1_, eq_iff_iff]
  refine and_congr_right fun _ => ⟨fun hh x b' hb' => ?_, fun hh x b' hb' => ?_⟩
  ·by_cases e : x = l
   ·subst e; exact hh x _ (dn_ _ _ _)
   ·exact hh x b' (by rw [cj_ _ e]; exact hb')
  ·by_cases e : x = l
   ·subst e; exact hh x b hb
   ·rw [cj_ _ e] at hb'; exact hh x b' hb'
 refine ⟨φ, hr.defers, by dsimp only; rw [hS]; exact hr.slots, fun x b' hx => ?_, fun x x' b1 b2 g h1 h2 => ?_, fun x b1 g h1 => ?_, hr.used, hr.phi0, hr.frame, fun g cs hg => by dsimp only; rw [hS]; exact hr.glob g cs hg, hr.lad⟩
 ·obtain ⟨b0, k1, k2⟩ := hm x b' hx
  dsimp only
  rw [hS]
  exact k2 _ (hr.mem x b0 k1)
 ·obtain ⟨c1, k1, _⟩ := hm x b1 h1
  obtain ⟨c2, k2, _⟩ := hm x' b2 h2
  exact hr.inj x x' c1 c2 g k1 k2
 ·obtain ⟨c1, k1, _⟩ := hm x b1 h1
  exact hr.own x c1 g k1
end
section
open Go.RowKit
def ifV (b : Bool) : V := .q fun x => if b then x = .nilIface else ∃ t p, x = .iface t p
theorem aa5_ (b : Bool) : peel (ifV b) = ifV b := rfl
theorem ym_ (b : Bool) : d2_ (ifV b) = true := rfl
theorem adg_ (b : Bool) : (ifV b).pure = true := rfl
theorem zq_ (b : Bool) : (ifV b).flat = true := rfl
theorem ahb_ (η : List Nat) (b : Bool) : rn η (ifV b) = ifV b := by simp only [ifV, rn]
theorem afu_ (u : Nat → Bool) (b : Bool) : V.inn u (ifV b) = true := by simp only [ifV, V.inn]
theorem ah6_ (k : Nat) (b : Bool) : V.cl k (ifV b) = true := by simp only [ifV, V.cl]
section
variable {E : Env} {s : St} {o : Oper}
theorem aar_ {t t' : TypeId} {x : Operand} {b : Bool} (hp : PC E o s) (ho : o.op = .binOp .eql t x (.const .nilIface) t') (ht : E.P.underlying t = some (.interface (E.P.methodsAt t))) (hx : s.pv E x = ifV b) : Op1 E o s { v := .b b } :=
 Op1.pure fun s' h1 _ C φ a w hr => by
  have hxo : x ∈ o.op.operands := by simp [ho, Op.operands]
  have k1 : VR φ (C.S φ s'.m) w (s.pv E x) (a.eval x) := by
   have := hr.pv (x := x) (by rw [h1 x hxo]; exact hp x hxo)
   unfold St.pv at this ⊢
   rwa [h1 x hxo] at this
  rw [hx] at k1
  simp only [ifV, VR] at k1
  have he : a.eval (.const .nilIface) = .nilIface := rfl
  refine ⟨.bool b, ?_, by simp only [VR]⟩
  cases b with
  | true =>
   simp only [if_true] at k1
   have hrun := run_eql_nil_nil (P := E.P) w t ht
   have hg : (eqGuard .eql t x (.const .nilIface) .nilIface .nilIface).run E.P w = .ok () w := by simp [eqGuard]
   simp [execOp, ho, k1, he, hrun, hg]
  | false =>
   simp only [Bool.false_eq_true, if_false] at k1
   obtain ⟨tt, p, k1⟩ := k1
   have hrun := run_eql_held_nil (P := E.P) w t tt p ht
   have hg : (eqGuard .eql t x (.const .nilIface) (.iface tt p) .nilIface).run E.P w = .ok () w := by simp [eqGuard]
   simp [execOp, ho, k1, he, hrun, hg]
def ifO (E : Env) (t : TypeId) (b : Bool) (ht : E.P.underlying t = some (.interface (E.P.methodsAt t))) : CallC E where
 ef := fun _ _ => { v := .b b }
 ob := fun o s => pcB E o s = true ∧ match o.op with
  | .binOp .eql t' x (.const .nilIface) _ => t' = t ∧ s.pv E x = ifV b
  | _ => False
 ok := fun o s ⟨h1, h2⟩ => by
  obtain ⟨dst, op, ty, pos, after, guard⟩ := o
  split at h2
  ·rename_i t1 x t2 ho
   dsimp only at ho
   subst ho
   obtain ⟨rfl, h4⟩ := h2
   exact aar_ (b9_ h1) rfl ht h4
  ·exact h2.elim
theorem afx_ {x y z : Operand} {k : IntKind} {p q r : Int} {ts : Array TypeId} (hp : PC E o s) (ho : o.op = .call { callee := .builtin .max, args := #[x, y, z], argTypes := ts }) (hx : s.pv E x = .i k p) (hy : s.pv E y = .i k q) (hz : s.pv E z = .i k r) :
  Op1 E o s { v := .i k (if r > (if q > p then q else p) then r else if q > p then q else p) } := by
 refine Op1.pure' hp fun φ S w ρ hr _ => ?_
 have h1 := hr x (by simp [ho, Op.operands, Call.operands])
 have h2 := hr y (by simp [ho, Op.operands, Call.operands])
 have h3 := hr z (by simp [ho, Op.operands, Call.operands])
 rw [hx] at h1; rw [hy] at h2; rw [hz] at h3
 simp only [VR] at h1 h2 h3
 exact ⟨_, by simp [execOp, ho, h1, h2, h3, resolve, invoke, builtin, Builtin.max_, Builtin.max2]; rfl, by simp only [VR]⟩
def maxO (E : Env) : CallC E where
 ef := fun o s => match o.op with
  | .call { callee := .builtin .max, args := as, .. } => match as.toList with
   | [x, y, z] => match s.pv E x, s.pv E y, s.pv E z with
    | .i k p, .i _ q, .i _ r => { v := .i k (if r > (if q > p then q else p) then r else if q > p then q else p) }
    | _, _, _ => { v := .no }
   | _ => { v := .no }
  | _ => { v := .no }
 ob := fun o s => pcB E o s = true ∧ match o.op with
  | .call { callee := .builtin .max, args := as, .. } => match as.toList with
   | [x, y, z] => ks_ (s.pv E x) (s.pv E y) ∧ ks_ (s.pv E y) (s.pv E z)
   | _ => False
  | _ => False
 ok := fun o s ⟨h1, h2⟩ => by
  obtain ⟨dst, op, ty, pos, after, guard⟩ := o
  dsimp only at h2 ⊢
  split at h2
  ·rename_i as ts u
   split at h2
   ·rename_i x y z e
    obtain ⟨h3, h4⟩ := h2
    have e2 : as = #[x, y, z] := by apply Array.ext'; simpa using e
    subst e2
    cases hx : s.pv E x <;> cases hy : s.pv E y <;> simp only [hx, hy, ks_] at h3
    cases hz : s.pv E z <;> simp only [hy, hz, ks_] at h4
    subst h3; subst h4
    exact afx_ (b9_ h1) rfl hx hy hz
   ·exact h2.elim
  ·exact h2.elim
end
end
section
open Go.RowKit
def mR (L : List (Int × Int)) : List (List V) := L.map fun p => [.i .i64 p.1, .i .i64 p.2]
def it_ : List (Int × Int) → Int → Option Int
 | [], _ => none
 | (a, b) :: r, k => if k = a then some b else it_ r k
def jm_ : List (Int × Int) → Int → Int → List (Int × Int)
 | [], k, v => [(k, v)]
 | (a, b) :: r, k, v => if k = a then (a, v) :: r else (a, b) :: jm_ r k v
theorem xs_ : ∀ L, cf_ (mR L) = true
 | [] => rfl
 | _ :: r => by show (cv_ [_, _] && cf_ (mR r)) = true; rw [xs_ r]; rfl
def mC (p : Int × Int) : Value × Value := (.int .i64 p.1, .int .i64 p.2)
theorem on_ {φ : Phi} {S : Nat → Prop} {w : World} : ∀ {L : List (Int × Int)} {xs : List Value}, VRr φ S w 2 (mR L) xs → xs = L.flatMap fun p => [.int .i64 p.1, .int .i64 p.2]
 | [], xs, h => by simp only [mR, List.map_nil, VRr] at h; simpa using h
 | p :: L, xs, h => by
  simp only [mR, List.map_cons, VRr, VRs, VR] at h
  obtain ⟨ys, zs, rfl, _, ⟨x, r, rfl, rfl, y, r', rfl, rfl, rfl⟩, _, h5⟩ := h
  rw [on_ (L := L) h5]; rfl
theorem wt_ {φ : Phi} {S : Nat → Prop} {w : World} : ∀ L : List (Int × Int), VRr φ S w 2 (mR L) (L.flatMap fun p => [.int .i64 p.1, .int .i64 p.2])
 | [] => by simp [mR, VRr]
 | p :: L => by
  have h1 : VR φ S w (.i .i64 p.1) (.int .i64 p.1) := by simp only [VR]
  have h2 : VR φ S w (.i .i64 p.2) (.int .i64 p.2) := by simp only [VR]
  have := VRr.cons (z := 2) (r := [.i .i64 p.1, .i .i64 p.2]) rfl (VRs.cons h1 (VRs.cons h2 VRs.nil)) (by intro u hu; simp at hu; rcases hu with rfl | rfl <;> rfl) (wt_ (φ := φ) (S := S) (w := w) L)
  simpa [mR] using this
theorem r9_ : ∀ {es : List MapEntry} {L : List (Int × Int)}, (es.flatMap fun e => [e.key, e.val]) = (L.flatMap fun p => [.int .i64 p.1, .int .i64 p.2]) → es.map (fun e => (e.key, e.val)) = L.map mC
 | [], [], _ => rfl
 | [], p :: L, h => by simp at h
 | e :: es, [], h => by simp at h
 | e :: es, p :: L, h => by
  simp only [List.flatMap_cons, List.cons_append, List.nil_append, List.cons.injEq] at h
  simp only [List.map_cons, r9_ h.2.2, mC, h.1, h.2.1]
theorem o2_ : ∀ {es : List MapEntry} {L : List (Int × Int)}, es.map (fun e => (e.key, e.val)) = L.map mC → (es.flatMap fun e => [e.key, e.val]) = (L.flatMap fun p => [.int .i64 p.1, .int .i64 p.2])
 | [], [], _ => rfl
 | [], p :: L, h => by simp at h
 | e :: es, [], h => by simp at h
 | e :: es, p :: L, h => by
  simp only [List.map_cons, List.cons.injEq, mC, Prod.mk.injEq] at h
  simp only [List.flatMap_cons, o2_ h.2, h.1.1, h.1.2]
theorem mf_ {k : Int} : ∀ {es : List MapEntry} {L : List (Int × Int)} (i : Nat), es.map (fun e => (e.key, e.val)) = L.map mC →
  (it_ L k = none ∧ Instr.findNow (.int .i64) (.int .i64 k) es i = some none ∧ ∀ v, jm_ L k v = L ++ [(k, v)]) ∨
  ∃ j b, it_ L k = some b ∧ Instr.findNow (.int .i64) (.int .i64 k) es i = some (some (i + j, .int .i64 b)) ∧ L[j]? = some (k, b) ∧ ∀ v, jm_ L k v = L.set j (k, v)
 | [], [], i, _ => .inl ⟨rfl, rfl, fun _ => rfl⟩
 | [], p :: L, i, h => by simp at h
 | e :: es, [], i, h => by simp at h
 | e :: es, (a, b) :: L, i, h => by
  simp only [List.map_cons, List.cons.injEq, mC, Prod.mk.injEq] at h
  obtain ⟨⟨h1, h2⟩, h3⟩ := h
  by_cases hk : k = a
  ·subst hk
   exact .inr ⟨0, b, by simp [it_], by simp [Instr.findNow, Instr.sameNow, h1, h2], by simp, fun v => by simp [jm_]⟩
  ·rcases mf_ (k := k) (i + 1) h3 with ⟨q1, q2, q3⟩ | ⟨j, c, q1, q2, q3, q4⟩
   ·exact .inl ⟨by simp [it_, hk, q1], by simp only [Instr.findNow, Instr.sameNow, h1, if_true, beq_eq_false_iff_ne.2 hk]; exact q2, fun v => by simp [jm_, hk, q3]⟩
   ·exact .inr ⟨j + 1, c, by simp [it_, hk, q1], by simp only [Instr.findNow, Instr.sameNow, h1, if_true, beq_eq_false_iff_ne.2 hk]; rw [q2, show i + 1 + j = i + (j + 1) by omega], by simpa using q3, fun v => by simp [jm_, hk, q4]⟩
section
variable {E : Env} {C : Cx} {φ : Phi} {s : St} {a : Act} {w w' : World} {o : Oper}
theorem RelAt.writeM (h : RelAt E C φ s a w) {l : Nat} {b : Blk} (hb : s.m l = some b) {g : Nat} (hg : φ l = some (some g)) {rows : List (List V)} {xs : List Value} {es es' : Array MapEntry} {ck ck' : Nat}
  (ha : w.heap[g]? = some (.map es ck)) (hz : b.z = 0) (hw : w'.heap[g]? = some (.map es' ck')) (hsame : ∀ k, k ≠ g → w'.heap[k]? = w.heap[k]?) (hhs : w'.heap.size = w.heap.size)
  (hos : w'.os = w.os ∧ w'.tape = w.tape ∧ w'.output = w.output)
  (hr : VRr φ (C.S φ s.m) w 2 rows xs) (hx : xs = acm_ es') : RelAt E C φ ⟨s.σ, upd s.m l (some { b with rows := rows }), s.u⟩ a w' := by
 have hS : C.S φ (upd s.m l (some { b with rows := rows })) = C.S φ s.m := by
  funext k
  simp only [Cx.S, l1_, eq_iff_iff]
  refine and_congr_right fun _ => ⟨fun hh x b' hb' => ?_, fun hh x b' hb' => ?_⟩
  ·by_cases e : x = l
   ·subst e; exact hh x _ (dn_ _ _ _)
   ·exact hh x b' (by rw [cj_ _ e]; exact hb')
  ·by_cases e : x = l
   ·subst e; exact hh x b hb
   ·rw [cj_ _ e] at hb'; exact hh x b' hb'
 have hset : ∀ k, C.S φ s.m k → k < w.heap.size → C.S φ (upd s.m l (some { b with rows := rows })) k ∧ w'.heap[k]? = w.heap[k]? := fun k hk _ =>
  ⟨by rw [hS]; exact hk, hsame k (fun e => hk.2 l b hb (by rw [e]; exact hg))⟩
 have hfr : FrameW (fun k => k = g) w w' := ⟨hos.1, hos.2.1, hos.2.2, by omega, fun k _ hk => hsame k hk, fun k x hx => by
  by_cases e : k = g
  ·subst e
   simp [World.shape?, ha] at hx
  ·rw [f2_ (hsame k e)]; exact hx⟩
 refine h.step (fun _ _ h => h) h.used hset hfr (fun k hk => by subst hk; exact h.own l b k hb hg) (fun x b' hb' => ?_) (fun x x' b1 b2 k h1 h2 h3 h4 => ?_) (fun x b1 k h1 h3 => ?_)
 ·by_cases e : x = l
  ·subst e
   rw [dn_] at hb'; cases hb'
   refine .inr (.inr (.inr ⟨g, es', ck', xs, hg, hw, hz, ?_, hx⟩))
   have hk := h.keeps (fun _ _ h => h) hset hfr
   exact hr.keep hk
  ·rw [cj_ _ e] at hb'
   exact .inl ⟨hb', fun k hk => hsame k (fun e' => e (h.inj x l b' b g hb' hb (by rw [← e']; exact hk) hg))⟩
 ·have f : ∀ y c, upd s.m l (some { b with rows := rows }) y = some c → ∃ c', s.m y = some c' := fun y c hy => by
   by_cases e : y = l
   ·subst e; exact ⟨b, hb⟩
   ·rw [cj_ _ e] at hy; exact ⟨c, hy⟩
  obtain ⟨c1, h1⟩ := f _ _ h1
  obtain ⟨c2, h2⟩ := f _ _ h2
  exact h.inj x x' c1 c2 k h1 h2 h3 h4
 ·by_cases e : x = l
  ·subst e; exact h.own x b k hb h3
  ·rw [cj_ _ e] at h1; exact h.own x b1 k h1 h3
theorem RelAt.newM (h : RelAt E C φ s a w) {l : Nat} (hl : s.u l = false) (T : TypeId) :
  RelAt E C (fun x => if x = l then some (some w.heap.size) else φ x) ⟨s.σ, upd s.m l (some ⟨T, 0, []⟩), fun x => if x = l then true else s.u x⟩ a (w.alloc (.map #[] 0)) := by
 have hn : φ l = none := by
  cases hh : φ l with
  | none => rfl
  | some x => have := h.used l (by rw [hh]; simp); rw [hl] at this; cases this
 have hphi : ∀ x y, φ x = some y → (fun x => if x = l then some (some w.heap.size) else φ x) x = some y := fun x y hxy => by
  by_cases e : x = l
  ·subst e; rw [hn] at hxy; cases hxy
  ·simpa [e] using hxy
 have hset : ∀ g, C.S φ s.m g → g < w.heap.size → C.S (fun x => if x = l then some (some w.heap.size) else φ x) (upd s.m l (some ⟨T, 0, []⟩)) g ∧ (w.alloc (.map #[] 0)).heap[g]? = w.heap[g]? := fun g hg hlt => by
  refine ⟨⟨hg.1, fun x b hb => ?_⟩, Below.heap_alloc w _ g hlt⟩
  by_cases e : x = l
  ·subst e; simp only [if_pos]; intro hh; cases hh; exact absurd hlt (Nat.lt_irrefl _)
  ·rw [cj_ _ e] at hb; simp only [e, if_false]; exact hg.2 x b hb
 have hfr := FrameW.alloc (fun _ => False) w (.map #[] 0)
 refine h.step hphi (fun x hx => ?_) hset hfr (fun _ h => h.elim) (fun x b hb => ?_) (fun x x' b b' g hb hb' hg hg' => ?_) (fun x b g hb hg => ?_)
 ·by_cases e : x = l
  ·simp [e]
  ·simp only [e, if_false] at hx ⊢; exact h.used x hx
 ·by_cases e : x = l
  ·subst e
   rw [dn_] at hb; cases hb
   exact .inr (.inr (.inr ⟨w.heap.size, #[], 0, [], by simp, heap_alloc_new w _, rfl, VRr.nil, rfl⟩))
  ·rw [cj_ _ e] at hb
   exact .inl ⟨hb, fun g hg => Below.heap_alloc w _ g ((h.mem x b hb).lt hg)⟩
 ·by_cases e : x = l <;> by_cases e' : x' = l
  ·rw [e, e']
  ·subst e
   rw [cj_ _ e'] at hb'
   simp only [if_pos, e', if_false] at hg hg'
   cases hg
   exact absurd ((h.mem x' b' hb').lt hg') (Nat.lt_irrefl _)
  ·subst e'
   rw [cj_ _ e] at hb
   simp only [if_pos, e, if_false] at hg hg'
   cases hg'
   exact absurd ((h.mem x b hb).lt hg) (Nat.lt_irrefl _)
  ·rw [cj_ _ e] at hb; rw [cj_ _ e'] at hb'
   simp only [e, e', if_false] at hg hg'
   exact h.inj x x' b b' g hb hb' hg hg'
 ·by_cases e : x = l
  ·subst e; simp only [if_pos] at hg; cases hg; exact .inr h.frame.size
  ·rw [cj_ _ e] at hb; simp only [e, if_false] at hg; exact h.own x b g hb hg
def y1_ (l T : Nat) : Eff := { v := .pt l 0 0 0, wr := [(l, some ⟨T, 0, []⟩)], nw := [l] }
theorem afh_ {t : TypeId} {l T : Nat} (ho : o.op = .makeMap t none) : Op1 E o s (y1_ l T) :=
 Op1.of fun s' _ _ e3 C φ a w hr => by
  have hrun : (execOp a.eval o).run E.P w = .ok (.value (.map (some w.heap.size))) (w.alloc (.map #[] 0)) := by
   simp [execOp, ho, run_makeMap]
  refine ⟨_, _, _, .inl hrun, by simp only [y1_]; rw [id_]; exact hr.newM (e3 l (by simp [y1_])) T, ?_⟩
  simp only [y1_, VR]
  exact ⟨w.heap.size, by simp, by rw [Nat.zero_mul]; rfl⟩
def l0_ (l : Nat) (b : Blk) (L : List (Int × Int)) (k v : Int) : Eff := { v := .no, wr := [(l, some ⟨b.T, 0, mR (jm_ L k v)⟩)], rd := [l] }
theorem adk_ {t kt et : TypeId} {x y z : Operand} {l T : Nat} {L : List (Int × Int)} {k v : Int} (hp : PC E o s) (ho : o.op = .mapUpdate t x y z) (ht : E.P.underlying t = some (.map kt et)) (hkt : E.P.underlying kt = some (.int .i64))
  (hx : s.pv E x = .pt l 0 0 0) (hy : s.pv E y = .i .i64 k) (hz : s.pv E z = .i .i64 v) (hm : s.m l = some ⟨T, 0, mR L⟩) : Op1 E o s (l0_ l ⟨T, 0, mR L⟩ L k v) := by
 have ox : x ∈ o.op.operands := by simp [ho, Op.operands]
 have oy : y ∈ o.op.operands := by simp [ho, Op.operands]
 have oz : z ∈ o.op.operands := by simp [ho, Op.operands]
 have hpx := hp x ox
 have hpy := hp y oy
 have hpz := hp z oz
 refine Op1.of fun s' e1 e2 e3 C φ a w hr => ?_
 have h1 := hr.pv (x := x) (by rw [e1 x ox]; exact hpx)
 have h2 := hr.pv (x := y) (by rw [e1 y oy]; exact hpy)
 have h3 := hr.pv (x := z) (by rw [e1 z oz]; exact hpz)
 have e1x : s'.pv E x = s.pv E x := by unfold St.pv; rw [e1 x ox]
 have e1y : s'.pv E y = s.pv E y := by unfold St.pv; rw [e1 y oy]
 have e1z : s'.pv E z = s.pv E z := by unfold St.pv; rw [e1 z oz]
 rw [e1x, hx] at h1; rw [e1y, hy] at h2; rw [e1z, hz] at h3
 simp only [VR] at h1 h2 h3
 obtain ⟨g, g1, g2⟩ := h1
 rw [ts_] at g2
 have hb : s'.m l = some ⟨T, 0, mR L⟩ := by rw [e2 l (by simp [l0_])]; exact hm
 rcases hr.mem l _ hb with ⟨m1, _⟩ | ⟨g', arr, xs, m1, m2, m3, m4, hzz⟩ | ⟨g', es, ck, xs, m1, m2, m3, m4, m5⟩
 ·rw [g1] at m1; cases m1
 ·exact absurd hzz (Nat.lt_irrefl _)
 ·rw [g1] at m1; cases m1
  have hx5 := on_ m4
  have hce := r9_ (by rw [← hx5, m5]; rfl)
  have hc1 : ∀ es', (Instr.checkKey es' 10000 kt (a.eval y)).run E.P w = .ok () w := fun es' => by rw [h2]; exact Go.MapKept.run_checkKey hkt (by simp [Go.MapKept.IsKey]) es' 9999
  have fin : ∀ (es' : Array MapEntry) (ck' : Nat), (execOp a.eval o).run E.P w = .ok .skip { w with heap := w.heap.setIfInBounds g (.map es' ck') } → es'.toList.map (fun e => (e.key, e.val)) = (jm_ L k v).map mC →
    ∃ x w' φ', ((execOp a.eval o).run E.P w = .ok (.value x) w' ∨ ((execOp a.eval o).run E.P w = .ok .skip w' ∧ x = undef)) ∧ RelAt E C φ' ⟨s'.σ, (l0_ l ⟨T, 0, mR L⟩ L k v).mem s'.m, (l0_ l ⟨T, 0, mR L⟩ L k v).use s'.u⟩ a w' ∧ VR φ' (C.S φ' ((l0_ l ⟨T, 0, mR L⟩ L k v).mem s'.m)) w' (l0_ l ⟨T, 0, mR L⟩ L k v).v x := fun es' ck' hrun hes => by
   obtain ⟨q1, q2⟩ := Go.MapKept.heap_set (o' := Obj.map es' ck') m2
   have hwr := hr.writeM (w' := { w with heap := w.heap.setIfInBounds g (.map es' ck') }) hb g1 m2 rfl q1 q2 (by simp) ⟨rfl, rfl, rfl⟩ (wt_ (jm_ L k v)) (o2_ hes).symm
   refine ⟨undef, _, φ, .inr ⟨hrun, rfl⟩, ?_, by simp only [l0_, VR]⟩
   have q3 : (l0_ l ⟨T, 0, mR L⟩ L k v).mem s'.m = upd s'.m l (some ⟨T, 0, mR (jm_ L k v)⟩) := by simp [l0_, Eff.mem]
   have q4 : (l0_ l ⟨T, 0, mR L⟩ L k v).use s'.u = s'.u := by funext y; simp [l0_, Eff.use]
   rw [q3, q4]
   exact hwr
  rcases mf_ (k := k) 0 hce with ⟨r1, r2, r3⟩ | ⟨j, b, r1, r2, r3, r4⟩
  ·refine fin (es.push { key := .int .i64 k, val := .int .i64 v, born := ck }) (ck + 1) ?_ (by rw [r3]; simp [hce, mC])
   simp [execOp, ho, Instr.mapUpdate, run_underlying ht, g2, Go.MapKept.run_getObj_map m2, hc1, h2, h3, Go.MapKept.run_findKey hkt r2, Go.MapKept.run_setObj_map _ m2, Go.MapKept.run_checkKey hkt (show Go.MapKept.IsKey (.int .i64) (.int .i64 k) by simp [Go.MapKept.IsKey])]
  ·have hj : j < es.size := by
    have h9 := (List.getElem?_eq_some_iff.1 r3).1
    have h8 := congrArg List.length hce
    simp at h8; omega
   have hjk : es[j].key = .int .i64 k := by
    have h8 := congrArg (fun l => l[j]?) hce
    simp only [List.getElem?_map, r3, Option.map_some, mC, Array.getElem?_toList, Array.getElem?_eq_getElem hj] at h8
    simpa using congrArg Prod.fst (Option.some.inj h8)
   refine fin (es.modify j fun e => { e with key := .int .i64 k, val := .int .i64 v }) ck ?_ ?_
   ·simp [execOp, ho, Instr.mapUpdate, run_underlying ht, g2, Go.MapKept.run_getObj_map m2, hc1, h2, h3, Go.MapKept.run_findKey hkt r2, Go.MapKept.run_setObj_map _ m2, Go.MapKept.run_checkKey hkt (show Go.MapKept.IsKey (.int .i64) (.int .i64 k) by simp [Go.MapKept.IsKey]), Array.getElem?_eq_getElem hj, hjk, Go.MapKept.run_keyThatStays (d := .int .i64) (k := .int .i64 k) (by simp [Go.MapKept.IsKey])]
   ·rw [r4, List.map_set, ← hce]
    apply List.ext_getElem?
    intro i
    simp only [List.getElem?_map, Array.getElem?_toList, Array.getElem?_modify, List.getElem?_set, List.length_map, Array.length_toList, mC]
    by_cases hij : j = i
    ·subst hij; simp [hj]
    ·simp [hij]
theorem ad1_ {t kt et : TypeId} {x y : Operand} {l T : Nat} {L : List (Int × Int)} {k v : Int} (hp : PC E o s) (ho : o.op = .lookup t x y false) (ht : E.P.underlying t = some (.map kt et)) (hkt : E.P.underlying kt = some (.int .i64))
  (hx : s.pv E x = .pt l 0 0 0) (hy : s.pv E y = .i .i64 k) (hm : s.m l = some ⟨T, 0, mR L⟩) (hv : it_ L k = some v) : Op1 E o s { v := .i .i64 v, rd := [l] } := by
 refine Op1.pure' hp fun φ S w ρ hr hmm => ?_
 have h1 := hr x (by simp [ho, Op.operands])
 have h2 := hr y (by simp [ho, Op.operands])
 rw [hx] at h1; rw [hy] at h2
 simp only [VR] at h1 h2
 obtain ⟨g, g1, g2⟩ := h1
 rw [ts_] at g2
 rcases hmm l (by simp) _ hm with ⟨m1, _⟩ | ⟨g', arr, xs, m1, m2, m3, m4, hzz⟩ | ⟨g', es, ck, xs, m1, m2, m3, m4, m5⟩
 ·rw [g1] at m1; cases m1
 ·exact absurd hzz (Nat.lt_irrefl _)
 ·rw [g1] at m1; cases m1
  have hx5 := on_ m4
  have hce := r9_ (by rw [← hx5, m5]; rfl)
  rcases mf_ (k := k) 0 hce with ⟨r1, r2, r3⟩ | ⟨j, b, r1, r2, r3, r4⟩
  ·rw [hv] at r1; cases r1
  ·rw [hv] at r1; cases r1
   refine ⟨.int .i64 v, ?_, by simp only [VR]⟩
   simp [execOp, ho, Instr.lookup, run_underlying ht, g2, Go.MapKept.run_getObj_map m2, h2, Go.MapKept.run_findKey hkt r2, Go.MapKept.run_checkKey hkt (show Go.MapKept.IsKey (.int .i64) (.int .i64 k) by simp [Go.MapKept.IsKey])]
def agt_ (E : Env) (l : Nat) : CallC E where
 ef := fun _ _ => y1_ l 0
 ob := fun o _ => match o.op with | .makeMap _ none => True | _ => False
 ok := fun o s h => by
  obtain ⟨dst, op, ty, pos, after, guard⟩ := o
  split at h
  ·rename_i t ho
   dsimp only at ho
   subst ho
   exact afh_ rfl
  ·exact h.elim
def agd_ (E : Env) (l : Nat) (L : List (Int × Int)) (t kt et : TypeId) (k v : Int) (ht : E.P.underlying t = some (.map kt et)) (hkt : E.P.underlying kt = some (.int .i64)) : CallC E where
 ef := fun _ _ => l0_ l ⟨0, 0, mR L⟩ L k v
 ob := fun o s => pcB E o s = true ∧ match o.op with | .mapUpdate t' x y z => t' = t ∧ s.pv E x = .pt l 0 0 0 ∧ s.pv E y = .i .i64 k ∧ s.pv E z = .i .i64 v ∧ s.m l = some ⟨0, 0, mR L⟩ | _ => False
 ok := fun o s ⟨h1, h2⟩ => by
  obtain ⟨dst, op, ty, pos, after, guard⟩ := o
  split at h2
  ·rename_i t1 x y z ho
   dsimp only at ho
   subst ho
   obtain ⟨rfl, h3, h4, h5, h6⟩ := h2
   exact adk_ (b9_ h1) rfl ht hkt h3 h4 h5 h6
  ·exact h2.elim
def agi_ (E : Env) (l : Nat) (L : List (Int × Int)) (t kt et : TypeId) (k v : Int) (ht : E.P.underlying t = some (.map kt et)) (hkt : E.P.underlying kt = some (.int .i64)) : CallC E where
 ef := fun _ _ => { v := .i .i64 v, rd := [l] }
 ob := fun o s => pcB E o s = true ∧ it_ L k = some v ∧ match o.op with | .lookup t' x y false => t' = t ∧ s.pv E x = .pt l 0 0 0 ∧ s.pv E y = .i .i64 k ∧ s.m l = some ⟨0, 0, mR L⟩ | _ => False
 ok := fun o s ⟨h1, hv, h2⟩ => by
  obtain ⟨dst, op, ty, pos, after, guard⟩ := o
  split at h2
  ·rename_i t1 x y ho
   dsimp only at ho
   subst ho
   obtain ⟨rfl, h3, h4, h6⟩ := h2
   exact ad1_ (b9_ h1) rfl ht hkt h3 h4 h6 hv
  ·exact h2.elim
end
end
section
open Go.RowKit
theorem ACall.frz1 {E : Env} {f : FuncId} {vs rs rs' : List V} {b : Blk} (A : ACall E f vs [] rs [b]) (h : f7_ 0 b.z b.rows rs = rs') : ACall E f vs [] rs' [] := by
 refine ⟨A.1, fun φ S w args hp => (A.2 φ S w args hp).mono fun e w' ⟨xs, φr, he, P⟩ => ⟨xs, φr, he, ?_⟩⟩
 have hb : MR φr (SOf φr S w [b]) w' 0 b := P.mem 0 b rfl
 have hsub : ∀ g, SOf φr S w [b] g → SOf φr S w [] g := fun g hg => ⟨hg.1, fun i c hc => by simp [kd_] at hc⟩
 have hk : KeepsW φr φr (SOf φr S w [b]) (SOf φr S w []) w' w' := ⟨fun _ _ h => h, fun g hg _ => ⟨hsub g hg, rfl⟩, Nat.le_refl _, fun _ _ h => h⟩
 have F : FrzOk φr (SOf φr S w [b]) (SOf φr S w []) w' 0 b.z b.rows := ⟨hsub, ⟨b.T, hb.keep hk fun _ _ => rfl⟩, fun g hg => ⟨⟨.inr (P.new 0 g (Nat.le_refl _) hg), fun i c hc => by simp [kd_] at hc⟩, hb.lt hg⟩⟩
 refine ⟨fun i hi => by simp at hi, ?_, fun i c hc => by simp at hc, fun i g hi hg => P.new i g hi hg, fun i j g hi => by simp at hi, P.frame⟩
 rw [← h]; exact VRs.frz F P.res
end
section
open Go.RowKit
theorem ACall.frzL {E : Env} {f : FuncId} {vs rs rs' : List V} {L0 Lr : List Blk} {b : Blk} (A : ACall E f vs L0 rs (Lr ++ [b])) (h0 : L0.length ≤ Lr.length) (h : f7_ Lr.length b.z b.rows rs = rs') : ACall E f vs L0 rs' Lr := by
 refine ⟨A.1, fun φ S w args hp => (A.2 φ S w args hp).mono fun e w' ⟨xs, φr, he, P⟩ => ⟨xs, φr, he, ?_⟩⟩
 have hlast : (Lr ++ [b])[Lr.length]? = some b := by simp
 have hin : ∀ i c, Lr[i]? = some c → (Lr ++ [b])[i]? = some c := fun i c hc => by
  rw [List.getElem?_append_left (List.getElem?_eq_some_iff.1 hc).1]; exact hc
 have hb : MR φr (SOf φr S w (Lr ++ [b])) w' Lr.length b := P.mem _ b hlast
 have hsub : ∀ g, SOf φr S w (Lr ++ [b]) g → SOf φr S w Lr g := fun g hg => ⟨hg.1, fun i c hc => hg.2 i c (hin i c hc)⟩
 have hk : KeepsW φr φr (SOf φr S w (Lr ++ [b])) (SOf φr S w Lr) w' w' := ⟨fun _ _ h => h, fun g hg _ => ⟨hsub g hg, rfl⟩, Nat.le_refl _, fun _ _ h => h⟩
 have F : FrzOk φr (SOf φr S w (Lr ++ [b])) (SOf φr S w Lr) w' Lr.length b.z b.rows := by
  refine ⟨hsub, ⟨b.T, hb.keep hk fun _ _ => rfl⟩, fun g hg => ⟨⟨.inr (P.new _ g h0 hg), fun i c hc hi => ?_⟩, hb.lt hg⟩⟩
  have hi2 := (List.getElem?_eq_some_iff.1 hc).1
  have := P.inj i Lr.length g (by simp; omega) (by simp) hi hg
  omega
 refine ⟨P.same, ?_, fun i c hc => (P.mem i c (hin i c hc)).keep hk fun _ _ => rfl, P.new, fun i j g hi hj h1 h2 => P.inj i j g (by simp; omega) (by simp; omega) h1 h2, P.frame⟩
 rw [← h]; exact VRs.frz F P.res
def asO (E : Env) (e : Eff) : CallC E where
 ef := fun _ _ => e
 ob := fun o s => obO E o s ∧ evO E o s = e
 ok := fun o s ⟨h1, h2⟩ => h2 ▸ aaq_ h1
end
section
open Go.RowKit
end
section
open Go.RowKit
section
variable {E : Env} {C : Cx} {φ : Phi} {s : St} {o : Oper}
end
end
section
open Go.RowKit
/-! ### lent in depth -/
mutual
def LD (m : Mem) : V → V → Prop
 | v, .sl t r' => leV v (.sl t r') ∨ (t = false ∧ ∃ l z n b, v = .ow l z 0 n ∧ m l = some b ∧ b.z = z ∧ n = b.rows.length ∧ LDr m b.rows r')
 | v, .ag cs' => ∃ cs, v = .ag cs ∧ LDs m cs cs'
 | v, v' => leV v v'
def LDs (m : Mem) : List V → List V → Prop
 | vs, [] => vs = []
 | vs, v' :: r' => ∃ v r, vs = v :: r ∧ LD m v v' ∧ LDs m r r'
def LDr (m : Mem) : List (List V) → List (List V) → Prop
 | rs, [] => rs = []
 | rs, q' :: r' => ∃ q r, rs = q :: r ∧ LDs m q q' ∧ LDr m r r'
end
theorem LDs.nil {m : Mem} : LDs m [] [] := by simp only [LDs]
theorem LDs.cons {m : Mem} {v v' : V} {r r' : List V} (h : LD m v v') (k : LDs m r r') : LDs m (v :: r) (v' :: r') := by simp only [LDs]; exact ⟨v, r, rfl, h, k⟩
theorem LDr.nil {m : Mem} : LDr m [] [] := by simp only [LDr]
theorem LDr.cons {m : Mem} {q q' : List V} {r r' : List (List V)} (h : LDs m q q') (k : LDr m r r') : LDr m (q :: r) (q' :: r') := by simp only [LDr]; exact ⟨q, r, rfl, h, k⟩
theorem LD.ow {m : Mem} {l z n : Nat} {b : Blk} {r' : List (List V)} (h : m l = some b) (hz : b.z = z) (hn : n = b.rows.length) (k : LDr m b.rows r') : LD m (.ow l z 0 n) (.sl false r') := by
 simp only [LD]; exact .inr ⟨trivial, l, z, n, b, rfl, h, hz, hn, k⟩
theorem LD.ag {m : Mem} {cs cs' : List V} (h : LDs m cs cs') : LD m (.ag cs) (.ag cs') := by simp only [LD]; exact ⟨cs, rfl, h⟩
theorem LDs.len {m : Mem} : ∀ {vs vs' : List V}, LDs m vs vs' → vs.length = vs'.length
 | vs, [], h => by simp only [LDs] at h; subst h; rfl
 | vs, v' :: r', h => by
  simp only [LDs] at h
  obtain ⟨v, r, rfl, _, k⟩ := h
  simp [k.len]
theorem LDr.len {m : Mem} : ∀ {vs vs' : List (List V)}, LDr m vs vs' → vs.length = vs'.length
 | vs, [], h => by simp only [LDr] at h; subst h; rfl
 | vs, v' :: r', h => by
  simp only [LDr] at h
  obtain ⟨v, r, rfl, _, k⟩ := h
  simp [k.len]
section
variable {φ : Phi} {S : Nat → Prop} {w : World} {m : Mem}
theorem VR.up {v : V} {x : Value} (h : VR φ S w v x) : VR φ (fun _ => True) w v x :=
 h.keep ⟨fun _ _ h => h, fun _ _ _ => ⟨trivial, rfl⟩, Nat.le_refl _, fun _ _ h => h⟩
theorem VR.ld1 (hm : ∀ l b, m l = some b → MR φ S w l b) {v : V} {t : Bool} {r' : List (List V)} {x : Value}
  (ih : ∀ (rs : List (List V)) (z : Nat) (xs : List Value), LDr m rs r' → VRr φ S w z rs xs → VRr φ (fun _ => True) w z r' xs) (h : LD m v (.sl t r')) (hv : VR φ S w v x) : VR φ (fun _ => True) w (.sl t r') x := by
 simp only [LD] at h
 rcases h with h | ⟨rfl, l, z, n, b, rfl, hb, rfl, rfl, hr⟩
 ·exact (hv.le h).up
 ·have hlen : ((b.rows.drop 0).take b.rows.length) = b.rows := by simp
  obtain ⟨A, c, z', xs, e1, e2, e3, e4, e5, e6, _⟩ := h5_ (m := m) (rows := b.rows) hv (by simp only [mx_, hb, true_and, Nat.zero_add, Nat.le_refl, if_true, hlen]) (fun l2 _ b2 hb2 => hm l2 b2 hb2)
  have hl := hr.len
  simp only [VR]
  refine ⟨A, c, z', xs, by rw [e1, hl], by rw [← hl]; exact e2, e3, (fun h => by cases h), fun hne => ?_, ih _ _ _ hr e4⟩
  obtain ⟨g, q, f1, f2⟩ := e6 hne
  have hlt : g < w.heap.size := by
   cases xs with
   | nil => exact absurd rfl hne
   | cons u us => exact World.block_lt_of_cell? w _ (f2 0 u (by simp))
  exact ⟨g, q, f1, trivial, hlt, f2⟩
mutual
theorem VR.ld (hm : ∀ l b, m l = some b → MR φ S w l b) : ∀ {v' v : V} {x : Value}, LD m v v' → VR φ S w v x → VR φ (fun _ => True) w v' x
 | .sl t r', v, x, h, hv => VR.ld1 hm (fun rs z xs => VRr.ld hm) h hv
 | .ag cs', v, x, h, hv => by
  simp only [LD] at h
  obtain ⟨cs, rfl, h⟩ := h
  simp only [VR] at hv ⊢
  obtain ⟨xs, h1, h2⟩ := hv
  exact ⟨xs, h1, VRs.ld hm h h2⟩
 | .i _ _, v, x, h, hv | .b _, v, x, h, hv | .s _, v, x, h, hv | .ow _ _ _ _, v, x, h, hv | .pt _ _ _ _, v, x, h, hv | .rp _, v, x, h, hv | .np, v, x, h, hv | .q _, v, x, h, hv | .fn _ _ _, v, x, h, hv | .tu _, v, x, h, hv | .gd _ _, v, x, h, hv => by
  simp only [LD] at h; exact (hv.le h).up
 | .no, _, _, _, _ => by simp only [VR]
theorem VRs.ld (hm : ∀ l b, m l = some b → MR φ S w l b) : ∀ {vs' vs : List V} {xs : List Value}, LDs m vs vs' → VRs φ S w vs xs → VRs φ (fun _ => True) w vs' xs
 | [], vs, xs, h, hv => by simp only [LDs] at h; subst h; simpa only [VRs] using hv
 | v' :: r', vs, xs, h, hv => by
  simp only [LDs] at h
  obtain ⟨v, r, rfl, h1, h2⟩ := h
  simp only [VRs] at hv
  obtain ⟨x, q, rfl, k1, k2⟩ := hv
  exact .cons (VR.ld hm h1 k1) (VRs.ld hm h2 k2)
theorem VRr.ld (hm : ∀ l b, m l = some b → MR φ S w l b) : ∀ {rs' rs : List (List V)} {z : Nat} {xs : List Value}, LDr m rs rs' → VRr φ S w z rs xs → VRr φ (fun _ => True) w z rs' xs
 | [], rs, z, xs, h, hv => by simp only [LDr] at h; subst h; simpa only [VRr] using hv
 | q' :: r', rs, z, xs, h, hv => by
  simp only [LDr] at h
  obtain ⟨q, r, rfl, h1, h2⟩ := h
  simp only [VRr] at hv
  obtain ⟨ys, zs, rfl, k1, k2, k3, k4⟩ := hv
  exact .cons (h1.len.symm.trans k1) (VRs.ld hm h1 k2) k3 (VRr.ld hm h2 k4)
end
end
/-! ### results of one's own: nothing in them is read elsewhere -/
mutual
def V.own : V → Bool
 | .i _ _ | .b _ | .s _ | .np | .no | .q _ | .ow _ _ _ _ => true
 | .ag cs | .tu cs => jx_ cs
 | .gd _ v => V.own v
 | _ => false
def jx_ : List V → Bool
 | [] => true
 | v :: r => V.own v && jx_ r
end
def pl_ (l : List (List V)) : Bool := l.all jx_
mutual
theorem VR.ofOwn {φ : Phi} {S S' : Nat → Prop} {w : World} : ∀ {v : V} {x : Value}, v.own = true → VR φ S w v x → VR φ S' w v x
 | .i _ _, _, _, h | .b _, _, _, h | .s _, _, _, h | .np, _, _, h | .q _, _, _, h | .ow _ _ _ _, _, _, h => by simp only [VR] at h ⊢; exact h
 | .no, _, _, _ => by simp only [VR]
 | .ag cs, x, hf, h => by
  simp only [V.own] at hf
  simp only [VR] at h ⊢
  obtain ⟨xs, h1, h2⟩ := h
  exact ⟨xs, h1, VRs.ofOwn hf h2⟩
 | .tu cs, x, hf, h => by
  simp only [V.own] at hf
  simp only [VR] at h ⊢
  obtain ⟨xs, h1, h2⟩ := h
  exact ⟨xs, h1, VRs.ofOwn hf h2⟩
 | .gd c v, x, hf, h => by
  simp only [V.own] at hf
  simp only [VR] at h ⊢
  exact ⟨fun hc => VR.ofOwn hf (h.1 hc), h.2⟩
 | .sl _ _, _, hf, _ | .pt _ _ _ _, _, hf, _ | .rp _, _, hf, _ | .fn _ _ _, _, hf, _ => by simp [V.own] at hf
theorem VRs.ofOwn {φ : Phi} {S S' : Nat → Prop} {w : World} : ∀ {vs : List V} {xs : List Value}, jx_ vs = true → VRs φ S w vs xs → VRs φ S' w vs xs
 | [], _, _, h => by simp only [VRs] at h ⊢; exact h
 | v :: vs, xs, hf, h => by
  simp only [jx_, Bool.and_eq_true] at hf
  simp only [VRs] at h ⊢
  obtain ⟨x, r, h1, h2, h3⟩ := h
  exact ⟨x, r, h1, VR.ofOwn hf.1 h2, VRs.ofOwn hf.2 h3⟩
end
theorem VRr.ofOwn {φ : Phi} {S S' : Nat → Prop} {w : World} {z : Nat} : ∀ {rs : List (List V)} {xs : List Value}, pl_ rs = true → VRr φ S w z rs xs → VRr φ S' w z rs xs
 | [], _, _, h => by simp only [VRr] at h ⊢; exact h
 | r :: rs, xs, hf, h => by
  simp only [pl_, List.all_cons, Bool.and_eq_true] at hf
  simp only [VRr] at h ⊢
  obtain ⟨ys, zs, h1, h2, h3, h4, h5⟩ := h
  exact ⟨ys, zs, h1, h2, VRs.ofOwn hf.1 h3, h4, VRr.ofOwn (by unfold pl_; exact hf.2) h5⟩
theorem MR.ofOwn {φ : Phi} {S S' : Nat → Prop} {w : World} {l : Nat} {b : Blk} (hf : pl_ b.rows = true) (h : MR φ S w l b) : MR φ S' w l b := by
 rcases h with h | ⟨g, arr, xs, h1, h2, h3, h4, hzz⟩ | ⟨g, es, ck, xs, h1, h2, h3, h4, h5⟩
 ·exact .inl h
 ·exact .inr (.inl ⟨g, arr, xs, h1, h2, VRr.ofOwn hf h3, h4, hzz⟩)
 ·exact .inr (.inr ⟨g, es, ck, xs, h1, h2, h3, VRr.ofOwn hf h4, h5⟩)
def pj_ (D : List Nat) (m : Mem) : Mem := fun l => if l ∈ D then m l else none
theorem afp_ {D : List Nat} {m : Mem} {l : Nat} (h : l ∈ D) : pj_ D m l = m l := by simp [pj_, h]
section
variable {E : Env} {s : St} {o : Oper}
theorem abc_ {fo : Operand} {as : Array Operand} {ts : Array TypeId} {f : FuncId} {first caps vs rs : List V} {Lr : List Blk} (D x : List Nat) (hp : PC E o s) (ho : o.op = .call { callee := .value fo, args := as, argTypes := ts }) (hf : s.pv E fo = .fn (.func f) first caps)
  (hA : ACall E f vs [] rs Lr) (hargs : LDs (pj_ D s.m) (first ++ as.toList.map (s.pv E) ++ caps) vs) (hv : cls 0 vs = true) (hlr : x.length = Lr.length) (hnd : x.Nodup) (hcl : cls x.length rs = true) (hclr : ∀ b ∈ Lr, clr x.length b.rows = true) (ho1 : jx_ rs = true) (ho2 : ∀ b ∈ Lr, pl_ b.rows = true) :
  Op1 E o s { ed_ [] x rs Lr with rd := D } := by
 have of : fo ∈ o.op.operands := by simp [ho, Op.operands, Call.operands]
 have oa : ∀ x ∈ as.toList, x ∈ o.op.operands := fun x hx => by simp [ho, Op.operands, Call.operands]; exact .inr (Array.mem_toList_iff.1 hx)
 intro s' e1 e2 e3 C φ a w hr K Q hK
 have rd : ∀ x ∈ o.op.operands, VR φ (C.S φ s'.m) w (s.pv E x) (a.eval x) := fun x hx => by
  have e := e1 x hx
  have := hr.pv (x := x) (by rw [e]; exact hp x hx)
  unfold St.pv at this ⊢
  rwa [e] at this
 have hfv := rd fo of
 rw [hf] at hfv
 simp only [VR] at hfv
 obtain ⟨fa, ca, hfe, hfa, hca⟩ := hfv
 have hrun := ov_ (E := E) (w := w) ho hfe hA.1
 have hvs := (hfa.append (VRs.map (s.pv E) a.eval as.toList fun x hx => rd x (oa x hx))).append hca
 have hvs' := VRs.ld (m := pj_ D s.m) (fun l b hb => by
  unfold pj_ at hb
  split at hb
  ·rename_i hl; exact hr.mem l b (by rw [e2 l hl]; exact hb)
  ·cases hb) hargs hvs
 have hpr : Pre E (fun _ => none) (fun _ => True) w vs [] (fa ++ as.map a.eval ++ ca) := by
  refine ⟨?_, fun i b hb => by simp at hb, fun i j g hi => by simp at hi, fun g _ i b hb => by simp [kd_] at hb, fun g cs hg => ?_, fun l hl => absurd rfl hl, ?_⟩
  ·have h1 := (VRs.rn (η := []) (ψ := φ) (φ := φ) (S := fun _ => True) (w := w) (fun i hi => by simp at hi) (by simpa using hv)).1 (by simpa using hvs')
   exact (VRs.rn (η := []) (ψ := fun _ => none) (φ := φ) (S := fun _ => True) (w := w) (fun i hi => by simp at hi) (by simpa using hv)).2 (by simpa using h1)
  ·exact (hr.glob g cs hg).keep (φ' := fun _ => none) ⟨fun _ _ h => h, fun _ _ _ => ⟨trivial, rfl⟩, Nat.le_refl _, fun _ _ h => h⟩
  ·obtain ⟨B, b1, b2, b3⟩ := hr.lad
   exact ⟨B, hr.ladW b1 b2 b3, Nat.le_trans b2 hr.frame.size, fun i g hg => by cases hg⟩
 unfold Oper.wp
 rw [hrun]
 refine (hA.2 _ _ _ _ hpr).mono fun en w' hen => ?_
 obtain ⟨xs, φr, rfl, hpost⟩ := hen
 have hpost' : Post (d3_ [] φ) (C.S φ s'.m) w [] rs Lr φr xs w' :=
  ⟨fun i hi => by simp at hi, VRs.ofOwn ho1 hpost.res, fun i b hb => MR.ofOwn (ho2 b (List.mem_of_getElem? hb)) (hpost.mem i b hb), hpost.new, hpost.inj, hpost.frame.mono fun g _ ⟨i, hi, _⟩ => by simp at hi⟩
 obtain ⟨φ', r1, r2⟩ := hr.called (η := []) (η' := x) (L0 := []) rfl rfl hlr (Nat.zero_le _) hnd (fun i b hb => by simp at hb) (fun l hl => e3 l hl) hcl hclr hpost'
 exact hK φ' _ _ (r1.put o.dst r2)
def bl_ (E : Env) (f : FuncId) (vs : List V) (D : List Nat) (o : Oper) (s : St) : Prop :=
 match o.op with
 | .call { callee := .value fo, args := as, .. } => match s.pv E fo with
  | .fn (.func f') first caps => f' = f ∧ LDs (pj_ D s.m) (first ++ as.toList.map (s.pv E) ++ caps) vs
  | _ => False
 | _ => False
theorem tw_ {f : FuncId} {vs : List V} {D : List Nat} (h : bl_ E f vs D o s) : ∃ fo as ts first caps, o.op = .call { callee := .value fo, args := as, argTypes := ts } ∧ s.pv E fo = .fn (.func f) first caps ∧ LDs (pj_ D s.m) (first ++ as.toList.map (s.pv E) ++ caps) vs := by
 obtain ⟨dst, op, ty, pos, after, guard⟩ := o
 cases op <;> simp only [bl_] at h
 rename_i c
 obtain ⟨callee, as, ts⟩ := c
 cases callee <;> try exact h.elim
 rename_i fo
 dsimp only at h
 generalize hf : s.pv E fo = vf at h
 cases vf <;> try exact h.elim
 rename_i g first caps
 cases g <;> try exact h.elim
 obtain ⟨rfl, h⟩ := h
 exact ⟨fo, as, ts, first, caps, rfl, hf, h⟩
def e3_ (c : Nat) (bs : List Blk) : List (Nat × Option Blk) := (List.range' c bs.length).zip (bs.map some)
structure SegOk (c : Nat) (rs rs' : List V) (Lr bs : List Blk) : Prop where
 len : bs.length = Lr.length
 map : Lr.map (rnB (List.range' c Lr.length)) = bs
 res : rns (List.range' c Lr.length) rs = rs'
 cl : cls Lr.length rs = true
 clr : ∀ b ∈ Lr, clr Lr.length b.rows = true
def b4_ {f : FuncId} {vs rs rs' : List V} {Lr bs : List Blk} (D : List Nat) (c : Nat) (A : ACall E f vs [] rs Lr) (H : SegOk c rs rs' Lr bs) : CallC E where
 ef := fun _ _ => { v := g5_ rs', wr := e3_ c bs, nw := List.range' c bs.length, rd := D }
 ob := fun o s => pcB E o s = true ∧ bl_ E f vs D o s ∧ cls 0 vs = true ∧ jx_ rs = true ∧ ∀ b ∈ Lr, pl_ b.rows = true
 ok := fun o s ⟨h1, h2, h3, h4, h5⟩ => by
  obtain ⟨fo, as, ts, first, caps, ho, hf, ha⟩ := tw_ h2
  have := abc_ (E := E) (s := s) (o := o) D (List.range' c Lr.length) (b9_ h1) ho hf A ha h3 (by simp) List.nodup_range' (by simpa using H.cl) (by simpa using H.clr) h4 h5
  have e : (ed_ [] (List.range' c Lr.length) rs Lr).wr = e3_ c bs := by
   have e : Lr.map (fun b => some (rnB (List.range' c Lr.length) b)) = bs.map some := by rw [← H.map, List.map_map]; rfl
   simp only [ed_, e3_, H.len, e]
  have e2 : ({ ed_ [] (List.range' c Lr.length) rs Lr with rd := D } : Eff) = { v := g5_ rs', wr := e3_ c bs, nw := List.range' c bs.length, rd := D } := by
   rw [← e]; simp only [ed_, H.res, H.len, List.length_nil, List.drop_zero]
  rw [e2] at this
  exact this
def cd_ {f : FuncId} {vs rs rs' : List V} {L0 Lr bs0 bs : List Blk} (c : Nat) (A : ACall E f vs L0 rs Lr) (H : SegOk c rs rs' Lr bs) (h0 : L0.map (rnB (List.range' c L0.length)) = bs0) (hl : L0.length = Lr.length) : CallC E where
 ef := fun _ _ => { v := g5_ rs', wr := e3_ c bs, nw := [], rd := List.range' c bs.length }
 ob := fun o s => pcB E o s = true ∧ mt_ E f (rns (List.range' c L0.length) vs) o s ∧ (∀ i b, bs0[i]? = some b → s.m (c + i) = some b) ∧ cls L0.length vs = true ∧ ay_ L0.length L0 = true
 ok := fun o s ⟨h1, h2, h3, h4, h5⟩ => by
  obtain ⟨fo, as, ts, first, caps, ho, hf, ha⟩ := kb_ h2
  have := rv_ (E := E) (s := s) (o := o) (List.range' c L0.length) (List.range' c L0.length) (b9_ h1) ho hf A ha (by simp) (by simp) (by simp [hl]) (Nat.le_refl _) List.nodup_range' (fun i b hb => by
   have hi : i < L0.length := (List.getElem?_eq_some_iff.1 hb).1
   have e : (List.range' c L0.length).getD i 0 = c + i := by simp [List.getD_eq_getElem?_getD, List.getElem?_range', hi]
   rw [e]
   exact h3 i _ (by rw [← h0, List.getElem?_map, hb]; rfl)) (by simpa using h4) (by simpa using h2_ h5) (by simpa [hl] using H.cl) (by simpa [hl] using H.clr)
  have e2 : ed_ (List.range' c L0.length) (List.range' c L0.length) rs Lr = { v := g5_ rs', wr := e3_ c bs, nw := [], rd := List.range' c bs.length } := by
   have e : Lr.map (fun b => some (rnB (List.range' c Lr.length) b)) = bs.map some := by rw [← H.map, List.map_map]; rfl
   simp only [ed_, hl, H.res, e3_, H.len, e, List.length_range']
   congr 1
   exact List.drop_of_length_le (by simp)
  rw [e2] at this
  exact this
end
/-! ### many places in a row -/
theorem tq_ : ∀ (k : Nat) (a b : List Blk), bd_ k (a ++ b) = bd_ k a ++ bd_ (k + a.length) b
 | k, [], b => by simp [bd_]
 | k, x :: a, b => by simp only [List.cons_append, bd_, tq_ (k + 1) a b, List.length_cons, show k + 1 + a.length = k + (a.length + 1) by omega]
theorem gr_ : ∀ (L R : List (Nat × Blk)) (x : Nat), aw_ (L ++ R) x = (aw_ L x).or (aw_ R x)
 | [], R, x => by simp [aw_]
 | (l, b) :: L, R, x => by
  simp only [List.cons_append, aw_, gr_ L R x]
  split <;> simp
theorem cb_ (k : Nat) (X : List Blk) (i : Nat) : aw_ (bd_ k X) (k + i) = X[i]? := by rw [le_, if_pos (by omega)]; congr 1; omega
theorem eh_ {k : Nat} {X : List Blk} {x : Nat} (h : x < k ∨ k + X.length ≤ x) : aw_ (bd_ k X) x = none := by
 rw [le_]
 split
 ·exact List.getElem?_eq_none (by omega)
 ·rfl
theorem se_ {l l' : Nat} {b b' : Blk} {L : List (Nat × Blk)} (h : l ≠ l') : f4_ ((l', b') :: L) l b = (l', b') :: f4_ L l b := by simp [f4_, h]
theorem kr_ {k x : Nat} : ∀ (X : List Blk) (R : List (Nat × Blk)) (b : Blk), (x < k ∨ k + X.length ≤ x) → f4_ (bd_ k X ++ R) x b = bd_ k X ++ f4_ R x b
 | [], R, b, _ => by simp [bd_]
 | c :: X, R, b, h => by
  simp only [bd_, List.cons_append]
  rw [se_ (by simp only [List.length_cons] at h; omega), kr_ X R b (by simp only [List.length_cons] at h; omega)]
theorem s4_ {k : Nat} : ∀ (A : List Blk) (o b : Blk) (Z : List Blk) (R : List (Nat × Blk)), f4_ (bd_ k (A ++ o :: Z) ++ R) (k + A.length) b = bd_ k (A ++ b :: Z) ++ R
 | [], o, b, Z, R => by simp [bd_, f4_]
 | a :: A, o, b, Z, R => by
  simp only [List.cons_append, bd_, List.length_cons]
  rw [se_ (by omega), show k + (A.length + 1) = k + 1 + A.length by omega, s4_ A o b Z R]
theorem aah_ {k : Nat} (A : List Blk) (b : Blk) : f4_ (bd_ k A) (k + A.length) b = bd_ k (A ++ [b]) := by
 have := kr_ (k := k) (x := k + A.length) A [] b (.inr (Nat.le_refl _))
 simp only [List.append_nil] at this
 rw [this, tq_]; rfl
theorem mc_ (c : Nat) (b : Blk) (bs : List Blk) : e3_ c (b :: bs) = (c, some b) :: e3_ (c + 1) bs := by simp [e3_, List.range'_succ]
theorem i1_ {l : Nat} {b0 : Blk} : ∀ (bs : List Blk) (c : Nat) (L : List (Nat × Blk)), (l < c ∨ c + bs.length ≤ l) → wrL ((l, b0) :: L) (e3_ c bs) = (l, b0) :: wrL L (e3_ c bs)
 | [], c, L, _ => by simp [e3_, wrL]
 | b :: bs, c, L, h => by
  rw [mc_]
  simp only [wrL]
  rw [se_ (by simp only [List.length_cons] at h; omega), i1_ bs (c + 1) _ (by simp only [List.length_cons] at h; omega)]
theorem ix_ {k : Nat} : ∀ (bs os A Z : List Blk) (R : List (Nat × Blk)), os.length = bs.length → wrL (bd_ k (A ++ os ++ Z) ++ R) (e3_ (k + A.length) bs) = bd_ k (A ++ bs ++ Z) ++ R
 | [], os, A, Z, R, h => by
  obtain rfl := List.length_eq_zero_iff.1 h
  simp [e3_, wrL]
 | b :: bs, [], A, Z, R, h => by simp at h
 | b :: bs, o :: os, A, Z, R, h => by
  rw [mc_]
  simp only [wrL]
  have e : A ++ o :: os ++ Z = A ++ o :: (os ++ Z) := by simp
  rw [e, s4_]
  have e2 : A ++ b :: (os ++ Z) = (A ++ [b]) ++ os ++ Z := by simp
  have e3 : k + A.length + 1 = k + (A ++ [b]).length := by simp; omega
  rw [e2, e3, ix_ bs os (A ++ [b]) Z R (by simpa using h)]
  simp
theorem io_ {k : Nat} : ∀ (bs A : List Blk), wrL (bd_ k A) (e3_ (k + A.length) bs) = bd_ k (A ++ bs)
 | [], A => by simp [e3_, wrL]
 | b :: bs, A => by
  rw [mc_]
  simp only [wrL, aah_]
  have := io_ (k := k) bs (A ++ [b])
  simp only [List.length_append, List.length_singleton, List.append_assoc, List.singleton_append] at this
  rw [← this]; congr 2
theorem bh_ {k : Nat} (bs : List Blk) : wrL [] (e3_ k bs) = bd_ k bs := by
 have := io_ (k := k) bs []
 simpa [bd_] using this
theorem nw_ {L : List (Nat × Blk)} {U : List Nat} : ∀ {X : List Blk} {k : Nat}, (∀ i b, X[i]? = some b → aw_ L (k + i) = some b ∧ us U (k + i) = true ∧ am_ (us U) b.rows = true) → an_ L U (bd_ k X)
 | [], k, _ => by simp [bd_, an_]
 | x :: X, k, h => by
  simp only [bd_, an_]
  refine ⟨(h 0 x rfl).1, (h 0 x rfl).2.1, (h 0 x rfl).2.2, nw_ fun i b hb => ?_⟩
  have := h (i + 1) b (by simpa using hb)
  rwa [show k + (i + 1) = k + 1 + i by omega] at this
end
section
open Go.RowKit
def nmD (h i : Nat) : Nat := if i < h then i else 1000000000 + (i - h)
def ηD (h k : Nat) : List Nat := (List.range k).map (nmD h)
theorem ic_ (h k : Nat) : (ηD h k).length = k := by simp [ηD]
theorem ly_ {h k i : Nat} (hi : i < k) : (ηD h k).getD i 0 = nmD h i := by simp [ηD, List.getD_eq_getElem?_getD, hi]
def iz_ (h : Nat) (L : List Blk) : List (Nat × Blk) := bd_ 0 (L.take h) ++ bd_ 1000000000 (L.drop h)
theorem lk_ {h : Nat} (hh : h ≤ 10) (L : List Blk) (i : Nat) : aw_ (iz_ h L) (nmD h i) = L[i]? := by
 unfold iz_ nmD
 rw [gr_]
 split
 ·rename_i hi
  have h0 := cb_ 0 (L.take h) i
  rw [Nat.zero_add] at h0
  rw [h0, List.getElem?_take_of_lt hi, eh_ (by omega)]
  simp
 ·rename_i hi
  rw [eh_ (by rw [List.length_take]; omega), cb_, List.getElem?_drop]
  simp only [Option.none_or]
  congr 1; omega
theorem zj_ {h : Nat} (hh : h ≤ 10) {L : List Blk} {x : Nat} {b : Blk} (hb : aw_ (iz_ h L) x = some b) : ∃ i, x = nmD h i ∧ L[i]? = some b := by
 have hcase : x < h ∨ 1000000000 ≤ x ∨ (h ≤ x ∧ x < 1000000000) := by omega
 rcases hcase with h1 | h1 | ⟨h1, h2⟩
 ·refine ⟨x, by simp [nmD, h1], ?_⟩
  have := lk_ hh L x
  rw [show nmD h x = x by simp [nmD, h1]] at this
  rw [← this, hb]
 ·have e : nmD h (x - 1000000000 + h) = x := by unfold nmD; rw [if_neg (by omega)]; omega
  refine ⟨x - 1000000000 + h, e.symm, ?_⟩
  have := lk_ hh L (x - 1000000000 + h)
  rw [e] at this
  rw [← this, hb]
 ·exfalso
  unfold iz_ at hb
  rw [gr_, eh_ (by rw [List.length_take]; omega), eh_ (by omega)] at hb
  cases hb
section
variable {E : Env}
theorem pn_ {f : FuncId} {fn : Func} {c : Code} {vs rs vs' rs' : List V} {L0 Lr L0' Lr' : List Blk} (h : Nat) (hh : h ≤ 10) (hf : E.P.funcs[f]? = some fn) (hb : fn.body = some c) (hname : (fn.name == "runtime.NumGoroutine") = false)
  (hlen : Lr.length = L0.length) (hcv : cls L0.length vs = true) (hc0 : ∀ b ∈ L0, clr L0.length b.rows = true) (hcr : cls L0.length rs = true) (hcL : ∀ b ∈ Lr, clr L0.length b.rows = true)
  (e1 : rns (ηD h L0.length) vs = vs') (e2 : L0.map (rnB (ηD h L0.length)) = L0') (e3 : rns (ηD h L0.length) rs = rs') (e4 : Lr.map (rnB (ηD h L0.length)) = Lr')
  (H : ∀ C, AWp E C c (fun e s => (e = .normal ∨ e = .ret) ∧ aq_ E.P s fn.results.toList ∧ les (fn.results.toList.map (a7_ E.P s)) rs' ∧ ∀ i b, Lr'[i]? = some b → s.m (nmD h i) = some b) ⟨vs' ++ List.replicate (fn.ntmps - vs'.length) .no, aw_ (iz_ h L0'), us []⟩) : ACall E f vs L0 rs Lr := by
 subst e1 e2 e3 e4
 refine ⟨fun args w => ?_, fun φ S w args hp => ?_⟩
 ·simp [callFunc, hf, hb]
  simpa using hname
 ·let φD : Phi := fun x => if x < h then φ x else if 1000000000 ≤ x then φ (x - 1000000000 + h) else none
  have hφD : ∀ i, φD (nmD h i) = φ i := fun i => by
   by_cases hi : i < h
   ·simp only [φD, nmD, hi, if_true]
   ·have h1 : ¬ (1000000000 + (i - h) < h) := by omega
    have h2 : 1000000000 ≤ 1000000000 + (i - h) := by omega
    simp only [φD, nmD, hi, if_false, h1, h2, if_true]
    congr 1; omega
  have hφ0 : ∀ x y, φD x = some y → ∃ i, x = nmD h i ∧ i < L0.length ∧ φ i = some y := fun x y hx => by
   simp only [φD] at hx
   split at hx
   ·rename_i hi
    exact ⟨x, by simp [nmD, hi], hp.low x (by rw [hx]; simp), hx⟩
   ·split at hx
    ·rename_i h1 h2
     refine ⟨x - 1000000000 + h, ?_, hp.low _ (by rw [hx]; simp), hx⟩
     unfold nmD; rw [if_neg (by omega)]; omega
    ·cases hx
  have hη : ∀ i, i < (ηD h L0.length).length → φ i = φD ((ηD h L0.length).getD i 0) := fun i hi => by
   rw [ic_] at hi
   rw [ly_ hi, hφD]
  have hmap : ∀ i b, (L0.map (rnB (ηD h L0.length)))[i]? = some b → ∃ c, L0[i]? = some c ∧ b = rnB (ηD h L0.length) c := fun i b hb => by
   rw [List.getElem?_map] at hb
   obtain ⟨c, h1, h2⟩ := Option.map_eq_some_iff.1 hb
   exact ⟨c, h1, h2.symm⟩
  have hmem : ∀ x b, aw_ (iz_ h (L0.map (rnB (ηD h L0.length)))) x = some b → ∃ i c, x = nmD h i ∧ L0[i]? = some c ∧ b = rnB (ηD h L0.length) c := fun x b hb => by
   obtain ⟨i, h1, h2⟩ := zj_ hh hb
   obtain ⟨c, h3, h4⟩ := hmap i b h2
   exact ⟨i, c, h1, h3, h4⟩
  have hmemI : ∀ i c, L0[i]? = some c → aw_ (iz_ h (L0.map (rnB (ηD h L0.length)))) (nmD h i) = some (rnB (ηD h L0.length) c) := fun i c hc => by
   rw [lk_ hh, List.getElem?_map, hc]; rfl
  have hFree : ∀ g, l1_ φD (aw_ (iz_ h (L0.map (rnB (ηD h L0.length))))) g ↔ l1_ φ (kd_ L0) g := fun g => by
   refine ⟨fun hg i b hb h1 => hg _ _ (hmemI i b hb) (by rw [hφD]; exact h1), fun hg x b hb h1 => ?_⟩
   obtain ⟨i, c, rfl, hc, _⟩ := hmem x b hb
   rw [hφD] at h1
   exact hg i c hc h1
  let C : Cx := ⟨w, φD, fun g => S g ∨ uo_ φ L0 g, uo_ φ L0, fun l hl => by
   cases hx : φD l with
   | none => exact absurd hx hl
   | some y =>
    obtain ⟨i, rfl, _, _⟩ := hφ0 l y hx
    have h9 : nmD h i < 10 ∨ 1000000000 ≤ nmD h i := by unfold nmD; by_cases hi : i < h <;> simp [hi] <;> omega
    simpa only [my_, Bool.or_eq_true, decide_eq_true_eq] using h9, fun g hg => .inr hg⟩
  have hS : C.S φD (aw_ (iz_ h (L0.map (rnB (ηD h L0.length))))) = fun g => (S g ∨ w.heap.size ≤ g) ∧ l1_ φ (kd_ L0) g := by
   funext g
   simp only [Cx.S, C, hFree, eq_iff_iff]
   refine ⟨fun ⟨h1, h2⟩ => ⟨?_, h2⟩, fun ⟨h1, h2⟩ => ⟨?_, h2⟩⟩
   ·rcases h1 with (h1 | ⟨i, hi, h1⟩) | h1
    ·exact .inl h1
    ·exact absurd h1 (h2 i L0[i] (List.getElem?_eq_getElem hi))
    ·exact .inr h1
   ·rcases h1 with h1 | h1
    ·exact .inl (.inl h1)
    ·exact .inr h1
  have hkeep : ∀ ψ : Phi, KeepsW ψ ψ S (C.S φD (aw_ (iz_ h (L0.map (rnB (ηD h L0.length)))))) w w := fun ψ => ⟨fun _ _ h => h, fun g hg _ => ⟨by rw [hS]; exact ⟨.inl hg, hp.free g hg⟩, rfl⟩, Nat.le_refl _, fun _ _ h => h⟩
  have hargs : VRs φD S w (rns (ηD h L0.length) vs) args.toList := (VRs.rn hη (by rw [ic_]; exact hcv)).1 hp.args
  have hlen' : args.size = (rns (ηD h L0.length) vs).length := by rw [← hargs.len]; simp
  have nos : ∀ n, VRs φD (C.S φD (aw_ (iz_ h (L0.map (rnB (ηD h L0.length)))))) w (List.replicate n V.no) (List.replicate n undef) := fun n => by
   induction n with
   | zero => exact .nil
   | succ n ih => exact .cons (by simp only [VR]) ih
  have hr : RelAt E C φD ⟨rns (ηD h L0.length) vs ++ List.replicate (fn.ntmps - (rns (ηD h L0.length) vs).length) .no, aw_ (iz_ h (L0.map (rnB (ηD h L0.length)))), us []⟩ { tmps := args ++ Array.replicate (fn.ntmps - args.size) undef, defers := [] } w := by
   refine ⟨rfl, ?_, fun l b hb => ?_, fun l l' b b' g h1 h2 h3 h4 => ?_, fun l b g h1 h3 => ?_, fun l hl => ?_, fun _ _ h => h, FrameW.refl _ _, fun g cs hg => (hp.glob g cs hg).keep (φ' := fun _ => none) ⟨fun _ _ h => h, (hkeep φ).set, Nat.le_refl _, fun _ _ h => h⟩, ?_⟩
   ·simp only [Array.toList_append, Array.toList_replicate, hlen']
    exact (hargs.keep (hkeep φD)).append (nos _)
   ·obtain ⟨i, c, rfl, hc, rfl⟩ := hmem l b hb
    have hi : i < L0.length := (List.getElem?_eq_some_iff.1 hc).1
    have := (MR.rn (η := ηD h L0.length) hη (by rw [ic_]; exact hi) (by rw [ic_]; exact hc0 c (List.mem_of_getElem? hc))).1 (hp.mem i c hc)
    rw [ly_ hi] at this
    exact this.keep (hkeep φD) fun _ _ => rfl
   ·obtain ⟨i, c, rfl, hc, _⟩ := hmem l b h1
    obtain ⟨j, d, rfl, hd, _⟩ := hmem l' b' h2
    rw [hφD] at h3 h4
    rw [hp.inj i j g (List.getElem?_eq_some_iff.1 hc).1 (List.getElem?_eq_some_iff.1 hd).1 h3 h4]
   ·obtain ⟨i, c, rfl, hc, _⟩ := hmem l b h1
    rw [hφD] at h3
    exact .inl ⟨i, (List.getElem?_eq_some_iff.1 hc).1, h3⟩
   ·have := C.low l hl
    simp only [my_] at this
    simp only [us, this, Bool.true_or]
   ·obtain ⟨B, b1, b2, b3⟩ := hp.lad
    exact ⟨B, b1, b2, fun g ⟨i, _, hi⟩ => b3 i g hi⟩
  refine calls_of_wp hf hb (wp_mono (H C φD _ w hr) fun e a' w' ⟨φ', s', ⟨he, hcan, hres, hmo⟩, r⟩ => ?_)
  obtain ⟨xs, x1, x2⟩ := i6_ r fn.results.toList hcan
  have hrun : (results fn a'.tmps).run E.P w' = .ok (gg_ xs) w' := by
   rw [pc_, Array.mapM_eq_mapM_toList]
   simp only [Sem.run_bind, Sem.run_map, x1, Result.andThen_ok, Sem.run_pure]
   rw [s0_]
  have hmo' : ∀ i b, Lr[i]? = some b → s'.m (nmD h i) = some (rnB (ηD h L0.length) b) := fun i b hb => hmo i _ (by rw [List.getElem?_map, hb]; rfl)
  have hlow : ∀ i, i < L0.length → φ' (nmD h i) = φ i := fun i hi => by
   have h0 : ∀ y, φ i = some y → φ' (nmD h i) = φ i := fun y hy => by rw [hy]; exact r.phi0 _ y (by show φD _ = _; rw [hφD, hy])
   rcases hp.mem i L0[i] (List.getElem?_eq_getElem hi) with ⟨h1, _⟩ | ⟨g, _, _, h1, _⟩ | ⟨g, _, _, _, h1, _⟩ <;> exact h0 _ h1
  have hφ : ∀ i, i < (ηD h L0.length).length → d3_ (ηD h L0.length) φ' i = φ' ((ηD h L0.length).getD i 0) := fun i hi => ee_ hi
  have hφi : ∀ i, i < L0.length → d3_ (ηD h L0.length) φ' i = φ i := fun i hi => by
   rw [hφ i (by rw [ic_]; exact hi), ly_ hi, hlow i hi]
  have hout : ∀ i, L0.length ≤ i → d3_ (ηD h L0.length) φ' i = none := fun i hi => by
   simp [d3_, List.getElem?_eq_none (show (ηD h L0.length).length ≤ i by rw [ic_]; exact hi)]
  have hSO : ∀ g, C.S φ' s'.m g → SOf (d3_ (ηD h L0.length) φ') S w Lr g := fun g ⟨h1, h2⟩ => by
   refine ⟨?_, fun i b hb h3 => ?_⟩
   ·rcases h1 with (h1 | ⟨i, hi, h1⟩) | h1
    ·exact .inl h1
    ·exfalso
     exact h2 _ _ (hmo' i Lr[i] (List.getElem?_eq_getElem (by omega))) (by rw [hlow i hi]; exact h1)
    ·exact .inr h1
   ·have hi : i < L0.length := by rw [← hlen]; exact (List.getElem?_eq_some_iff.1 hb).1
    rw [hφi i hi, ← hlow i hi] at h3
    exact h2 _ _ (hmo' i b hb) h3
  have hkS : KeepsW (d3_ (ηD h L0.length) φ') (d3_ (ηD h L0.length) φ') (C.S φ' s'.m) (SOf (d3_ (ηD h L0.length) φ') S w Lr) w' w' := ⟨fun _ _ h => h, fun g hg _ => ⟨hSO g hg, rfl⟩, Nat.le_refl _, fun _ _ h => h⟩
  have hpost : Post φ S w L0 rs Lr (d3_ (ηD h L0.length) φ') xs w' := by
   refine ⟨fun i hi => hφi i hi, ?_, fun i b hb => ?_, fun i g hi h3 => ?_, fun i j g hi hj h3 h4 => ?_, r.frame⟩
   ·exact ((VRs.rn hφ (by rw [ic_]; exact hcr)).2 (x2.le hres)).keep hkS
   ·have hi : i < L0.length := by rw [← hlen]; exact (List.getElem?_eq_some_iff.1 hb).1
    refine ((MR.rn (η := ηD h L0.length) hφ (by rw [ic_]; exact hi) (by rw [ic_]; exact hcL b (List.mem_of_getElem? hb))).2 ?_).keep hkS fun _ _ => rfl
    rw [ly_ hi]
    exact r.mem _ _ (hmo' i b hb)
   ·rw [hout i hi] at h3; cases h3
   ·rw [hlen] at hi hj
    rw [hφi i hi] at h3; rw [hφi j hj] at h4
    exact hp.inj i j g hi hj h3 h4
  have hd : a'.defers = [] := r.defers
  rcases he with rfl | rfl
  ·exact ⟨hd, gg_ xs, hrun, xs, _, rfl, hpost⟩
  ·exact ⟨hd, gg_ xs, hrun, xs, _, rfl, hpost⟩
end
end
end Go.Proofs.YtefmbmafdgedmaaGreatDoor
