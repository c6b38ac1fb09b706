/- From a row's conditions to the tree logic, and back: what the listed variables hold; an argument of bytes; a law that answers true. Conditions: the listed variables read as the rows list them. Conditions: none. -/
import Derived.Test.YtefmbmafdgedmaaGreatDoorRows
import Derived.Test.YtefmbmafdgedmaaGreatDoorMe
import Derived.WalkKit
import Derived.ProofKit
import Derived.OpenShut
import Derived.OpenVars
import Derived.Carry
import Derived.LaidMore
import Derived.Lib.LaidU8
import Derived.Shelf.Vars
import Derived.Deep.DeepHandedRow
import Derived.Deep.DeepWitnessRowRef
set_option linter.unusedVariables false
set_option linter.unusedSimpArgs false
namespace Go.Proofs.YtefmbmafdgedmaaGreatDoor
section
open Go.ChangeShapes Go.WideShapes Go.ChangeAt Go.RowKit
set_option maxRecDepth 100000
theorem aax_ : ownKnob Tryz.prog.godebug = none := by kernel_rfl
theorem ab6_ : laidOutB Tryz.prog = true := by kernel_rfl
theorem aej_ : Tryz.prog.cellsOf 9 = 1 := by kernel_rfl
theorem aeo_ : Tryz.prog.cellsOf 5 = 1 := by kernel_rfl
structure LaidIn (L : List (String × DataW Unit)) : Prop where
 t : ("internal/strconv.uint64pow10", Rows.laid_internal_strconv_uint64pow10) ∈ L
 r : ("strconv.ErrRange", Rows.laid_strconv_ErrRange) ∈ L
 s : ("strconv.ErrSyntax", Rows.laid_strconv_ErrSyntax) ∈ L
 o : ("loop.example/interlinear/impl.ownWords", Rows.laid_loop_example_interlinear_impl_ownWords) ∈ L
 h : (L.filter fun x => x.2.handleName?.isSome) = []
theorem LaidIn.met {W : World} {L : List (String × DataW Unit)} (I : LaidIn L) (hL : laidMetH Tryz.prog L W) : laidMet Tryz.prog L W := by
 unfold laidMetH at hL
 rw [I.h] at hL
 exact hL
theorem gOwn : Tryz.prog.globalNamed "loop.example/interlinear/impl.ownWords" = some 0 := by kernel_rfl
theorem gtTab : (Tryz.prog.globals[6]?).map (·.type) = some 245 := by kernel_rfl
theorem aew_ : (Tryz.prog.globals[4]?).map (·.type) = some 170 := by kernel_rfl
theorem ae1_ : (Tryz.prog.globals[5]?).map (·.type) = some 170 := by kernel_rfl
theorem gtOwn : (Tryz.prog.globals[0]?).map (·.type) = some 28 := by kernel_rfl
theorem acb_ : Tryz.prog.cellsOf 245 = 20 := by kernel_rfl
theorem acv_ : Tryz.prog.cellsOf 233 = 1 := by kernel_rfl
theorem ml_ {φ : Phi} {S : Nat → Prop} {w : World} : ∀ l : List Str, VRr φ S w 1 (b1_ l) (l.map fun s => Value.string ⟨s.toArray⟩)
 | [] => by simp only [b1_, List.map_nil]; exact VRr.nil
 | s :: l => by
  simp only [b1_, List.map_cons]
  exact VRr.cons (ys := [.string ⟨s.toArray⟩]) rfl (.cons (by simp only [VR]) .nil) (fun u hu => by simp at hu; subst hu; rfl) (ml_ l)
theorem kr_ {H : Type} {enc : TypeId × Value → H} {P : Program} {w : World} {base : Nat} {sp : Nat → Bool} {ku_ : Bool} {fuel : Nat} {t : TypeId} {ms : Array (String × TypeId)} {cs : List Value} {nm : String} {d : DataW H} {p : List MemPlace}
  (hi : P.underlying t = some (.interface ms)) (h : DataW.trod enc P w base sp ku_ fuel t cs = some (.iface nm d, p)) : ∃ u v, cs = [.iface u v] := by
 cases fuel with
 | zero => simp [DataW.trod] at h
 | succ fuel =>
  unfold DataW.trod at h
  rw [hi] at h
  split at h <;> simp_all
theorem n7_ {W : World} {n nm : String} {d : DataW Unit} {g : Nat} {t : TypeId} {ms : Array (String × TypeId)} (h : Lib.VarReads Tryz.prog W n (.iface nm d)) (hg : Tryz.prog.globalNamed n = some g) (ht : (Tryz.prog.globals[g]?).map (·.type) = some t) (hi : Tryz.prog.underlying t = some (.interface ms)) :
  ∃ u v, W.var? Tryz.prog n = some #[.iface u v] := by
 obtain ⟨g', t', cs, fuel, p, hg', ht', hv, hd⟩ := h
 obtain rfl := Option.some.inj (hg.symm.trans hg')
 obtain rfl := Option.some.inj (ht.symm.trans ht')
 obtain ⟨u, v, hcs⟩ := kr_ hi hd
 exact ⟨u, v, by rw [hv, Array.eq_one_of_toList hcs]⟩
theorem pl_ {W : World} {n : String} {g : Nat} {cs : Array Value} (hg : Tryz.prog.globalNamed n = some g) (hv : W.var? Tryz.prog n = some cs) : g < W.heap.size := by
 unfold World.var? at hv
 rw [hg] at hv
 simp only [Option.bind_some] at hv
 cases hh : W.heap[g]? with
 | none => rw [hh] at hv; cases hv
 | some o => exact (Array.getElem?_eq_some_iff.1 hh).1
theorem sq_ {W : World} {L : List (String × DataW Unit)} (I : LaidIn L) (hL : laidMetH Tryz.prog L W) (hS : W.ShapedOpen Tryz.prog) : Gl W.heap.size W := by
 have hM : laidMet Tryz.prog L W := I.met hL
 have r1 := Lib.laidMet.reads hM (n := "internal/strconv.uint64pow10") I.t
 have r2 := Lib.laidMet.reads hM (n := "strconv.ErrRange") I.r
 have r3 := Lib.laidMet.reads hM (n := "strconv.ErrSyntax") I.s
 obtain ⟨m, hm⟩ := cell_of_shapedOpen_int (P := Tryz.prog) (g := 1) (t := 3) (k := .i64) (zero := #[.int .i64 0]) hS (of_decide_eq_true (by kernel_rfl)) (by kernel_rfl) rfl (by kernel_rfl) (by kernel_rfl) Tryz.underlying3
 have hmB : 1 < W.heap.size := by
  unfold World.cell? at hm
  cases hh : W.heap[1]? with
  | none => simp [hh] at hm
  | some o => exact (Array.getElem?_eq_some_iff.1 hh).1
 have h1 : Lib.TabIs Tryz.prog W "internal/strconv.uint64pow10" .u64 Lib.pow10Tab := by
  obtain ⟨g', t', cs, fuel, p, hg', ht', hv, hd⟩ := r1
  obtain rfl := Option.some.inj (gTab.symm.trans hg')
  obtain rfl := Option.some.inj (gtTab.symm.trans ht')
  unfold Lib.TabIs
  rw [hv, ← Lib.cells_of_tab (k := .u64) (zs := Lib.pow10Tab) Tryz.underlying245 Tryz.underlying233 acv_ acb_ hd]
 obtain ⟨u2, v2, h2⟩ := n7_ r2 gRng ae1_ Tryz.underlying170
 obtain ⟨u3, v3, h3⟩ := n7_ r3 gSyn aew_ Tryz.underlying170
 exact ⟨h1, ⟨u3, v3, h3⟩, ⟨u2, v2, h2⟩, ⟨m, hm⟩, pl_ gTab h1, pl_ gSyn h3, pl_ gRng h2, hmB⟩
theorem rl_ {W : World} {L : List (String × DataW Unit)} (I : LaidIn L) (hL : laidMetH Tryz.prog L W) : VR (fun _ => none) (fun _ => True) W (.rp [.sl false (b1_ ownW)]) (.pointer (some ⟨0, 0, none⟩)) := by
 have hM : laidMet Tryz.prog L W := I.met hL
 have r1 := Lib.laidMet.reads hM (n := "loop.example/interlinear/impl.ownWords") I.o
 obtain ⟨g', t', cs, fuel, p, hg', ht', hv, hd⟩ := r1
 obtain rfl := Option.some.inj (gOwn.symm.trans hg')
 obtain rfl := Option.some.inj (gtOwn.symm.trans ht')
 have hd' : DataW.trod (fun _ => ()) Tryz.prog W 0 (fun _ => true) false fuel 28 cs.toList = some (.slice (ownW.map fun s => .lit (.string s)) [], p) := hd
 obtain ⟨a, cap, hcs, hle, hel⟩ := open_row Tryz.underlying28 aej_ hd'
 have hmx : cap ≤ maxLen := by
  rcases DataW.trod_slice Tryz.underlying28 hd' with ⟨h0, _⟩ | ⟨a2, len2, cap2, elems, rest, n, _, hcs2, _, _, _, hm, _⟩
  ·rw [hcs] at h0; simp at h0
  ·rw [hcs] at hcs2
   simp only [List.cons.injEq, Value.slice.injEq, and_true] at hcs2
   rw [hcs2.2.2]; exact hm
 obtain ⟨b, off, spot⟩ := a
 have hs : spot = none := by
  obtain ⟨v, n, q, h1, _⟩ := hel 0 (.lit (.string [108, 101, 116])) rfl
  simpa [Addr.add] using World.cell?_spot h1
 subst hs
 have hcell : ∀ i, i < 8 → ∃ s : Str, ownW[i]? = some s ∧ W.cell? ⟨b, off + i, none⟩ = some (.string ⟨s.toArray⟩) := fun i hi => by
  have hi2 : i < ownW.length := hi
  obtain ⟨v, n, q, h1, h2⟩ := hel i (.lit (.string (ownW[i]'hi2))) (by rw [List.getElem?_map, List.getElem?_eq_getElem hi2]; rfl)
  obtain ⟨s, e1, e2, _⟩ := DataW.trod_string Tryz.underlying9 h2
  simp only [List.cons.injEq, and_true] at e1
  subst e1
  simp only [Prod.mk.injEq, DataW.lit.injEq, Lit.string.injEq] at e2
  refine ⟨ownW[i]'hi2, List.getElem?_eq_getElem hi2, ?_⟩
  rw [add_plain] at h1
  rw [h1, e2.1]
 obtain ⟨s0, _, hc0⟩ := hcell 0 (by decide)
 have hb : b < W.heap.size := by
  cases hh : W.heap[b]? with
  | none => simp [World.cell?, hh] at hc0
  | some o => exact (Array.getElem?_eq_some_iff.1 hh).1
 have hv0 := World.var?_cell gOwn hv 0
 rw [Array.eq_one_of_toList hcs] at hv0
 have hg := pl_ gOwn hv
 simp only [VR]
 refine ⟨_, 0, [.slice (some ⟨b, off, none⟩) ownW.length cap], rfl, trivial, hg, fun j u hu => ?_, .cons ?_ .nil⟩
 ·cases j with
  | zero => simp at hu; subst hu; simpa using hv0
  | succ j => simp at hu
 ·simp only [VR]
  refine ⟨some ⟨b, off, none⟩, cap, 1, ownW.map fun s => .string ⟨s.toArray⟩, by simp [ac_], by simpa [ac_] using hle, hmx, fun e => (by simp at e), fun _ => ⟨b, off, rfl, trivial, hb, fun j u hu => ?_⟩, ml_ ownW⟩
  ·rw [List.getElem?_map] at hu
   have hj : j < 8 := by
    rcases Nat.lt_or_ge j 8 with h | h
    ·exact h
    ·rw [List.getElem?_eq_none (by exact h)] at hu; cases hu
   obtain ⟨s, e1, e2⟩ := hcell j hj
   rw [e1] at hu
   simp at hu; subst hu
   exact e2
theorem kn_ {φ : Phi} {S : Nat → Prop} {w : World} : ∀ zs : List Int, (∀ n ∈ zs, (Lit.int .u8 n).wf = true) → VRr φ S w 1 (byR (zs.map fun n => UInt8.ofNat n.toNat)) (zs.map fun z => Value.int .u8 z)
 | [], _ => by simp only [byR, List.map_nil]; exact VRr.nil
 | z :: l, h => by
  have hz := bounds_u8 (h z (by simp))
  simp only [byR, List.map_cons]
  exact VRr.cons (ys := [.int .u8 z]) rfl (.cons (by simp only [VR, UInt8.toNat_ofNat']; rw [Nat.mod_eq_of_lt (by omega), Int.toNat_of_nonneg hz.1]) .nil) (fun u hu => by simp at hu; subst hu; rfl) (kn_ l fun n hn => h n (by simp [hn]))
theorem xs_ {H : Type} {enc : TypeId × Value → H} {W : World} {r : Reach} {base : Nat} {v0 : Value} {d0 : DataW H} {p : List MemPlace} (hv : Value.okWide Tryz.prog W r base 22 v0) (h0 : DataW.Trod enc Tryz.prog W 0 (fun _ => true) true 22 v0 d0 p) :
  ∃ b : Str, b.length ≤ maxLen ∧ VR (fun _ => none) (fun _ => True) W (.sl false (byR b)) v0 := by
 obtain ⟨a0, len, cap, rfl⟩ := okWide_slice Tryz.underlying22 hv
 obtain ⟨fuel, hf⟩ := h0
 rcases open_ints Tryz.underlying22 Tryz.underlying5 aeo_ hf with ⟨hcs, hx⟩ | ⟨a, len', cap', zs, hcs, _, hl, hm, hz, hx, hcell, hwz⟩
 ·simp [Value.cells] at hcs
  obtain ⟨rfl, rfl, rfl⟩ := hcs
  refine ⟨[], by decide, ?_⟩
  simp only [VR]
  exact ⟨none, 0, 1, [], rfl, Nat.le_refl _, by decide, fun _ => rfl, fun h => absurd rfl h, VRr.nil⟩
 ·simp [Value.cells] at hcs
  obtain ⟨rfl, rfl, rfl⟩ := hcs
  simp only [if_true] at hz
  refine ⟨(zs.take len).map fun n => UInt8.ofNat n.toNat, ?_, ?_⟩
  ·simp; omega
  have hll : (byR ((zs.take len).map fun n => UInt8.ofNat n.toNat)).length = len := by simp [byR]; omega
  simp only [VR, hll]
  refine ⟨some a, cap, 1, (zs.take len).map fun z => .int .u8 z, rfl, hl, hm, fun e => by simp at e, fun hne => ?_, kn_ _ fun n hn => hwz n (List.mem_of_mem_take hn)⟩
  have hpos : 0 < zs.length := by
   rcases Nat.eq_zero_or_pos zs.length with h | h
   ·exact absurd (by simp [List.eq_nil_of_length_eq_zero h]) hne
   ·exact h
  obtain ⟨b, off, spot⟩ := a
  have hspot : spot = none := by simpa [Addr.add] using World.cell?_spot (hcell 0 hpos)
  subst hspot
  have h00 := hcell 0 hpos
  have hb : b < W.heap.size := by
   cases hh : W.heap[b]? with
   | none => simp [World.cell?, hh, add_plain] at h00
   | some o => exact (Array.getElem?_eq_some_iff.1 hh).1
  refine ⟨b, off, rfl, trivial, hb, fun j u hu => ?_⟩
  rw [List.getElem?_map] at hu
  cases hj : (zs.take len)[j]? with
  | none => rw [hj] at hu; simp at hu
  | some z =>
   rw [hj] at hu
   simp at hu; subst hu
   have hlt := (List.getElem?_eq_some_iff.1 hj).1
   rw [List.length_take] at hlt
   have hc := hcell j (by omega)
   rw [add_plain] at hc
   rw [hc]
   rw [List.getElem?_take] at hj
   split at hj
   ·rw [List.getD_eq_getElem?_getD, hj]; rfl
   ·cases hj
theorem abr_ {f : FuncId} {vs : List V} {args : Array Value} {W : World} {L : List (String × DataW Unit)} (A : ACall En f vs [] [.b true] []) (hx : VRs (fun _ => none) (fun _ => True) W vs args.toList) (I : LaidIn L) (hL : laidMetH Tryz.prog L W) (hS : W.ShapedOpen Tryz.prog) :
  Calls Tryz.prog f args W fun e w' => e = .returned (.bool true) ∧ Below W.heap.size W w' := by
 have hp : Pre En (fun _ => none) (fun _ => True) W vs [] args := by
  refine ⟨hx, fun i b hb => by simp at hb, fun i j g hi => by simp at hi, fun g _ l b hb => by simp, fun g cs hg => ?_, fun l hl => absurd rfl hl, W.heap.size, sq_ I hL hS, Nat.le_refl _, fun i g hg => by cases hg⟩
  simp only [En] at hg
  split at hg
  ·rename_i e; subst e; cases hg; exact rl_ I hL
  ·cases hg
 refine (A.2 _ _ W args hp).mono fun e w' ⟨xs, φr, he, hpost⟩ => ?_
 have hr := hpost.res
 simp only [VRs, VR] at hr
 obtain ⟨x, r, rfl, rfl, rfl⟩ := hr
 refine ⟨he, ?_⟩
 have := hpost.frame.mono (Qb := fun _ => False) fun g _ ⟨i, hi, _⟩ => by simp at hi
 exact this.toBelow
end
section
open Go.ChangeShapes Go.WideShapes Go.ChangeAt Go.RowKit Go.WideElems
set_option maxRecDepth 100000
def w4_ (P : Program) (t : TypeId) : Prop := P.readableRec t = true ∧ t < P.types.size
section
variable {P : Program} {H : Type} {enc : TypeId × Value → H} {W W' : World} {sp : Nat → Bool}
theorem iq_ (hl : laidOutB P = true) (hb : Below W.heap.size W W') : ∀ {ts : List TypeId} {vs : List Value} {ds : List (DataW H)} {ps : List MemPlace}, DataW.TrodAll enc P W 0 (fun _ => true) true ts vs ds ps → (∀ t ∈ ts, w4_ P t) → (∀ x ∈ ps, x.block < W.heap.size) → (∀ p ∈ ps, sp p.block = true) → DataW.TrodAll enc P W' 0 sp true ts vs ds ps
 | [], _, _, _, h, _, _, _ => by
  obtain ⟨rfl, rfl, rfl⟩ := trodAll_nil h
  exact trodAll_mk0
 | t :: ts, _, _, _, h, ht, hlt, hs => by
  obtain ⟨v, vs1, d, ds1, a, b, rfl, rfl, rfl, h1, h2⟩ := trodAll_cons h
  have hk := ht t List.mem_cons_self
  exact ⟨a, b, Trod_stays hl hk.1 hk.2 h1 (fun x hx => hb.same (hlt x (List.mem_append_left _ hx))) (fun x hx => hs x (List.mem_append_left _ hx)),
   iq_ hl hb h2 (fun t h => ht t (List.mem_cons_of_mem _ h)) (fun x hx => hlt x (List.mem_append_right _ hx)) (fun x hx => hs x (List.mem_append_right _ hx)), rfl⟩
theorem abe_ {n : String} {g : Nat} {cs : Array Value} (hg : P.globalNamed n = some g) (hv : W.var? P n = some cs) : g < W.heap.size := by
 unfold World.var? at hv
 rw [hg] at hv
 simp only [Option.bind_some] at hv
 cases hh : W.heap[g]? with
 | none => rw [hh] at hv; cases hv
 | some o => exact (Array.getElem?_eq_some_iff.1 hh).1
theorem h1_ (hl : laidOutB P = true) (hb : Below W.heap.size W W') : ∀ {ns : List String} {gs : List (DataW H)} {ps : List MemPlace}, DataW.TrodVars enc P W (fun _ => true) ns gs ps → (∀ n ∈ ns, ∀ g t, P.globalNamed n = some g → (P.globals[g]?).map (·.type) = some t → w4_ P t) → (∀ x ∈ ps, x.block < W.heap.size) → (∀ p ∈ ps, sp p.block = true) → DataW.TrodVars enc P W' sp ns gs ps
 | [], _, _, h, _, _, _ => by
  obtain ⟨rfl, rfl⟩ := trodVars_none h
  rfl
 | n :: ns, gs, ps, h, ht, hlt, hs => by
  cases gs with
  | nil => simp [DataW.TrodVars] at h
  | cons d ds =>
   obtain ⟨g, t, cs, fuel, p, q, h1, h2, h3, h4, h5, rfl⟩ := h
   have hk := ht n List.mem_cons_self g t h1 h2
   refine ⟨g, t, cs, fuel, p, q, h1, h2, ?_, DataW.trod_stays (kids_book hl hk.1) (book_sized hk.1) (fun h => by cases h) ⟨hk.2, book_self t⟩ h4 (fun x hx => hb.same (hlt x (by simp only [List.mem_append]; exact .inl (.inr hx)))) (fun x hx => hs x (by simp only [List.mem_append]; exact .inl (.inr hx))),
    h1_ hl hb h5 (fun m hm => ht m (List.mem_cons_of_mem _ hm)) (fun x hx => hlt x (List.mem_append_right _ hx)) (fun x hx => hs x (List.mem_append_right _ hx)), rfl⟩
   rw [← h3]
   unfold World.var?
   rw [h1]
   simp only [Option.bind_some]
   have hg := abe_ h1 h3
   rw [hb.block g hg]
theorem vx_ (hl : laidOutB P = true) {tb : TypeId} (hu : P.underlying tb = some .bool) {f : Func} {s : ChangeSpec} {args : Array Value} {ds gs : List (DataW H)} {before : List MemPlace}
  (hW : DataW.Whole enc P f.params.toList s.vars false W args.toList ds gs before) (hb : Below W.heap.size W W')
  (hts : ∀ t ∈ f.params.toList, w4_ P t) (hvs : ∀ n ∈ s.vars, ∀ g t, P.globalNamed n = some g → (P.globals[g]?).map (·.type) = some t → w4_ P t)
  (hr : f.resultTypes = #[tb]) (hfn : s.fn H (ds ++ gs) = { results := [.lit (.bool true)], args := ds, vars := gs }) :
  s.post enc P f false true false false W args (.bool true) W' := by
 have hlt := hW.lt
 have hold : ∀ p ∈ before, (fun b => decide (b < W.heap.size)) p.block = true := fun p hp => by simpa using hlt p hp
 have hW' := hW
 obtain ⟨pa, pv, hA, hV, hps, hz, hn⟩ := hW'
 have hla : ∀ x ∈ pa, x.block < W.heap.size := fun x hx => hlt x (by rw [hps]; exact List.mem_append_left _ hx)
 have hlv : ∀ x ∈ pv, x.block < W.heap.size := fun x hx => hlt x (by rw [hps]; exact List.mem_append_right _ hx)
 have hres : ∀ (b : Nat) (sp : Nat → Bool) (hd : Bool), DataW.TrodAll enc P W' b sp hd f.resultTypes.toList ((Value.bool true).resultList f.resultTypes.size) [.lit (.bool true)] [] := fun b sp hd => by
  rw [hr]; exact trodAll_mk1 (shut_bool hu _)
 have hargs : ∀ sp : Nat → Bool, (∀ p ∈ before, sp p.block = true) → DataW.TrodAll enc P W' 0 sp true f.params.toList args.toList ds pa := fun sp hs => iq_ hl hb hA hts hla fun x hx => hs x (by rw [hps]; exact List.mem_append_left _ hx)
 have hvars : ∀ sp : Nat → Bool, (∀ p ∈ before, sp p.block = true) → DataW.TrodVars enc P W' sp s.vars gs pv := fun sp hs => h1_ hl hb hV hvs hlv fun x hx => hs x (by rw [hps]; exact List.mem_append_right _ hx)
 have hok : ∀ (j : Nat) (t : TypeId) (r : Value), f.resultTypes[j]? = some t → ((Value.bool true).resultList f.resultTypes.size)[j]? = some r → Value.okWide P W' .any 0 t r := ok_one hr rfl (okWide_bool_mk hu _)
 refine ⟨ds, gs, before, [], pa, pv, hW, by rw [hfn]; exact hres _ _ _, by rw [hfn]; exact hargs _ hold, by rw [hfn]; exact hvars _ hold, World.keptBut_mono (fun p hp => ⟨hp, ?_⟩) (hb.frame (· ∈ before)), fun _ => ?_⟩
 ·rw [hps, List.mem_append] at hp
  exact Or.inr hp
 ·refine ⟨hok, _, _, ([] ++ pa) ++ pv, ⟨[] ++ pa, pv, trodAll_append (hargs _ (fun _ _ => rfl)) (hres _ _ _), hvars _ (fun _ _ => rfl), rfl, ?_, ?_⟩, ?_⟩
  ·intro b off hp
   have hp' : MemPlace.cell b off ∈ before := by rw [hps]; simpa using hp
   rw [hb.frozen (hlt _ hp')]
   exact hz b off hp'
  ·intro ha; cases ha
  ·intro p hp _
   rw [hps]
   simpa using hp
end
theorem ae4_ : ∀ n ∈ ["loop.example/interlinear/impl.ownWords"], ∀ g t, Tryz.prog.globalNamed n = some g → (Tryz.prog.globals[g]?).map (·.type) = some t → w4_ Tryz.prog t := fun n hn g t hg ht => by
 obtain rfl : n = "loop.example/interlinear/impl.ownWords" := by simpa using hn
 obtain rfl := Option.some.inj (gOwn.symm.trans hg)
 obtain rfl := Option.some.inj (gtOwn.symm.trans ht)
 exact ⟨by kernel_rfl, of_decide_eq_true (by kernel_rfl)⟩
end
end Go.Proofs.YtefmbmafdgedmaaGreatDoor
