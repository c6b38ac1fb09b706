/- From a row's conditions to the tree logic, and back: what the listed variables hold; an argument of bytes; a law that answers true. Conditions: the listed variables read as the rows list them. Conditions: none. -/
import Derived.Test.YtefmbmafdgedmaaGreatDoorRows
import Derived.Test.YtefmbmafdgedmaaGreatDoorNe
import Derived.WalkKit
import Derived.ProofKit
import Derived.OpenShut
import Derived.OpenVars
import Derived.Carry
import Derived.LaidMore
import Derived.Lib.LaidU8
import Derived.Shelf.Vars
import Derived.Deep.DeepHandedRow
import Derived.Deep.DeepWitnessRowRef
set_option linter.unusedVariables false
set_option linter.unusedSimpArgs false
namespace Go.Proofs.YtefmbmafdgedmaaGreatDoor
section
open Go.ChangeShapes Go.WideShapes Go.ChangeAt Go.RowKit
set_option maxRecDepth 100000
theorem afv_ : ownKnob Tryz.prog.godebug = none := by kernel_rfl
theorem aei_ : laidOutB Tryz.prog = true := by kernel_rfl
theorem ag4_ : Tryz.prog.cellsOf 9 = 1 := by kernel_rfl
structure LaidIn (L : List (String × DataW Unit)) : Prop where
 t : ("internal/strconv.uint64pow10", Rows.laid_internal_strconv_uint64pow10) ∈ L
 r : ("strconv.ErrRange", Rows.laid_strconv_ErrRange) ∈ L
 s : ("strconv.ErrSyntax", Rows.laid_strconv_ErrSyntax) ∈ L
 o : ("loop.example/interlinear/impl.ownWords", Rows.laid_loop_example_interlinear_impl_ownWords) ∈ L
 h : (L.filter fun x => x.2.handleName?.isSome) = []
theorem LaidIn.met {W : World} {L : List (String × DataW Unit)} (I : LaidIn L) (hL : laidMetH Tryz.prog L W) : laidMet Tryz.prog L W := by
 unfold laidMetH at hL
 rw [I.h] at hL
 exact hL
theorem gOwn : Tryz.prog.globalNamed "loop.example/interlinear/impl.ownWords" = some 0 := by kernel_rfl
theorem gtTab : (Tryz.prog.globals[6]?).map (·.type) = some 245 := by kernel_rfl
theorem ajf_ : (Tryz.prog.globals[4]?).map (·.type) = some 170 := by kernel_rfl
theorem aiy_ : (Tryz.prog.globals[5]?).map (·.type) = some 170 := by kernel_rfl
theorem gtOwn : (Tryz.prog.globals[0]?).map (·.type) = some 28 := by kernel_rfl
theorem aek_ : Tryz.prog.cellsOf 245 = 20 := by kernel_rfl
theorem af3_ : Tryz.prog.cellsOf 233 = 1 := by kernel_rfl
theorem n3_ {φ : Phi} {S : Nat → Prop} {w : World} : ∀ l : List Str, VRr φ S w 1 (bm_ l) (l.map fun s => Value.string ⟨s.toArray⟩)
 | [] => by simp only [bm_, List.map_nil]; exact VRr.nil
 | s :: l => by
  simp only [bm_, List.map_cons]
  exact VRr.cons (ys := [.string ⟨s.toArray⟩]) rfl (.cons (by simp only [VR]) .nil) (fun u hu => by simp at hu; subst hu; rfl) (n3_ l)
theorem mz_ {H : Type} {enc : TypeId × Value → H} {P : Program} {w : World} {base : Nat} {sp : Nat → Bool} {g6_ : Bool} {fuel : Nat} {t : TypeId} {ms : Array (String × TypeId)} {cs : List Value} {nm : String} {d : DataW H} {p : List MemPlace}
  (hi : P.underlying t = some (.interface ms)) (h : DataW.trod enc P w base sp g6_ fuel t cs = some (.iface nm d, p)) : ∃ u v, cs = [.iface u v] := by
 cases fuel with
 | zero => simp [DataW.trod] at h
 | succ fuel =>
  unfold DataW.trod at h
  rw [hi] at h
  split at h <;> simp_all
theorem qw_ {W : World} {n nm : String} {d : DataW Unit} {g : Nat} {t : TypeId} {ms : Array (String × TypeId)} (h : Lib.VarReads Tryz.prog W n (.iface nm d)) (hg : Tryz.prog.globalNamed n = some g) (ht : (Tryz.prog.globals[g]?).map (·.type) = some t) (hi : Tryz.prog.underlying t = some (.interface ms)) :
  ∃ u v, W.var? Tryz.prog n = some #[.iface u v] := by
 obtain ⟨g', t', cs, fuel, p, hg', ht', hv, hd⟩ := h
 obtain rfl := Option.some.inj (hg.symm.trans hg')
 obtain rfl := Option.some.inj (ht.symm.trans ht')
 obtain ⟨u, v, hcs⟩ := mz_ hi hd
 exact ⟨u, v, by rw [hv, Array.eq_one_of_toList hcs]⟩
theorem rj_ {W : World} {n : String} {g : Nat} {cs : Array Value} (hg : Tryz.prog.globalNamed n = some g) (hv : W.var? Tryz.prog n = some cs) : g < W.heap.size := by
 unfold World.var? at hv
 rw [hg] at hv
 simp only [Option.bind_some] at hv
 cases hh : W.heap[g]? with
 | none => rw [hh] at hv; cases hv
 | some o => exact (Array.getElem?_eq_some_iff.1 hh).1
theorem vw_ {W : World} {L : List (String × DataW Unit)} (I : LaidIn L) (hL : laidMetH Tryz.prog L W) (hS : W.ShapedOpen Tryz.prog) : Gl W.heap.size W := by
 have hM : laidMet Tryz.prog L W := I.met hL
 have r1 := Lib.laidMet.reads hM (n := "internal/strconv.uint64pow10") I.t
 have r2 := Lib.laidMet.reads hM (n := "strconv.ErrRange") I.r
 have r3 := Lib.laidMet.reads hM (n := "strconv.ErrSyntax") I.s
 obtain ⟨m, hm⟩ := cell_of_shapedOpen_int (P := Tryz.prog) (g := 1) (t := 3) (k := .i64) (zero := #[.int .i64 0]) hS (of_decide_eq_true (by kernel_rfl)) (by kernel_rfl) rfl (by kernel_rfl) (by kernel_rfl) Tryz.underlying3
 have hmB : 1 < W.heap.size := by
  unfold World.cell? at hm
  cases hh : W.heap[1]? with
  | none => simp [hh] at hm
  | some o => exact (Array.getElem?_eq_some_iff.1 hh).1
 have h1 : Lib.TabIs Tryz.prog W "internal/strconv.uint64pow10" .u64 Lib.pow10Tab := by
  obtain ⟨g', t', cs, fuel, p, hg', ht', hv, hd⟩ := r1
  obtain rfl := Option.some.inj (gTab.symm.trans hg')
  obtain rfl := Option.some.inj (gtTab.symm.trans ht')
  unfold Lib.TabIs
  rw [hv, ← Lib.cells_of_tab (k := .u64) (zs := Lib.pow10Tab) Tryz.underlying245 Tryz.underlying233 af3_ aek_ hd]
 obtain ⟨u2, v2, h2⟩ := qw_ r2 gRng aiy_ Tryz.underlying170
 obtain ⟨u3, v3, h3⟩ := qw_ r3 gSyn ajf_ Tryz.underlying170
 exact ⟨h1, ⟨u3, v3, h3⟩, ⟨u2, v2, h2⟩, ⟨m, hm⟩, rj_ gTab h1, rj_ gSyn h3, rj_ gRng h2, hmB⟩
theorem up_ {W : World} {L : List (String × DataW Unit)} (I : LaidIn L) (hL : laidMetH Tryz.prog L W) : VR (fun _ => none) (fun _ => True) W (.rp [.sl false (bm_ ownW)]) (.pointer (some ⟨0, 0, none⟩)) := by
 have hM : laidMet Tryz.prog L W := I.met hL
 have r1 := Lib.laidMet.reads hM (n := "loop.example/interlinear/impl.ownWords") I.o
 obtain ⟨g', t', cs, fuel, p, hg', ht', hv, hd⟩ := r1
 obtain rfl := Option.some.inj (gOwn.symm.trans hg')
 obtain rfl := Option.some.inj (gtOwn.symm.trans ht')
 have hd' : DataW.trod (fun _ => ()) Tryz.prog W 0 (fun _ => true) false fuel 28 cs.toList = some (.slice (ownW.map fun s => .lit (.string s)) [], p) := hd
 obtain ⟨a, cap, hcs, hle, hel⟩ := open_row Tryz.underlying28 ag4_ hd'
 have hmx : cap ≤ maxLen := by
  rcases DataW.trod_slice Tryz.underlying28 hd' with ⟨h0, _⟩ | ⟨a2, len2, cap2, elems, rest, n, _, hcs2, _, _, _, hm, _⟩
  ·rw [hcs] at h0; simp at h0
  ·rw [hcs] at hcs2
   simp only [List.cons.injEq, Value.slice.injEq, and_true] at hcs2
   rw [hcs2.2.2]; exact hm
 obtain ⟨b, off, spot⟩ := a
 have hs : spot = none := by
  obtain ⟨v, n, q, h1, _⟩ := hel 0 (.lit (.string [108, 101, 116])) rfl
  simpa [Addr.add] using World.cell?_spot h1
 subst hs
 have hcell : ∀ i, i < 8 → ∃ s : Str, ownW[i]? = some s ∧ W.cell? ⟨b, off + i, none⟩ = some (.string ⟨s.toArray⟩) := fun i hi => by
  have hi2 : i < ownW.length := hi
  obtain ⟨v, n, q, h1, h2⟩ := hel i (.lit (.string (ownW[i]'hi2))) (by rw [List.getElem?_map, List.getElem?_eq_getElem hi2]; rfl)
  obtain ⟨s, e1, e2, _⟩ := DataW.trod_string Tryz.underlying9 h2
  simp only [List.cons.injEq, and_true] at e1
  subst e1
  simp only [Prod.mk.injEq, DataW.lit.injEq, Lit.string.injEq] at e2
  refine ⟨ownW[i]'hi2, List.getElem?_eq_getElem hi2, ?_⟩
  rw [add_plain] at h1
  rw [h1, e2.1]
 obtain ⟨s0, _, hc0⟩ := hcell 0 (by decide)
 have hb : b < W.heap.size := by
  cases hh : W.heap[b]? with
  | none => simp [World.cell?, hh] at hc0
  | some o => exact (Array.getElem?_eq_some_iff.1 hh).1
 have hv0 := World.var?_cell gOwn hv 0
 rw [Array.eq_one_of_toList hcs] at hv0
 have hg := rj_ gOwn hv
 simp only [VR]
 refine ⟨_, 0, [.slice (some ⟨b, off, none⟩) ownW.length cap], rfl, trivial, hg, fun j u hu => ?_, .cons ?_ .nil⟩
 ·cases j with
  | zero => simp at hu; subst hu; simpa using hv0
  | succ j => simp at hu
 ·simp only [VR]
  refine ⟨some ⟨b, off, none⟩, cap, 1, ownW.map fun s => .string ⟨s.toArray⟩, by simp [ab_], by simpa [ab_] using hle, hmx, fun e => (by simp at e), fun _ => ⟨b, off, rfl, trivial, hb, fun j u hu => ?_⟩, n3_ ownW⟩
  ·rw [List.getElem?_map] at hu
   have hj : j < 8 := by
    rcases Nat.lt_or_ge j 8 with h | h
    ·exact h
    ·rw [List.getElem?_eq_none (by exact h)] at hu; cases hu
   obtain ⟨s, e1, e2⟩ := hcell j hj
   rw [e1] at hu
   simp at hu; subst hu
   exact e2
theorem ad4_ {f : FuncId} {vs : List V} {args : Array Value} {W : World} {L : List (String × DataW Unit)} (A : ACall En f vs [] [.b true] []) (hx : VRs (fun _ => none) (fun _ => True) W vs args.toList) (I : LaidIn L) (hL : laidMetH Tryz.prog L W) (hS : W.ShapedOpen Tryz.prog) :
  Calls Tryz.prog f args W fun e w' => e = .returned (.bool true) ∧ Below W.heap.size W w' := by
 have hp : Pre En (fun _ => none) (fun _ => True) W vs [] args := by
  refine ⟨hx, fun i b hb => by simp at hb, fun i j g hi => by simp at hi, fun g _ l b hb => by simp, fun g cs hg => ?_, fun l hl => absurd rfl hl, W.heap.size, vw_ I hL hS, Nat.le_refl _, fun i g hg => by cases hg⟩
  simp only [En] at hg
  split at hg
  ·rename_i e; subst e; cases hg; exact up_ I hL
  ·cases hg
 refine (A.2 _ _ W args hp).mono fun e w' ⟨xs, φr, he, hpost⟩ => ?_
 have hr := hpost.res
 simp only [VRs, VR] at hr
 obtain ⟨x, r, rfl, rfl, rfl⟩ := hr
 refine ⟨he, ?_⟩
 have := hpost.frame.mono (Qb := fun _ => False) fun g _ ⟨i, hi, _⟩ => by simp at hi
 exact this.toBelow
end
section
open Go.ChangeShapes Go.WideShapes Go.ChangeAt Go.RowKit Go.WideElems
set_option maxRecDepth 100000
def tyOk (P : Program) (t : TypeId) : Prop := P.readableRec t = true ∧ t < P.types.size
section
variable {P : Program} {H : Type} {enc : TypeId × Value → H} {W W' : World} {sp : Nat → Bool}
theorem lc_ (hl : laidOutB P = true) (hb : Below W.heap.size W W') : ∀ {ts : List TypeId} {vs : List Value} {ds : List (DataW H)} {ps : List MemPlace}, DataW.TrodAll enc P W 0 (fun _ => true) true ts vs ds ps → (∀ t ∈ ts, tyOk P t) → (∀ x ∈ ps, x.block < W.heap.size) → (∀ p ∈ ps, sp p.block = true) → DataW.TrodAll enc P W' 0 sp true ts vs ds ps
 | [], _, _, _, h, _, _, _ => by
  obtain ⟨rfl, rfl, rfl⟩ := trodAll_nil h
  exact trodAll_mk0
 | t :: ts, _, _, _, h, ht, hlt, hs => by
  obtain ⟨v, vs1, d, ds1, a, b, rfl, rfl, rfl, h1, h2⟩ := trodAll_cons h
  have hk := ht t List.mem_cons_self
  exact ⟨a, b, Trod_stays hl hk.1 hk.2 h1 (fun x hx => hb.same (hlt x (List.mem_append_left _ hx))) (fun x hx => hs x (List.mem_append_left _ hx)),
   lc_ hl hb h2 (fun t h => ht t (List.mem_cons_of_mem _ h)) (fun x hx => hlt x (List.mem_append_right _ hx)) (fun x hx => hs x (List.mem_append_right _ hx)), rfl⟩
theorem ae9_ {n : String} {g : Nat} {cs : Array Value} (hg : P.globalNamed n = some g) (hv : W.var? P n = some cs) : g < W.heap.size := by
 unfold World.var? at hv
 rw [hg] at hv
 simp only [Option.bind_some] at hv
 cases hh : W.heap[g]? with
 | none => rw [hh] at hv; cases hv
 | some o => exact (Array.getElem?_eq_some_iff.1 hh).1
theorem jq_ (hl : laidOutB P = true) (hb : Below W.heap.size W W') : ∀ {ns : List String} {gs : List (DataW H)} {ps : List MemPlace}, DataW.TrodVars enc P W (fun _ => true) ns gs ps → (∀ n ∈ ns, ∀ g t, P.globalNamed n = some g → (P.globals[g]?).map (·.type) = some t → tyOk P t) → (∀ x ∈ ps, x.block < W.heap.size) → (∀ p ∈ ps, sp p.block = true) → DataW.TrodVars enc P W' sp ns gs ps
 | [], _, _, h, _, _, _ => by
  obtain ⟨rfl, rfl⟩ := trodVars_none h
  rfl
 | n :: ns, gs, ps, h, ht, hlt, hs => by
  cases gs with
  | nil => simp [DataW.TrodVars] at h
  | cons d ds =>
   obtain ⟨g, t, cs, fuel, p, q, h1, h2, h3, h4, h5, rfl⟩ := h
   have hk := ht n List.mem_cons_self g t h1 h2
   refine ⟨g, t, cs, fuel, p, q, h1, h2, ?_, DataW.trod_stays (kids_book hl hk.1) (book_sized hk.1) (fun h => by cases h) ⟨hk.2, book_self t⟩ h4 (fun x hx => hb.same (hlt x (by simp only [List.mem_append]; exact .inl (.inr hx)))) (fun x hx => hs x (by simp only [List.mem_append]; exact .inl (.inr hx))),
    jq_ hl hb h5 (fun m hm => ht m (List.mem_cons_of_mem _ hm)) (fun x hx => hlt x (List.mem_append_right _ hx)) (fun x hx => hs x (List.mem_append_right _ hx)), rfl⟩
   rw [← h3]
   unfold World.var?
   rw [h1]
   simp only [Option.bind_some]
   have hg := ae9_ h1 h3
   rw [hb.block g hg]
theorem yf_ (hl : laidOutB P = true) {tb : TypeId} (hu : P.underlying tb = some .bool) {f : Func} {s : ChangeSpec} {args : Array Value} {ds gs : List (DataW H)} {before : List MemPlace}
  (hW : DataW.Whole enc P f.params.toList s.vars false W args.toList ds gs before) (hb : Below W.heap.size W W')
  (hts : ∀ t ∈ f.params.toList, tyOk P t) (hvs : ∀ n ∈ s.vars, ∀ g t, P.globalNamed n = some g → (P.globals[g]?).map (·.type) = some t → tyOk P t)
  (hr : f.resultTypes = #[tb]) (hfn : s.fn H (ds ++ gs) = { results := [.lit (.bool true)], args := ds, vars := gs }) :
  s.post enc P f false true false false W args (.bool true) W' := by
 have hlt := hW.lt
 have hold : ∀ p ∈ before, (fun b => decide (b < W.heap.size)) p.block = true := fun p hp => by simpa using hlt p hp
 have hW' := hW
 obtain ⟨pa, pv, hA, hV, hps, hz, hn⟩ := hW'
 have hla : ∀ x ∈ pa, x.block < W.heap.size := fun x hx => hlt x (by rw [hps]; exact List.mem_append_left _ hx)
 have hlv : ∀ x ∈ pv, x.block < W.heap.size := fun x hx => hlt x (by rw [hps]; exact List.mem_append_right _ hx)
 have hres : ∀ (b : Nat) (sp : Nat → Bool) (hd : Bool), DataW.TrodAll enc P W' b sp hd f.resultTypes.toList ((Value.bool true).resultList f.resultTypes.size) [.lit (.bool true)] [] := fun b sp hd => by
  rw [hr]; exact trodAll_mk1 (shut_bool hu _)
 have hargs : ∀ sp : Nat → Bool, (∀ p ∈ before, sp p.block = true) → DataW.TrodAll enc P W' 0 sp true f.params.toList args.toList ds pa := fun sp hs => lc_ hl hb hA hts hla fun x hx => hs x (by rw [hps]; exact List.mem_append_left _ hx)
 have hvars : ∀ sp : Nat → Bool, (∀ p ∈ before, sp p.block = true) → DataW.TrodVars enc P W' sp s.vars gs pv := fun sp hs => jq_ hl hb hV hvs hlv fun x hx => hs x (by rw [hps]; exact List.mem_append_right _ hx)
 have hok : ∀ (j : Nat) (t : TypeId) (r : Value), f.resultTypes[j]? = some t → ((Value.bool true).resultList f.resultTypes.size)[j]? = some r → Value.okWide P W' .any 0 t r := ok_one hr rfl (okWide_bool_mk hu _)
 refine ⟨ds, gs, before, [], pa, pv, hW, by rw [hfn]; exact hres _ _ _, by rw [hfn]; exact hargs _ hold, by rw [hfn]; exact hvars _ hold, World.keptBut_mono (fun p hp => ⟨hp, ?_⟩) (hb.frame (· ∈ before)), fun _ => ?_⟩
 ·rw [hps, List.mem_append] at hp
  exact Or.inr hp
 ·refine ⟨hok, _, _, ([] ++ pa) ++ pv, ⟨[] ++ pa, pv, trodAll_append (hargs _ (fun _ _ => rfl)) (hres _ _ _), hvars _ (fun _ _ => rfl), rfl, ?_, ?_⟩, ?_⟩
  ·intro b off hp
   have hp' : MemPlace.cell b off ∈ before := by rw [hps]; simpa using hp
   rw [hb.frozen (hlt _ hp')]
   exact hz b off hp'
  ·intro ha; cases ha
  ·intro p hp _
   rw [hps]
   simpa using hp
end
theorem aj7_ : ∀ n ∈ ["loop.example/interlinear/impl.ownWords"], ∀ g t, Tryz.prog.globalNamed n = some g → (Tryz.prog.globals[g]?).map (·.type) = some t → tyOk Tryz.prog t := fun n hn g t hg ht => by
 obtain rfl : n = "loop.example/interlinear/impl.ownWords" := by simpa using hn
 obtain rfl := Option.some.inj (gOwn.symm.trans hg)
 obtain rfl := Option.some.inj (gtOwn.symm.trans ht)
 exact ⟨by kernel_rfl, of_decide_eq_true (by kernel_rfl)⟩
end
end Go.Proofs.YtefmbmafdgedmaaGreatDoor
