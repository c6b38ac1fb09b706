/- Tree logic, part 29: the room of no slice; a slice of none; room made for none. Conditions: none. -/
import Derived.Test.YtpikbndepapbhaaGreatDoorK4
import Derived.Lib.AppendZerosOnto
import Derived.Test.YtpikbndepapbhaaGreatDoorKg
import Derived.Test.YtpikbndepapbhaaGreatDoorK15
import Derived.Test.YtpikbndepapbhaaGreatDoorK12
import Derived.Test.YtpikbndepapbhaaGreatDoorK13
import Derived.Test.YtpikbndepapbhaaGreatDoorK14
import Derived.Test.YtpikbndepapbhaaGreatDoorK10
set_option linter.unusedVariables false
set_option linter.unusedSimpArgs false
namespace Go.Proofs.YtpikbndepapbhaaGreatDoor
section
open Go.RowKit
section
variable {E : Env} {C : Cx} {φ : Phi} {s : St} {o : Oper}
theorem ahy_ {x : Operand} {t el z y : Nat} {zc : List V} (hp : PC E o s) (ho : o.op = .call { callee := .builtin .cap, args := #[x], argTypes := #[t] }) (ht : (bz_ E.P t).map (·.k) = some (.sl el z y zc)) (hx : s.pv E x = .sl true []) : Op1 E o s { v := .i .i64 0 } := by
 refine Op1.pure' hp fun φ S w ρ hr _ => ?_
 have h1 := hr x (by simp [ho, Op.operands, Call.operands])
 rw [hx] at h1; simp only [VR] at h1
 obtain ⟨hu, _⟩ := eq_ ht
 obtain ⟨A, c, z, xs, h2, _, _, h3, _⟩ := h1
 have hc : c = 0 := h3 trivial
 subst hc
 exact ⟨_, by simp [execOp, ho, h2, resolve, invoke, builtin, Builtin.cap_, run_underlying hu]; rfl, by simp [VR, goInt]⟩
def jb_ (E : Env) : CallC E where
 ef := fun _ _ => { v := .i .i64 0 }
 ob := fun o s => ∃ x t el z y zc, pcB E o s = true ∧ o.op = .call { callee := .builtin .cap, args := #[x], argTypes := #[t] } ∧ (bz_ E.P t).map (·.k) = some (.sl el z y zc) ∧ s.pv E x = .sl true []
 ok := fun o s ⟨_, _, _, _, _, _, h1, h2, h3, h4⟩ => ahy_ (b6_ h1) h2 h3 h4
theorem ag4_ {x h : Operand} {t el z y : Nat} {zc : List V} (hp : PC E o s) (ho : o.op = .slice t x none (some h) none) (ht : (bz_ E.P t).map (·.k) = some (.sl el z y zc)) (hz : 0 < z) (hx : s.pv E x = .sl true []) (hh : s.pv E h = .i .i64 0) : Op1 E o s { v := .sl true [] } := by
 refine Op1.pure' hp fun φ S w ρ hr _ => ?_
 have h1 := hr x (by simp [ho, Op.operands])
 have h2 := hr h (by simp [ho, Op.operands])
 rw [hx] at h1; rw [hh] at h2; simp only [VR] at h1 h2
 obtain ⟨hu, hzz, _⟩ := eq_ ht
 obtain ⟨A, c, z1, xs, h3, q1, h5, h4, h6, h7⟩ := h1
 have hc : c = 0 := h4 trivial
 subst hc
 have hb := i5_ (P := E.P) (w := w) true 0 0 (lo := none) (hi := some 0) (mx := none) (lv := none) (hv := some (.int .i64 0)) (mv := none) (.inl ⟨rfl, rfl⟩) (.inr ⟨.i64, 0, rfl, rfl⟩) (.inl ⟨rfl, rfl⟩) (by simp) (by simp) (by simp) (by simp) (by simp) (by simp)
 have hso := c0_ (P := E.P) w hzz.symm hz
 refine ⟨.slice A 0 0, ?_, ?_⟩
 ·simp [execOp, ho, h3, h2, Instr.sliceAt, Instr.slice, run_underlying hu, hb, hso]
 ·simp only [VR]
  exact ⟨A, 0, z1, xs, rfl, q1, h5, h4, h6, h7⟩
def gr_ (E : Env) : CallC E where
 ef := fun _ _ => { v := .sl true [] }
 ob := fun o s => ∃ x h t el z y zc, pcB E o s = true ∧ o.op = .slice t x none (some h) none ∧ (bz_ E.P t).map (·.k) = some (.sl el z y zc) ∧ 0 < z ∧ s.pv E x = .sl true [] ∧ s.pv E h = .i .i64 0
 ok := fun o s ⟨_, _, _, _, _, _, _, h1, h2, h3, h4, h5, h6⟩ => ag4_ (b6_ h1) h2 h3 h4 h5 h6
theorem afm_ {x y : Operand} {t tn el z yb l' n : Nat} {kn : IntKind} {zc : List V} (hp : PC E o s) (ho : o.op = .call { callee := .builtin .append, args := #[x, y], argTypes := #[t, tn] }) (ht : (bz_ E.P t).map (·.k) = some (.sl el z yb zc)) (htn : (bz_ E.P tn).map (·.k) = some (.int kn)) (hz : 0 < z) (hyb : 0 < yb) (hzl : zc.length = z) (hz1 : zc.all V.one = true)
  (hx : s.pv E x = .sl true []) (hy : s.pv E y = .i .i64 n) (h0 : 0 < n) (hb : n * yb ≤ 140737488355328) : Op1 E o s { v := .ow l' z 0 n, wr := [(l', some ⟨el, z, []⟩)], nw := [l'] } := by
 have ox : x ∈ o.op.operands := by simp [ho, Op.operands, Call.operands]
 have oy : y ∈ o.op.operands := by simp [ho, Op.operands, Call.operands]
 have hpx := hp x ox
 have hpy := hp y oy
 refine Op1.of fun s' e1 e2 e3 C φ a w hr => ?_
 have h1 := hr.pv (x := x) (by rw [e1 x ox]; exact hpx)
 have h2 := hr.pv (x := y) (by rw [e1 y oy]; exact hpy)
 have e1x : s'.pv E x = s.pv E x := by unfold St.pv; rw [e1 x ox]
 have e1y : s'.pv E y = s.pv E y := by unfold St.pv; rw [e1 y oy]
 rw [e1x, hx] at h1; rw [e1y, hy] at h2
 simp only [VR] at h1 h2
 obtain ⟨hu, hzz, hyy, hzero⟩ := eq_ ht
 obtain ⟨i, zv, hi, hiz, hzv, hzn⟩ := fd_ (φ := φ) (S := C.S φ s'.m) (w := w) hzero.symm hzl (fg_ hz1)
 have his : i.size = z := by rw [hzz]; simp [Program.cellsOf, hi]
 have hib : i.bytes = yb := by rw [hyy]; simp [Program.bytesOf, hi]
 have hl' : s'.u l' = false := e3 l' (by simp)
 obtain ⟨A, c, z1, xs, f1, f2, f3, f4, f5, f6⟩ := h1
 have hc : c = 0 := f4 trivial
 subst hc
 have hn : n ≤ 140737488355328 := Nat.le_trans (Nat.le_mul_of_pos_right n hyb) hb
 have hun : E.P.underlying tn = some (.int kn) := by
  cases h : bz_ E.P tn with
  | none => rw [h] at htn; cases htn
  | some ti => rw [h] at htn; exact on_ h (by simpa using htn)
 have hg := Lib.run_append_grow_zeros (P := E.P) w t tn o.type el i zv .i64 kn hu hun hi hiz A 0 0 [] (by cases A <;> simp [Builtin.firstCells, loadCells, loadCellsFrom]) n h0 (by omega) (by omega) (by omega) (by rw [hib]; omega) (by rw [hib, Nat.zero_add]; have e : Builtin.nextslicecap n 0 = n := (by unfold Builtin.nextslicecap; rw [if_pos (by omega)]); rw [e]; omega)
 have hrun : (execOp a.eval o).run E.P w = .ok (.value (.slice (some ⟨w.heap.size, 0, none⟩) (0 + n) (grownCap w (0 + n) 0 el))) (w.drew.alloc (.cells ((([] : List Value).toArray ++ Builtin.zeroCells zv.cells n) ++ Builtin.zeroCells zv.cells (grownCap w (0 + n) 0 el - (0 + n))) el)) := by
  simp only [List.length_nil] at f1
  simp [execOp, ho, resolve, invoke, builtin, f1, h2]
  simp at hg
  rw [hg]; rfl
 obtain ⟨k1, _⟩ := hr.drew.alloc (l := l') hl' (T := el) hz (xs := []) VRr.nil (arr := (([] : List Value).toArray ++ Builtin.zeroCells zv.cells n) ++ Builtin.zeroCells zv.cells (grownCap w (0 + n) 0 el - (0 + n))) (by simp)
 refine ⟨_, _, _, .inl hrun, by rw [ho_]; exact k1, ?_⟩
 simp only [VR]
 refine ⟨_, _, by rw [Nat.zero_add], by have := grownCap_ge w (0 + n) 0 el; rw [Nat.zero_add] at this; simpa using this, i2_ _ _ _ _ (by unfold maxLen; omega), .inr ⟨w.heap.size, el, _, by simp, by simp, fj_ (heap_alloc_new w.drew _), ?_⟩⟩
 have := grownCap_ge w (0 + n) 0 el
 simp only [Array.size_append, size_zeroCells, hzn, List.size_toArray, List.length_nil, Nat.zero_add] at this ⊢
 rw [← Nat.add_mul]
 exact Nat.mul_le_mul_right _ (by omega)
def gt_ (E : Env) (el z l' n : Nat) : CallC E where
 ef := fun _ _ => { v := .ow l' z 0 n, wr := [(l', some ⟨el, z, []⟩)], nw := [l'] }
 ob := fun o s => ∃ x y t tn kn yb zc, pcB E o s = true ∧ o.op = .call { callee := .builtin .append, args := #[x, y], argTypes := #[t, tn] } ∧ (bz_ E.P t).map (·.k) = some (.sl el z yb zc) ∧ (bz_ E.P tn).map (·.k) = some (.int kn) ∧ 0 < z ∧ 0 < yb ∧ zc.length = z ∧ zc.all V.one = true ∧ s.pv E x = .sl true [] ∧ s.pv E y = .i .i64 n ∧ 0 < n ∧ n * yb ≤ 140737488355328
 ok := fun o s ⟨_, _, _, _, _, _, _, h1, h2, h3, h4, h5, h6, h7, h8, h9, h10, h11, h12⟩ => afm_ (b6_ h1) h2 h3 h4 h5 h6 h7 h8 h9 h10 h11 h12
end
end
section
set_option maxRecDepth 100000
set_option maxHeartbeats 4000000
theorem aj3_ (n : Nat) (h0 : 0 < n) (h1 : n ≤ 100000) : ACall En 137 [.sl true [], .i .i64 n] [] [.ow 0 4 0 0] [⟨47, 4, []⟩] := by
 have hw : IntKind.i64.wrap ((n : Int) - 0) = n := by rw [bd_ (by omega) (by omega)]; omega
 have hw0 : IntKind.i64.wrap (0 : Int) = 0 := by rw [bd_ (by omega) (by omega)]
 refine al_ (fn := Tryz.f137) [32] Tryz.func137 rfl rfl (by simp) fun C => ?_
 rw [av_]
 simp only [Tryz.ntmps137, T7_, List.length_nil, Nat.reduceAdd, Nat.reduceSub, List.replicate_succ, List.replicate_zero, List.cons_append, List.nil_append, bt_]
 refine .seq (.rgn [] (by simp only [go_sem, seval, jb_, gr_, gt_, ag_, ak_, hw, hw0]; rfl) ?_ ?_)
 ·first | trivial | simp
 refine .seq (.seq (.rgn [] (by simp only [go_sem, seval, jb_, gr_, gt_, ag_, ak_, hw, hw0]; rfl) ?_ ?_))
 ·first | trivial | simp
 refine .condB (by simp only [go_sem, seval, jb_, gr_, gt_, ag_, ak_, hw, hw0]; rfl) (by simp only [go_sem, seval, jb_, gr_, gt_, ag_, ak_, hw, hw0]) (fun h6 => ?_) (fun h6 => ?_)
 ·simp at h6; omega
 ·refine .skip (.seq (.seq (.rgnS [10] [jb_ En] (by simp only [go_sem, seval, jb_, gr_, gt_, ag_, ak_, hw, hw0]; rfl) ?_ ?_)))
  ·exact ⟨_, _, _, _, _, _, rfl, by simp only [go_sem, seval]; rfl, rfl⟩
  refine .seq (.rgn [] (by simp only [go_sem, seval, jb_, gr_, gt_, ag_, ak_, hw, hw0]; rfl) ?_ ?_)
  ·first | trivial | simp
  refine .condB (by simp only [go_sem, seval, jb_, gr_, gt_, ag_, ak_, hw, hw0]; rfl) (by simp only [go_sem, seval, jb_, gr_, gt_, ag_, ak_, hw, hw0]) (fun h16 => ?_) (fun h16 => ?_)
  ·refine .rgnS [19, 20, 22] [jb_ En, gr_ En, gt_ En 47 4 32 n] (by simp only [go_sem, seval, jb_, gr_, gt_, ag_, ak_, hw, hw0]; rfl) ?_ ?_
   ·and_intros <;> first | exact ⟨_, _, _, _, _, _, rfl, by simp only [go_sem, seval]; rfl, rfl⟩ | exact ⟨_, _, _, _, _, _, _, rfl, by simp only [go_sem, seval]; rfl, by decide, rfl, rfl⟩ | exact ⟨_, _, _, _, _, _, _, rfl, by simp only [go_sem, seval]; rfl, by simp only [go_sem, seval]; rfl, by decide, rfl, rfl, rfl, rfl, h0, by omega⟩ | omega | (simp; done)
   refine .seq (.rgn [] (by simp only [go_sem, seval, jb_, gr_, gt_, ag_, ak_, hw, hw0]; rfl) ?_ ?_)
   ·first | trivial | simp
   refine .ret ⟨.inr rfl, ?_⟩
   exact Out.mem' (by simp only [Tryz.results137]; rfl) (by simp only [ax_, a6_, go_sem, seval, jb_, gr_, gt_, ag_, ak_, hw, hw0]) (by simp only [a4_, rns, rn, go_sem, seval, jb_, gr_, gt_, ag_, ak_, hw, hw0]) (by simp) rfl (by decide) (by simp only [go_sem, seval, jb_, gr_, gt_, ag_, ak_, hw, hw0]) (by simp only [ak_, go_sem, seval, jb_, gr_, gt_, ag_, ak_, hw, hw0]) (by simp only [ag_, go_sem, seval, jb_, gr_, gt_, ag_, ak_, hw, hw0])
  ·simp at h16; omega
end
section
set_option maxRecDepth 100000
set_option maxHeartbeats 4000000
theorem wt_ (s : Str) (hs : s.length ≤ 281474976710656) : ACall En 97 [.s s] [] [.b (!fe_ s)] [] := by
 refine al_ (fn := Tryz.f97) [] Tryz.func97 rfl rfl (by simp) fun C => ?_
 rw [av_]
 simp only [Tryz.ntmps97, T7_, List.length_nil, Nat.reduceAdd, Nat.reduceSub, List.replicate_succ, List.replicate_zero, List.cons_append, List.nil_append, bt_]
 refine .seq (.rgn [] (by simp only [go_sem, seval]; rfl) ?_ ?_)
 ·first | trivial | simp
 refine .seq (.rgn [a3_ (ok_ s hs)] (by simp only [go_sem, seval]; rfl) ?_ ?_)
 ·first | trivial | simp
 refine .ret ⟨.inr rfl, ?_⟩
 exact Out.plain (by simp only [Tryz.results97]; rfl) (by simp only [ax_, a6_, go_sem, seval] <;> (split <;> rfl)) (by simp only [a4_, go_sem, seval] <;> (simp_all)) (by simp only [go_sem, seval])
theorem ahj_ (l : List Str) (hs : ∀ s ∈ l, s.length ≤ 281474976710656) (hl : l.length ≤ 1000000) : ACall En 135 [.sl false (bm_ l), .fn (.func 97) [] []] [] [.i .i64 (t0_ (fun p => !fe_ p) l)] [] := by
 refine al_ (fn := Tryz.f135) [] Tryz.func135 rfl rfl (by simp) fun C => ?_
 rw [av_]
 simp only [Tryz.ntmps135, T7_, List.length_nil, Nat.reduceAdd, Nat.reduceSub, List.replicate_succ, List.replicate_zero, List.cons_append, List.nil_append, bt_]
 refine .seq (.rgn [] (by simp only [go_sem, seval, ab_, aa_]; rfl) ?_ ?_)
 ·(first | trivial | (simp; done) | (simp only [T3_] at h9; and_intros <;> omega))
 refine .seq (.seq (.rgn [] (by simp only [go_sem, seval, ab_, aa_]; rfl) ?_ ?_))
 ·(first | trivial | (simp; done) | (simp only [T3_] at h9; and_intros <;> omega))
 refine .block (.loopK (fun k : Nat => ⟨[.sl false (bm_ l), .fn (.func 97) [] [], .no, .no, .no, .no, .no, .i .i64 l.length, .i .i64 k, .no, .no, .no, .no, .no, .no, .no, .no, .no, .no], be_ [], us []⟩) (fun k : Nat => k ≤ l.length ∧ (l.take k).any (fun p => !fe_ p) = false) (fun k : Nat => l.length - k) (0) ?_ ?_ (fun k hI => ?_))
 ·simp
 ·exact Can.weak (Weak.lit (by simp only [go_sem, seval, ab_, aa_, as_, leV, aq_, ar_, V.inn, us, T9_, Ta_] <;> (simp)) (by simp only [go_sem, seval, ab_, aa_, as_, leV, aq_, ar_, V.inn, us, T9_, Ta_]) (by simp only [go_sem, seval, ab_, aa_, as_, leV, aq_, ar_, V.inn, us, T9_, Ta_]))
 refine .seq (.rgn [] (by simp only [go_sem, seval, ab_, aa_]; rfl) ?_ ?_)
 ·(first | trivial | (simp; done) | (simp only [T3_] at h9; and_intros <;> omega))
 refine .seq (.condB (by simp only [go_sem, seval, ab_, aa_]; rfl) (by simp only [go_sem, seval, ab_, aa_]) (fun h9 => ?_) (fun h9 => ?_))
 ·refine .skip (.seq (.block (.seq (.rgn [] (by simp only [go_sem, seval, ab_, aa_]; rfl) ?_ ?_))))
  ·(first | trivial | (simp; done) | (simp only [T3_] at h9; and_intros <;> omega))
  refine .seq (.rgn [cm_ (k < l.length) (fun h => wt_ (l.getD k []) (hs _ (bp_ h)))] (by simp only [go_sem, seval, ab_, aa_, cj_ (show k < l.length by simpa using h9)]; rfl) ?_ ?_)
  ·(first | trivial | (simp; done) | (simp only [T3_] at h9; and_intros <;> omega))
  refine .condB (by simp only [go_sem, seval, ab_, aa_]; rfl) (by simp only [go_sem, seval, ab_, aa_]) (fun h16 => ?_) (fun h16 => ?_)
  ·refine .seq (.rgn [] (by simp only [go_sem, seval, ab_, aa_]; rfl) ?_ ?_)
   ·(first | trivial | (simp; done) | (simp only [T3_] at h9; and_intros <;> omega))
   refine .ret ⟨.inr rfl, ?_⟩
   exact Out.plain (by simp only [Tryz.results135]; rfl) (by simp only [ax_, a6_, go_sem, seval, ab_, aa_] <;> (split <;> rfl)) (by simp only [a4_, go_sem, seval, ab_, aa_] <;> (simp at h9; rw [yi_ (d := []) h9 hI.2 h16])) (by simp only [go_sem, seval, ab_, aa_])
  ·refine .skip (.rgn [] (by simp only [go_sem, seval, ab_, aa_]; rfl) ?_ ?_)
   ·(first | trivial | (simp; done) | (simp only [T3_] at h9; and_intros <;> omega))
   refine Exists.intro (k + 1) ⟨?_, ?_, ?_⟩
   ·simp at h9; refine ⟨by omega, ?_⟩; rw [wk_ (d := []) h9, hI.2, h16]; rfl
   ·simp at h9; omega
   exact Can.weak (Weak.lit (by simp only [go_sem, seval, ab_, aa_, as_, leV, aq_, ar_, V.inn, us, T9_, Ta_] <;> (rw [bd_ (by omega) (by omega)]; simp)) (by simp only [go_sem, seval, ab_, aa_, as_, leV, aq_, ar_, V.inn, us, T9_, Ta_]) (by simp only [go_sem, seval, ab_, aa_, as_, leV, aq_, ar_, V.inn, us, T9_, Ta_]))
 ·refine .exit (.seq (.rgn [] (by simp only [go_sem, seval, ab_, aa_]; rfl) ?_ ?_))
  ·(first | trivial | (simp; done) | (simp only [T3_] at h9; and_intros <;> omega))
  refine .ret ⟨.inr rfl, ?_⟩
  exact Out.plain (by simp only [Tryz.results135]; rfl) (by simp only [ax_, a6_, go_sem, seval, ab_, aa_] <;> (split <;> rfl)) (by simp only [a4_, go_sem, seval, ab_, aa_] <;> (simp at h9; have h0 := hI.2; rw [T1_ h9] at h0; rw [rl_ h0])) (by simp only [go_sem, seval, ab_, aa_])
theorem adl_ (l : List Str) (hs : ∀ s ∈ l, s.length ≤ 281474976710656) (hl : l.length ≤ 1000000) : ACall En 96 [.sl false (bm_ l), .fn (.func 97) [] []] [] [.b (l.any fun p => !fe_ p)] [] := by
 refine al_ (fn := Tryz.f96) [] Tryz.func96 rfl rfl (by simp) fun C => ?_
 rw [av_]
 simp only [Tryz.ntmps96, T7_, List.length_nil, Nat.reduceAdd, Nat.reduceSub, List.replicate_succ, List.replicate_zero, List.cons_append, List.nil_append, bt_]
 refine .seq (.rgn [] (by simp only [go_sem, seval, aa_]; rfl) ?_ ?_)
 ·first | trivial | simp
 refine .seq (.rgn [a3_ (ahj_ l hs hl)] (by simp only [go_sem, seval, aa_]; rfl) ?_ ?_)
 ·first | trivial | simp
 refine .ret ⟨.inr rfl, ?_⟩
 exact Out.plain (by simp only [Tryz.results96]; rfl) (by simp only [ax_, a6_, go_sem, seval, aa_] <;> (split <;> rfl)) (by simp only [a4_, go_sem, seval, aa_] <;> (rw [yu_])) (by simp only [go_sem, seval, aa_])
def plR (X : List (List Pg)) : List (List V) := X.map fun l => [.sl false (pgR l)]
theorem b2_ (X : List (List Pg)) : (plR X).length = X.length := by simp [plR]
theorem by_ : ∀ X : List (List Pg), ch_ (plR X) = true
 | [] => rfl
 | x :: X => by
  show ch_ ([.sl false (pgR x)] :: plR X) = true
  simp only [ch_, cs_, V.pure, ad_, by_ X, Bool.and_true]
theorem zo_ {X : List (List Pg)} {k : Nat} (h : k < X.length) : (plR X).getD k [] = [.sl false (pgR (X.getD k []))] := by
 simp [plR, T8_, T6_ h]
def nv_ (X : List (List Pg)) (k : Nat) : Nat := ((X.take k).map List.length).sum
theorem li_ {X : List (List Pg)} {k : Nat} (h : k < X.length) : nv_ X (k + 1) = nv_ X k + (X.getD k []).length := by
 unfold nv_
 rw [List.take_add_one, T6_ h, List.map_append, List.sum_append, T8_, T6_ h]; simp
theorem vo_ {X : List (List Pg)} {k : Nat} (h : X.length ≤ k) : nv_ X k = X.flatten.length := by
 unfold nv_
 rw [T1_ h, List.length_flatten]
theorem aga_ {X : List (List Pg)} (k : Nat) : nv_ X k ≤ X.flatten.length := by
 have h : ∀ (a b : List (List Pg)), (a.map List.length).sum ≤ (a ++ b).flatten.length := fun a b => by
  rw [List.flatten_append, T2_, List.length_flatten (L := a)]; omega
 have := h (X.take k) (X.drop k)
 rw [List.take_append_drop] at this
 exact this
theorem abs_ {X : List (List Pg)} {k : Nat} (h : k < X.length) : (X.take (k + 1)).flatten = (X.take k).flatten ++ X.getD k [] := by
 rw [List.take_add_one, T6_ h, List.flatten_append, T8_, T6_ h]; simp
theorem aef_ {X : List (List Pg)} (k : Nat) : (X.take k).flatten.length = nv_ X k := by unfold nv_; rw [List.length_flatten]
theorem aej_ (X : List (List Pg)) (h0 : 0 < X.flatten.length) (h1 : X.flatten.length ≤ 100000) (h2 : X.length ≤ 100) : ACall En 99 [.sl false (plR X)] [] [.ow 0 4 0 X.flatten.length] [⟨47, 4, pgR X.flatten⟩] := by
 have hs := fun k => aga_ (X := X) k
 have hr : ∀ r ∈ pgR X.flatten, r.length = 4 := fun r hr => by obtain ⟨p, _, rfl⟩ := List.mem_map.1 hr; rfl
 have hr2 : ∀ k, ∀ r ∈ pgR (X.getD k []), r.length = 4 := fun k r hr => by obtain ⟨p, _, rfl⟩ := List.mem_map.1 hr; rfl
 refine al_ (fn := Tryz.f99) [80] Tryz.func99 rfl rfl (by simp) fun C => ?_
 rw [av_]
 simp only [Tryz.ntmps99, T7_, List.length_nil, Nat.reduceAdd, Nat.reduceSub, List.replicate_succ, List.replicate_zero, List.cons_append, List.nil_append, bt_]
 refine .seq (.rgn [] (by simp only [go_sem, seval, ag_, ak_, b2_, by_, af_, ad_]; rfl) ?_ ?_)
 ·(first | trivial | (simp; done) | (simp only [T3_] at h12; and_intros <;> omega) | (simp only [T3_] at h28; and_intros <;> omega))
 refine .seq (.rgn [] (by simp only [go_sem, seval, ag_, ak_, b2_, by_, af_, ad_]; rfl) ?_ ?_)
 ·(first | trivial | (simp; done) | (simp only [T3_] at h12; and_intros <;> omega) | (simp only [T3_] at h28; and_intros <;> omega))
 refine .seq (.seq (.rgn [] (by simp only [go_sem, seval, ag_, ak_, b2_, by_, af_, ad_]; rfl) ?_ ?_))
 ·(first | trivial | (simp; done) | (simp only [T3_] at h12; and_intros <;> omega) | (simp only [T3_] at h28; and_intros <;> omega))
 refine .block (.loopK (fun k : Nat => ⟨[.sl false (plR X), .no, .no, .i .i64 (nv_ X k), .no, .no, .no, .no, .no, .sl false (plR X), .i .i64 X.length, .i .i64 k, .no, .no, .no, .no, .no, .no, .no, .no, .no, .no, .no, .no, .no, .no, .no, .no, .no, .no, .no, .no, .no, .no, .no, .no], be_ [], us []⟩) (fun k : Nat => k ≤ X.length) (fun k : Nat => X.length - k) (0) ?_ ?_ (fun k hI => ?_))
 ·simp
 ·exact Can.weak (Weak.lit (by simp only [go_sem, seval, ag_, ak_, b2_, by_, af_, ad_, as_, leV, aq_, ar_, V.inn, us, T9_, Ta_] <;> ((try simp [nv_]))) (by simp only [go_sem, seval, ag_, ak_, b2_, by_, af_, ad_, as_, leV, aq_, ar_, V.inn, us, T9_, Ta_]) (by simp only [go_sem, seval, ag_, ak_, b2_, by_, af_, ad_, as_, leV, aq_, ar_, V.inn, us, T9_, Ta_]))
 refine .seq (.rgn [] (by simp only [go_sem, seval, ag_, ak_, b2_, by_, af_, ad_]; rfl) ?_ ?_)
 ·(first | trivial | (simp; done) | (simp only [T3_] at h12; and_intros <;> omega) | (simp only [T3_] at h28; and_intros <;> omega))
 refine .seq (.condB (by simp only [go_sem, seval, ag_, ak_, b2_, by_, af_, ad_]; rfl) (by simp only [go_sem, seval, ag_, ak_, b2_, by_, af_, ad_]) (fun h12 => ?_) (fun h12 => ?_))
 ·refine .skip (.seq (.block (.seq (.rgn [] (by simp only [go_sem, seval, ag_, ak_, b2_, by_, af_, ad_, zo_ (show k < X.length by simpa using h12)]; rfl) ?_ ?_))))
  ·(first | trivial | (simp; done) | (simp only [T3_] at h12; and_intros <;> omega) | (simp only [T3_] at h28; and_intros <;> omega))
  refine .seq (.rgn [] (by simp only [go_sem, seval, ag_, ak_, b2_, by_, af_, ad_]; rfl) ?_ ?_)
  ·(first | trivial | (simp; done) | (simp only [T3_] at h12; and_intros <;> omega) | (simp only [T3_] at h28; and_intros <;> omega))
  refine .seq (.rgn [] (by simp only [go_sem, seval, ag_, ak_, b2_, by_, af_, ad_]; rfl) ?_ ?_)
  ·(first | trivial | (simp; done) | (simp only [T3_] at h12; and_intros <;> omega) | (simp only [T3_] at h28; and_intros <;> omega))
  refine .condB (by simp only [go_sem, seval, ag_, ak_, b2_, by_, af_, ad_]; rfl) (by simp only [go_sem, seval, ag_, ak_, b2_, by_, af_, ad_]) (fun h20 => ?_) (fun h20 => ?_)
  ·simp only [T3_] at h12 h20; have e := li_ (X := X) (k := k) (by omega); have e2 := hs (k + 1); rw [bd_ (by omega) (by omega)] at h20; omega
  ·refine .skip (.rgn [] (by simp only [go_sem, seval, ag_, ak_, b2_, by_, af_, ad_]; rfl) ?_ ?_)
   ·(first | trivial | (simp; done) | (simp only [T3_] at h12; and_intros <;> omega) | (simp only [T3_] at h28; and_intros <;> omega))
   refine Exists.intro (k + 1) ⟨?_, ?_, ?_⟩
   ·simp at h12; omega
   ·simp at h12; omega
   exact Can.weak (Weak.lit (by simp only [go_sem, seval, ag_, ak_, b2_, by_, af_, ad_, as_, leV, aq_, ar_, V.inn, us, T9_, Ta_] <;> (simp at h12; have e := li_ h12; have e2 := hs (k + 1); rw [bd_ (by omega) (by omega), bd_ (by omega) (by omega)]; (try simp [e]))) (by simp only [go_sem, seval, ag_, ak_, b2_, by_, af_, ad_, as_, leV, aq_, ar_, V.inn, us, T9_, Ta_]) (by simp only [go_sem, seval, ag_, ak_, b2_, by_, af_, ad_, as_, leV, aq_, ar_, V.inn, us, T9_, Ta_]))
 ·refine .exit (.seq (.rgn [bw_ [] [34] (aj3_ X.flatten.length h0 h1)] (by simp only [go_sem, seval, ag_, ak_, b2_, by_, af_, ad_]; rfl) ?_ ?_))
  ·simp only [T4_] at h12; exact ⟨by rw [vo_ (by omega)], by simp⟩
  refine .seq (.seq (.rgn [] (by simp only [go_sem, seval, ag_, ak_, b2_, by_, af_, ad_]; rfl) ?_ ?_))
  ·(first | trivial | (simp; done) | (simp only [T3_] at h12; and_intros <;> omega) | (simp only [T3_] at h28; and_intros <;> omega))
  refine .block (.loopK (fun k : Nat => ⟨[.no, .no, .no, .no, .no, .no, .ow 80 4 0 (nv_ X k), .no, .no, .no, .no, .no, .no, .no, .no, .no, .no, .no, .no, .no, .no, .no, .no, .no, .no, .sl false (plR X), .i .i64 X.length, .i .i64 k, .no, .no, .no, .no, .no, .no, .no, .no], be_ [(80, ⟨47, 4, pgR (X.take k).flatten⟩)], us [80]⟩) (fun k : Nat => k ≤ X.length) (fun k : Nat => X.length - k) (0) ?_ ?_ (fun k hI => ?_))
  ·simp
  ·refine Can.trans (Can.swap 34 80 (by decide) (by decide) (by decide) (by decide) (by simp only [go_sem, seval, ag_, ak_, b2_, by_, af_, ad_, V.cl]) (by simp only [go_sem, seval, ag_, ak_, b2_, by_, af_, ad_, V.cl]) (by simp only [go_sem, seval, ag_, ak_, b2_, by_, af_, ad_, bq_, sw, swM, rnB] <;> rfl) (by simp only [go_sem, seval, ag_, ak_, b2_, by_, af_, ad_, bq_, sw, swM, rnB] <;> rfl) (by simp only [go_sem, seval, ag_, ak_, b2_, by_, af_, ad_, bq_, sw, swM, rnB] <;> rfl)) ?_
   exact Can.weak (Weak.lit (by simp only [go_sem, seval, ag_, ak_, b2_, by_, af_, ad_, as_, leV, aq_, ar_, V.inn, us, T9_, Ta_] <;> ((try simp [nv_]))) (by simp only [go_sem, seval, ag_, ak_, b2_, by_, af_, ad_, as_, leV, aq_, ar_, V.inn, us, T9_, Ta_]) (by simp only [go_sem, seval, ag_, ak_, b2_, by_, af_, ad_, as_, leV, aq_, ar_, V.inn, us, T9_, Ta_] <;> ((try simp [pgR]))))
  refine .seq (.rgn [] (by simp only [go_sem, seval, ag_, ak_, b2_, by_, af_, ad_]; rfl) ?_ ?_)
  ·(first | trivial | (simp; done) | (simp only [T3_] at h12; and_intros <;> omega) | (simp only [T3_] at h28; and_intros <;> omega))
  refine .seq (.condB (by simp only [go_sem, seval, ag_, ak_, b2_, by_, af_, ad_]; rfl) (by simp only [go_sem, seval, ag_, ak_, b2_, by_, af_, ad_]) (fun h28 => ?_) (fun h28 => ?_))
  ·refine .skip (.seq (.block (.seq (.rgn [] (by simp only [go_sem, seval, ag_, ak_, b2_, by_, af_, ad_, zo_ (show k < X.length by simpa using h28)]; rfl) ?_ ?_))))
   ·(first | trivial | (simp; done) | (simp only [T3_] at h12; and_intros <;> omega) | (simp only [T3_] at h28; and_intros <;> omega))
   refine .rgn [] (by simp only [go_sem, seval, ag_, ak_, b2_, by_, af_, ad_]; rfl) ?_ ?_
   ·simp only [T3_] at h28; have e := li_ (X := X) (k := k) (by omega); have e2 := hs (k + 1); exact ⟨hr2 k, by simp, aef_ k, by omega⟩
   refine .rgn [] (by simp only [go_sem, seval, ag_, ak_, b2_, by_, af_, ad_]; rfl) ?_ ?_
   ·(first | trivial | (simp; done) | (simp only [T3_] at h12; and_intros <;> omega) | (simp only [T3_] at h28; and_intros <;> omega))
   refine Exists.intro (k + 1) ⟨?_, ?_, ?_⟩
   ·simp at h28; omega
   ·simp at h28; omega
   refine Can.trans (Can.swap 43 80 (by decide) (by decide) (by decide) (by decide) (by simp only [go_sem, seval, ag_, ak_, b2_, by_, af_, ad_, V.cl]) (by simp only [go_sem, seval, ag_, ak_, b2_, by_, af_, ad_, V.cl]) (by simp only [go_sem, seval, ag_, ak_, b2_, by_, af_, ad_, bq_, sw, swM, rnB] <;> rfl) (by simp only [go_sem, seval, ag_, ak_, b2_, by_, af_, ad_, bq_, sw, swM, rnB] <;> rfl) (by simp only [go_sem, seval, ag_, ak_, b2_, by_, af_, ad_, bq_, sw, swM, rnB] <;> rfl)) ?_
   exact Can.weak (Weak.lit (by simp only [go_sem, seval, ag_, ak_, b2_, by_, af_, ad_, as_, leV, aq_, ar_, V.inn, us, T9_, Ta_] <;> (simp only [T3_] at h28; exact ⟨by rw [li_ (by omega)], bd_ (n := ((k + 1 : Nat) : Int)) (by omega) (by omega)⟩)) (by simp only [go_sem, seval, ag_, ak_, b2_, by_, af_, ad_, as_, leV, aq_, ar_, V.inn, us, T9_, Ta_]) (by simp only [go_sem, seval, ag_, ak_, b2_, by_, af_, ad_, as_, leV, aq_, ar_, V.inn, us, T9_, Ta_] <;> (simp only [T3_] at h28; rw [abs_ (by omega)]; simp [pgR])))
  ·refine .exit (.seq (.rgn [] (by simp only [go_sem, seval, ag_, ak_, b2_, by_, af_, ad_]; rfl) ?_ ?_))
   ·(first | trivial | (simp; done) | (simp only [T3_] at h12; and_intros <;> omega) | (simp only [T3_] at h28; and_intros <;> omega))
   refine .ret ⟨.inr rfl, ?_⟩
   exact Out.mem' (by simp only [Tryz.results99]; rfl) (by simp only [ax_, a6_, go_sem, seval, ag_, ak_, b2_, by_, af_, ad_]) (by simp only [a4_, rns, rn, go_sem, seval, ag_, ak_, b2_, by_, af_, ad_] <;> (simp only [T4_] at h28; rw [vo_ (by omega)])) (by simp) rfl (by decide) (by simp only [go_sem, seval, ag_, ak_, b2_, by_, af_, ad_]) (by simp only [ak_, go_sem, seval, ag_, ak_, b2_, by_, af_, ad_]) (by simp only [ag_, go_sem, seval, ag_, ak_, b2_, by_, af_, ad_] <;> (simp only [T4_] at h28; rw [T1_ (by omega)]))
theorem e9_ (e : Pg) (r : List Pg) : pgR (e :: r) = pgC e :: pgR r := rfl
theorem uh_ (l : List Pg) : ∀ r ∈ pgR l, r.length = 4 := fun r hr => by obtain ⟨p, _, rfl⟩ := List.mem_map.1 hr; rfl
theorem aa1_ (e : Pg) (r : List Pg) (hl : r.length < 1000000) : ACall En 165 [.sl false (pgR (e :: r))] [] [.ow 0 4 0 (r.length + 1)] [⟨47, 4, pgR (e :: r)⟩] := by
 have hc : ∀ l : List Pg, clr 1 (pgR l) = true := fun l => in_ _ _ (ad_ l)
 have hcc : cls 1 (pgC e) = true := ee_ _ _ (qi_ e)
 have hrn : rns [17] (pgC e) = pgC e := eg_ _ _ (qi_ e)
 have hrr : rnr [17] (pgR r) = pgR r := cl_ _ _ (ad_ r)
 refine al_ (fn := Tryz.f165) [17] Tryz.func165 rfl rfl (by simp) fun C => ?_
 rw [av_]
 simp only [Tryz.ntmps165, T7_, List.length_nil, Nat.reduceAdd, Nat.reduceSub, List.replicate_succ, List.replicate_zero, List.cons_append, List.nil_append, bt_]
 refine .seq (.rgn [] (by simp only [go_sem, seval, e9_, af_, hc, hcc, hrn, hrr, rnr]; rfl) ?_ ?_)
 ·(first | trivial | (simp; done) | (simp [pgC]; done))
 refine .seq (.seq (.rgnS [4] [nilO En] (by simp only [go_sem, seval, e9_, af_, hc, hcc, hrn, hrr, rnr]; rfl) ?_ ?_))
 ·(first | trivial | (simp; done) | (simp [pgC]; done))
 refine .condB (by simp only [go_sem, seval, e9_, af_, hc, hcc, hrn, hrr, rnr]; rfl) (by simp only [go_sem, seval, e9_, af_, hc, hcc, hrn, hrr, rnr]) (fun h4 => ?_) (fun h4 => ?_)
 ·exact absurd h4 (by simp)
 ·refine .skip (.seq (.rgn [] (by simp only [go_sem, seval, e9_, af_, hc, hcc, hrn, hrr, rnr]; rfl) ?_ ?_))
  ·refine ⟨uh_ (e :: r), by simp, ?_⟩; omega
  refine .ret ⟨.inr rfl, ?_⟩
  exact Out.mem' (by simp only [Tryz.results165]; rfl) (by simp only [ax_, a6_, go_sem, seval, e9_, af_, hc, hcc, hrn, hrr, rnr]) (by simp only [a4_, rns, rn, go_sem, seval, e9_, af_, hc, hcc, hrn, hrr, rnr] <;> (simp)) (by simp) rfl (by decide) (by simp only [go_sem, seval, e9_, af_, hc, hcc, hrn, hrr, rnr]) (by simp only [ak_, go_sem, seval, e9_, af_, hc, hcc, hrn, hrr, rnr]) (by simp only [ag_, go_sem, seval, e9_, af_, hc, hcc, hrn, hrr, rnr] <;> ((try rfl)))
theorem aib_ (l : List Pg) (hl : l.length < 1000000) : ACall En 164 [.ow 0 4 0 l.length] [⟨47, 4, pgR l⟩] [.ow 0 4 0 l.length] [⟨47, 4, pgR l⟩] := by
 refine al_ (fn := Tryz.f164) [0] Tryz.func164 rfl rfl (by simp) fun C => ?_
 rw [av_]
 simp only [Tryz.ntmps164, T7_, List.length_nil, Nat.reduceAdd, Nat.reduceSub, List.replicate_succ, List.replicate_zero, List.cons_append, List.nil_append, bt_]
 refine .seq (.rgn [] (by simp only [go_sem, seval, ad_, af_]; rfl) ?_ ?_)
 ·first | trivial | simp
 refine .seq (.rgn [] (by simp only [go_sem, seval, ad_, af_]; rfl) ?_ ?_)
 ·first | trivial | simp
 refine .ret ⟨.inr rfl, ?_⟩
 exact Out.mem' (by simp only [Tryz.results164]; rfl) (by simp only [ax_, a6_, go_sem, seval, ad_, af_]) (by simp only [a4_, rns, rn, go_sem, seval, ad_, af_] <;> ((try simp))) (by simp) rfl (by decide) (by simp only [go_sem, seval, ad_, af_]) (by simp only [ak_, go_sem, seval, ad_, af_]) (by simp only [ag_, go_sem, seval, ad_, af_] <;> ((try simp)))
theorem abv_ (l : List Pg) (h0 : 0 < l.length) (hl : l.length < 1000000) : ACall En 136 [.sl false (pgR l)] [] [.ow 0 4 0 l.length] [⟨47, 4, pgR l⟩] := by
 have CC : ACall En 165 [.sl false (pgR l)] [] [.ow 0 4 0 l.length] [⟨47, 4, pgR l⟩] := by
  cases l with
  | nil => simp at h0
  | cons e r => exact aa1_ e r (by simp at hl; omega)
 refine al_ (fn := Tryz.f136) [14] Tryz.func136 rfl rfl (by simp) fun C => ?_
 rw [av_]
 simp only [Tryz.ntmps136, T7_, List.length_nil, Nat.reduceAdd, Nat.reduceSub, List.replicate_succ, List.replicate_zero, List.cons_append, List.nil_append, bt_]
 refine .seq (.rgn [] (by simp only [go_sem, seval, ad_, af_]; rfl) ?_ ?_)
 ·first | trivial | simp
 refine .seq (.rgn [bw_ [] [14] CC, bw_ [14] [] (aib_ l hl)] (by simp only [go_sem, seval, ad_, af_]; rfl) ?_ ?_)
 ·first | trivial | simp
 refine .ret ⟨.inr rfl, ?_⟩
 exact Out.mem' (by simp only [Tryz.results136]; rfl) (by simp only [ax_, a6_, go_sem, seval, ad_, af_]) (by simp only [a4_, rns, rn, go_sem, seval, ad_, af_] <;> ((try simp))) (by simp) rfl (by decide) (by simp only [go_sem, seval, ad_, af_]) (by simp only [ak_, go_sem, seval, ad_, af_]) (by simp only [ag_, go_sem, seval, ad_, af_] <;> ((try simp)))
theorem abe_ (X : List (List Pg)) (h0 : 0 < X.flatten.length) (h1 : X.flatten.length ≤ 100000) (h2 : X.length ≤ 100) : ACall En 99 [.sl false (plR X)] [] [.sl false (pgR X.flatten)] [] :=
 (aej_ X h0 h1 h2).frz1 (by simp [fx_, frz, af_, T1_])
theorem ah8_ {l : List Pg} {k : Nat} (h : k < l.length) : (pgR l).set k [.s (l.getD k Pg0).line, .b (l.getD k Pg0).good, .s (l.getD k Pg0).text, .sl false (inR (l.getD k Pg0).frm)] = pgR l := by
 refine List.ext_getElem (by simp) fun j h1 h2 => ?_
 rw [List.getElem_set]
 split
 ·rename_i e; subst e
  have := dq_ h
  rw [T8_, T6_ h2] at this
  exact this.symm
 ·rfl
theorem aks_ {l : List Pg} {k z n : Nat} {rows : List (List V)} {a t : Str} {g : Bool} (hn : n = rows.length) : gx_ 29 z rows ((pgR l).set k [.s a, .b g, .s t, .ow 29 z 0 n]) = (pgR l).set k [.s a, .b g, .s t, .sl false rows] := by
 have h : ∀ (L : List (List V)) (i : Nat) (r : List V), gx_ 29 z rows (L.set i r) = (gx_ 29 z rows L).set i (fx_ 29 z rows r) := by
  intro L
  induction L with
  | nil => intro i r; rfl
  | cons x L ih =>
   intro i r
   cases i with
   | zero => rfl
   | succ i => simp only [List.set_cons_succ, gx_, ih]
 rw [h, ij_ _ (ad_ l)]
 congr 1
 subst hn
 simp [fx_, frz, T1_]
theorem xm_ (l : List Pg) (h0 : 0 < l.length) (hl : l.length ≤ 100000) (hs : ∀ p ∈ l, pgB p) : ACall En 98 [.sl false (pgR l)] [] [.sl false (pgR l)] [] := by
 refine al_ (fn := Tryz.f98) [] Tryz.func98 rfl rfl (by simp) fun C => ?_
 rw [av_]
 simp only [Tryz.ntmps98, T7_, List.length_nil, Nat.reduceAdd, Nat.reduceSub, List.replicate_succ, List.replicate_zero, List.cons_append, List.nil_append, bt_]
 refine .seq (.rgn [] (by simp only [go_sem, seval, ag_, ak_, af_, ad_, ai_, ac_, an_]; rfl) ?_ ?_)
 ·(first | trivial | (simp; done) | (simp only [T3_] at h11; and_intros <;> first | omega | (simp; done)))
 refine .seq (.rgn [bw_ [] [17] (abv_ l h0 (by omega))] (by simp only [go_sem, seval, ag_, ak_, af_, ad_, ai_, ac_, an_]; rfl) ?_ ?_)
 ·(first | trivial | (simp; done) | (simp only [T3_] at h11; and_intros <;> first | omega | (simp; done)))
 refine .seq (.seq (.rgn [] (by simp only [go_sem, seval, ag_, ak_, af_, ad_, ai_, ac_, an_]; rfl) ?_ ?_))
 ·(first | trivial | (simp; done) | (simp only [T3_] at h11; and_intros <;> first | omega | (simp; done)))
 refine .block (.loopK (fun k : Nat => ⟨[.no, .no, .no, .ow 17 4 0 l.length, .no, .no, .no, .no, .sl false (pgR l), .i .i64 l.length, .i .i64 k, .no, .no, .no, .no, .no, .no, .no, .no, .no, .no, .no, .no, .no], be_ [(17, ⟨47, 4, pgR l⟩)], us [17]⟩) (fun k : Nat => k ≤ l.length) (fun k : Nat => l.length - k) (0) ?_ ?_ (fun k hI => ?_))
 ·simp
 ·exact Can.weak (Weak.lit (by simp only [go_sem, seval, ag_, ak_, af_, ad_, ai_, ac_, an_, as_, leV, aq_, ar_, V.inn, us, T9_, Ta_] <;> ((try simp))) (by simp only [go_sem, seval, ag_, ak_, af_, ad_, ai_, ac_, an_, as_, leV, aq_, ar_, V.inn, us, T9_, Ta_]) (by simp only [go_sem, seval, ag_, ak_, af_, ad_, ai_, ac_, an_, as_, leV, aq_, ar_, V.inn, us, T9_, Ta_]))
 refine .seq (.rgn [] (by simp only [go_sem, seval, ag_, ak_, af_, ad_, ai_, ac_, an_]; rfl) ?_ ?_)
 ·(first | trivial | (simp; done) | (simp only [T3_] at h11; and_intros <;> first | omega | (simp; done)))
 refine .seq (.condB (by simp only [go_sem, seval, ag_, ak_, af_, ad_, ai_, ac_, an_]; rfl) (by simp only [go_sem, seval, ag_, ak_, af_, ad_, ai_, ac_, an_]) (fun h11 => ?_) (fun h11 => ?_))
 ·refine .skip (.seq (.block (.seq (.rgn [] (by simp only [go_sem, seval, ag_, ak_, af_, ad_, ai_, ac_, an_, dq_ (show k < l.length by simpa using h11)]; rfl) ?_ ?_))))
  ·(first | trivial | (simp; done) | (simp only [T3_] at h11; and_intros <;> first | omega | (simp; done)))
  refine .rgn [qj_ [] [29] (k < l.length) (fun h => v1_ (l.getD k Pg0).frm (by have := (hs _ (bp_ (d := Pg0) h)).2.2; omega))] (by simp only [go_sem, seval, ag_, ak_, af_, ad_, ai_, ac_, an_, dq_ (show k < l.length by simpa using h11)]; rfl) ?_ ?_
  ·(first | trivial | (simp; done) | (simp only [T3_] at h11; and_intros <;> first | omega | (simp; done)))
  refine .rgn [] (by simp only [go_sem, seval, ag_, ak_, af_, ad_, ai_, ac_, an_]; rfl) ?_ ?_
  ·(first | trivial | (simp; done) | (simp only [T3_] at h11; and_intros <;> first | omega | (simp; done)))
  refine Exists.intro (k + 1) ⟨?_, ?_, ?_⟩
  ·simp at h11; omega
  ·simp at h11; omega
  refine Can.trans (Can.frz 29 (by simp only [go_sem, seval, ag_, ak_, af_, ad_, ai_, ac_, an_] <;> rfl) (by simp only [go_sem, seval, ag_, ak_, af_, ad_, ai_, ac_, an_]) (by simp only [go_sem, seval, ag_, ak_, af_, ad_, ai_, ac_, an_] <;> rfl) (by simp only [go_sem, seval, ag_, ak_, af_, ad_, ai_, ac_, an_] <;> rfl)) ?_
  exact Can.weak (Weak.lit (by simp only [go_sem, seval, ag_, ak_, af_, ad_, ai_, ac_, an_, as_, leV, aq_, ar_, V.inn, us, T9_, Ta_] <;> (rw [bd_ (by simp at h11; omega) (by simp at h11; omega)]; (try simp))) (by simp only [go_sem, seval, ag_, ak_, af_, ad_, ai_, ac_, an_, as_, leV, aq_, ar_, V.inn, us, T9_, Ta_]) (by simp only [go_sem, seval, ag_, ak_, af_, ad_, ai_, ac_, an_, as_, leV, aq_, ar_, V.inn, us, T9_, Ta_] <;> (simp only [T3_] at h11; rw [aks_ (by rw [an_]), ah8_ (by omega)])))
 ·refine .exit (.seq (.rgn [] (by simp only [go_sem, seval, ag_, ak_, af_, ad_, ai_, ac_, an_]; rfl) ?_ ?_))
  ·(first | trivial | (simp; done) | (simp only [T3_] at h11; and_intros <;> first | omega | (simp; done)))
  refine .frz 17 (by simp only [go_sem, seval, ag_, ak_, af_, ad_, ai_, ac_, an_]; rfl) (by simp only [go_sem, seval, ag_, ak_, af_, ad_, ai_, ac_, an_]) (by simp only [go_sem, seval, ag_, ak_, af_, ad_, ai_, ac_, an_]; rfl) (by simp only [go_sem, seval, ag_, ak_, af_, ad_, ai_, ac_, an_]; rfl) ?_
  refine .ret ⟨.inr rfl, ?_⟩
  exact Out.plain (by simp only [Tryz.results98]; rfl) (by simp only [ax_, a6_, go_sem, seval, ag_, ak_, af_, ad_, ai_, ac_, an_] <;> (split <;> rfl)) (by simp only [a4_, go_sem, seval, ag_, ak_, af_, ad_, ai_, ac_, an_] <;> (simp [T1_, af_, peel])) (by simp only [go_sem, seval, ag_, ak_, af_, ad_, ai_, ac_, an_])
theorem aev_ (l : List Pg) (n : Nat) : (pgR l).take n = pgR (l.take n) := by simp [pgR, List.map_take]
theorem acm_ (l : List Pg) (n : Nat) : (pgR l).drop n = pgR (l.drop n) := by simp [pgR, List.map_drop]
theorem m1_ (l : List Pg) (a : Int) (d : Nat) (ls : List Str) (hs : ∀ p ∈ l, pgB p) (hl : l.length ≤ 1000) (ha : -1000 ≤ a) (ha2 : a ≤ 1000000) (hd : d ≤ 1) (hls : ∀ s ∈ ls, s.length ≤ 2000000) (hn : ls.length ≤ 1) : ACall En 64 [.sl false (pgR l), .i .i64 a, .i .i64 d, .sl false (bm_ ls)] [] [.sl false (pgR (chg l a d ls)), .b (cd_ l a d ls)] [] := by
 have hw1 : IntKind.i64.wrap ((l.length : Int) - d) = (l.length : Int) - d := by rw [bd_ (by omega) (by omega)]
 have hw2 : IntKind.i64.wrap ((l.length : Int) - d + ls.length) = (l.length : Int) - d + ls.length := by rw [bd_ (by omega) (by omega)]
 have hw3 : IntKind.i64.wrap (a + d) = a + d := by rw [bd_ (by omega) (by omega)]
 have hO : cd_ l a d ls = (((d0_ l && (decide (0 ≤ a) && decide (a ≤ (l.length : Int) - d))) && ls.all fe_) && (decide (1 ≤ (l.length : Int) - d + ls.length) && decide ((l.length : Int) - d + ls.length ≤ 16))) := rfl
 have hC1 : cd_ l a d ls = true → 0 < (l7_ l a.toNat d ls).length := fun h => by
  obtain ⟨q1, q2, q3, q4, q5, q6⟩ := ex_ h
  rw [pl_ (by omega)]; omega
 have hC2 : cd_ l a d ls = true → (l7_ l a.toNat d ls).length ≤ 100000 := fun h => by
  obtain ⟨q1, q2, q3, q4, q5, q6⟩ := ex_ h
  rw [pl_ (by omega)]; omega
 have hfl : [l.take a.toNat, ls.map d2_, l.drop (a.toNat + d)].flatten = l7_ l a.toNat d ls := by simp [l7_]
 have hF1 : cd_ l a d ls = true → 0 < [l.take a.toNat, ls.map d2_, l.drop (a.toNat + d)].flatten.length := fun h => by rw [hfl]; exact hC1 h
 have hF2 : cd_ l a d ls = true → [l.take a.toNat, ls.map d2_, l.drop (a.toNat + d)].flatten.length ≤ 100000 := fun h => by rw [hfl]; exact hC2 h
 have hN : ∀ x : Bool, (!d0_ l || !(decide (0 ≤ a) && decide (a ≤ (l.length : Int) - d)) || !ls.all fe_ || !(decide (1 ≤ (l.length : Int) - d + ls.length) && decide ((l.length : Int) - d + ls.length ≤ 16))) = x → cd_ l a d ls = !x := fun x h => by
  rw [hO, ← h, ← Bool.not_and, ← Bool.not_and, ← Bool.not_and, Bool.not_not]
 have hall : (ls.any fun p => !fe_ p) = !ls.all fe_ := by rw [List.any_eq_not_all_not]; simp
 refine al_ (fn := Tryz.f64) [] Tryz.func64 rfl rfl (by simp) fun C => ?_
 rw [av_]
 simp only [Tryz.ntmps64, T7_, List.length_nil, Nat.reduceAdd, Nat.reduceSub, List.replicate_succ, List.replicate_zero, List.cons_append, List.nil_append, bt_]
 refine .seq (.rgn [] (by simp only [go_sem, seval, ag_, ak_, af_, ad_, ai_, ac_, ab_, aa_, hw1, hw2, hw3, hall]; rfl) ?_ ?_)
 ·(first | trivial | (simp; done) | (simp only [T3_] at h43; and_intros <;> first | omega | (simp; done) | (simp; omega)))
 refine .seq (.seq (.rgn [a3_ (mb_ l hs (by omega)), a3_ (w2_ a 0 ((l.length : Int) - d)), a3_ (adl_ ls (fun s h => by have := hls s h; omega) (by omega)), a3_ (w2_ ((l.length : Int) - d + ls.length) 1 16)] (by simp only [go_sem, seval, ag_, ak_, af_, ad_, ai_, ac_, ab_, aa_, hw1, hw2, hw3, hall]; rfl) ?_ ?_))
 ·(first | trivial | (simp; done) | (simp only [T3_] at h43; and_intros <;> first | omega | (simp; done) | (simp; omega)))
 refine .condB (by simp only [go_sem, seval, ag_, ak_, af_, ad_, ai_, ac_, ab_, aa_, hw1, hw2, hw3, hall]; rfl) (by simp only [go_sem, seval, ag_, ak_, af_, ad_, ai_, ac_, ab_, aa_, hw1, hw2, hw3, hall]) (fun h39 => ?_) (fun h39 => ?_)
 ·refine .seq (.rgn [] (by simp only [go_sem, seval, ag_, ak_, af_, ad_, ai_, ac_, ab_, aa_, hw1, hw2, hw3, hall]; rfl) ?_ ?_)
  ·(first | trivial | (simp; done) | (simp only [T3_] at h43; and_intros <;> first | omega | (simp; done) | (simp; omega)))
  refine .ret ⟨.inr rfl, ?_⟩
  exact Out.plainL (by simp only [Tryz.results64]; rfl) (by simp only [ax_, a6_, go_sem, seval, ag_, ak_, af_, ad_, ai_, ac_, ab_, aa_, hw1, hw2, hw3, hall] <;> (split <;> rfl)) (by simp only [a4_, go_sem, seval, ag_, ak_, af_, ad_, ai_, ac_, ab_, aa_, hw1, hw2, hw3, hall] <;> (have e : cd_ l a d ls = false := (by rw [hN _ h39]; rfl); rw [oq_ e, e]; simp [les, leV, ler, pgR])) (by simp only [go_sem, seval, ag_, ak_, af_, ad_, ai_, ac_, ab_, aa_, hw1, hw2, hw3, hall])
 ·refine .skip (.seq (.rgn [] (by simp only [go_sem, seval, ag_, ak_, af_, ad_, ai_, ac_, ab_, aa_, hw1, hw2, hw3, hall]; rfl) ?_ ?_))
  ·(first | trivial | (simp; done) | (simp only [T3_] at h43; and_intros <;> first | omega | (simp; done) | (simp; omega)))
  refine .seqJ (fun u : Unit => ⟨[.sl false (pgR l), .i .i64 a, .i .i64 d, .no, .no, .no, .no, .no, .no, .no, .sl false (pgR (ls.map d2_)), .no, .no, .no, .no, .no, .no, .no, .no, .no, .no, .no, .no, .no, .no, .no, .no, .no, .no, .no, .no, .no, .no, .no, .no, .no, .no, .no, .no, .no, .no, .no, .no, .no, .no, .no, .no, .no, .no, .no, .no, .no, .no, .no, .no, .no, .no, .no, .no, .no, .no, .no, .no, .no], be_ [], us []⟩) (fun u : Unit => cd_ l a d ls = true) ?_ (fun u hJ => ?_)
  ·refine .seq (.rgn [] (by simp only [go_sem, seval, ag_, ak_, af_, ad_, ai_, ac_, ab_, aa_, hw1, hw2, hw3, hall]; rfl) ?_ ?_)
   ·(first | trivial | (simp; done) | (simp only [T3_] at h43; and_intros <;> first | omega | (simp; done) | (simp; omega)))
   refine .block (.loopK (fun k : Nat => ⟨[.sl false (pgR l), .i .i64 a, .i .i64 d, .no, .no, .no, .no, .no, .no, .no, .ow 100 4 0 k, .no, .no, .no, .no, .no, .no, .no, .no, .no, .no, .no, .no, .no, .no, .no, .no, .no, .no, .no, .no, .no, .no, .no, .no, .no, .no, .no, .no, .no, .sl false (bm_ ls), .i .i64 ls.length, .i .i64 k, .no, .no, .no, .no, .no, .no, .no, .no, .no, .no, .no, .no, .no, .no, .no, .no, .no, .no, .no, .no, .no], be_ [(100, ⟨47, 4, pgR ((ls.take k).map d2_)⟩)], us [100]⟩) (fun k : Nat => k ≤ ls.length ∧ cd_ l a d ls = true) (fun k : Nat => ls.length - k) (0) ?_ ?_ (fun k hI => ?_))
   ·exact ⟨Nat.zero_le _, by rw [hN _ h39]; rfl⟩
   ·refine Can.trans (Can.ownSlot 10 100 47 4 (by simp only [go_sem, seval, ag_, ak_, af_, ad_, ai_, ac_, ab_, aa_, hw1, hw2, hw3, hall] <;> rfl) (by simp only [go_sem, seval, ag_, ak_, af_, ad_, ai_, ac_, ab_, aa_, hw1, hw2, hw3, hall]) (by simp only [go_sem, seval, ag_, ak_, af_, ad_, ai_, ac_, ab_, aa_, hw1, hw2, hw3, hall] <;> rfl)) ?_
    exact Can.weak (Weak.lit (by simp only [go_sem, seval, ag_, ak_, af_, ad_, ai_, ac_, ab_, aa_, hw1, hw2, hw3, hall, as_, leV, aq_, ar_, V.inn, us, T9_, Ta_] <;> ((try simp))) (by simp only [go_sem, seval, ag_, ak_, af_, ad_, ai_, ac_, ab_, aa_, hw1, hw2, hw3, hall, as_, leV, aq_, ar_, V.inn, us, T9_, Ta_]) (by simp only [go_sem, seval, ag_, ak_, af_, ad_, ai_, ac_, ab_, aa_, hw1, hw2, hw3, hall, as_, leV, aq_, ar_, V.inn, us, T9_, Ta_] <;> ((try simp [pgR]))))
   refine .seq (.rgn [] (by simp only [go_sem, seval, ag_, ak_, af_, ad_, ai_, ac_, ab_, aa_, hw1, hw2, hw3, hall]; rfl) ?_ ?_)
   ·(first | trivial | (simp; done) | (simp only [T3_] at h43; and_intros <;> first | omega | (simp; done) | (simp; omega)))
   refine .seq (.condB (by simp only [go_sem, seval, ag_, ak_, af_, ad_, ai_, ac_, ab_, aa_, hw1, hw2, hw3, hall]; rfl) (by simp only [go_sem, seval, ag_, ak_, af_, ad_, ai_, ac_, ab_, aa_, hw1, hw2, hw3, hall]) (fun h43 => ?_) (fun h43 => ?_))
   ·refine .skip (.seq (.block (.seq (.rgn [] (by simp only [go_sem, seval, ag_, ak_, af_, ad_, ai_, ac_, ab_, aa_, hw1, hw2, hw3, hall, cj_ (show k < ls.length by simpa using h43)]; rfl) ?_ ?_))))
    ·(first | trivial | (simp; done) | (simp only [T3_] at h43; and_intros <;> first | omega | (simp; done) | (simp; omega)))
    refine .rgn [cm_ (k < ls.length) (fun h => mh_ (ls.getD k []) (by have := hls _ (bp_ (d := []) h); omega))] (by simp only [go_sem, seval, ag_, ak_, af_, ad_, ai_, ac_, ab_, aa_, hw1, hw2, hw3, hall]; rfl) ?_ ?_
    ·(first | trivial | (simp; done) | (simp only [T3_] at h43; and_intros <;> first | omega | (simp; done) | (simp; omega)))
    refine .rgn [] (by simp only [go_sem, seval, ag_, ak_, af_, ad_, ai_, ac_, ab_, aa_, hw1, hw2, hw3, hall]; rfl) ?_ ?_
    ·(first | trivial | (simp; done) | (simp only [T3_] at h43; and_intros <;> first | omega | (simp; done) | (simp; omega)))
    refine Exists.intro (k + 1) ⟨?_, ?_, ?_⟩
    ·simp at h43; exact ⟨by omega, hI.2⟩
    ·simp at h43; omega
    refine Can.trans (Can.swap 60 100 (by decide) (by decide) (by decide) (by decide) (by simp only [go_sem, seval, ag_, ak_, af_, ad_, ai_, ac_, ab_, aa_, hw1, hw2, hw3, hall, V.cl]) (by simp only [go_sem, seval, ag_, ak_, af_, ad_, ai_, ac_, ab_, aa_, hw1, hw2, hw3, hall, V.cl]) (by simp only [go_sem, seval, ag_, ak_, af_, ad_, ai_, ac_, ab_, aa_, hw1, hw2, hw3, hall, bq_, sw, swM, rnB] <;> rfl) (by simp only [go_sem, seval, ag_, ak_, af_, ad_, ai_, ac_, ab_, aa_, hw1, hw2, hw3, hall, bq_, sw, swM, rnB] <;> rfl) (by simp only [go_sem, seval, ag_, ak_, af_, ad_, ai_, ac_, ab_, aa_, hw1, hw2, hw3, hall, bq_, sw, swM, rnB] <;> rfl)) ?_
    exact Can.weak (Weak.lit (by simp only [go_sem, seval, ag_, ak_, af_, ad_, ai_, ac_, ab_, aa_, hw1, hw2, hw3, hall, as_, leV, aq_, ar_, V.inn, us, T9_, Ta_] <;> (rw [bd_ (by simp at h43; omega) (by simp at h43; omega)]; (try simp))) (by simp only [go_sem, seval, ag_, ak_, af_, ad_, ai_, ac_, ab_, aa_, hw1, hw2, hw3, hall, as_, leV, aq_, ar_, V.inn, us, T9_, Ta_]) (by simp only [go_sem, seval, ag_, ak_, af_, ad_, ai_, ac_, ab_, aa_, hw1, hw2, hw3, hall, as_, leV, aq_, ar_, V.inn, us, T9_, Ta_] <;> (rw [bkTk (by simpa using h43), ai_])))
   ·refine .exit ?_
    refine Exists.intro (()) ⟨?_, ?_⟩
    ·exact hI.2
    refine Can.trans (Can.frz 100 (by simp only [go_sem, seval, ag_, ak_, af_, ad_, ai_, ac_, ab_, aa_, hw1, hw2, hw3, hall] <;> rfl) (by simp only [go_sem, seval, ag_, ak_, af_, ad_, ai_, ac_, ab_, aa_, hw1, hw2, hw3, hall]) (by simp only [go_sem, seval, ag_, ak_, af_, ad_, ai_, ac_, ab_, aa_, hw1, hw2, hw3, hall] <;> rfl) (by simp only [go_sem, seval, ag_, ak_, af_, ad_, ai_, ac_, ab_, aa_, hw1, hw2, hw3, hall] <;> rfl)) ?_
    exact Can.weak (Weak.lit (by simp only [go_sem, seval, ag_, ak_, af_, ad_, ai_, ac_, ab_, aa_, hw1, hw2, hw3, hall, as_, leV, aq_, ar_, V.inn, us, T9_, Ta_] <;> (simp only [T4_] at h43; (obtain rfl : k = ls.length := (by omega)); simp [T1_, af_, leV, a8_])) (by simp only [go_sem, seval, ag_, ak_, af_, ad_, ai_, ac_, ab_, aa_, hw1, hw2, hw3, hall, as_, leV, aq_, ar_, V.inn, us, T9_, Ta_]) (by simp only [go_sem, seval, ag_, ak_, af_, ad_, ai_, ac_, ab_, aa_, hw1, hw2, hw3, hall, as_, leV, aq_, ar_, V.inn, us, T9_, Ta_]))
  refine .seq (.rgnD [cm_ (cd_ l a d ls = true) (fun h => abe_ [l.take a.toNat, ls.map d2_, l.drop (a.toNat + d)] (hF1 h) (hF2 h) (by simp)), cm_ (cd_ l a d ls = true) (fun h => xm_ (l7_ l a.toNat d ls) (hC1 h) (hC2 h) (adc_ hs hls))] enM (by simp only [go_sem, seval, ag_, ak_, af_, ad_, ai_, ac_, ab_, aa_, hw1, hw2, hw3, hall, plR, List.map_cons, List.map_nil, T7_, List.length_nil, aev_, acm_, List.drop_zero, List.take_length, Int.toNat_natCast, show (a + (d : Int)).toNat = a.toNat + d by have := (ex_ hJ).2.1; omega]; rfl) (by rfl) ?_ ?_)
  ·obtain ⟨q1, q2, q3, q4, q5, q6⟩ := ex_ hJ; refine ⟨⟨⟨⟨by omega, by omega, by omega, fun h => absurd rfl h⟩, ⟨by omega, by omega, by omega⟩, .inr (uh_ l)⟩, hJ⟩, by rw [hfl]; exact a8_ _, hJ⟩
  refine .ret ⟨.inr rfl, ?_⟩
  exact Out.plainL (by simp only [Tryz.results64]; rfl) (by simp only [ax_, a6_, go_sem, seval, ag_, ak_, af_, ad_, ai_, ac_, ab_, aa_, hw1, hw2, hw3, hall] <;> (split <;> rfl)) (by simp only [a4_, go_sem, seval, ag_, ak_, af_, ad_, ai_, ac_, ab_, aa_, hw1, hw2, hw3, hall] <;> (rw [oy_ hJ, hJ]; simp [les, leV, a8_])) (by simp only [go_sem, seval, ag_, ak_, af_, ad_, ai_, ac_, ab_, aa_, hw1, hw2, hw3, hall])
theorem x4_ (l : List Pg) (a : Int) (w : Str) (hs : ∀ p ∈ l, pgB p) (hl : l.length ≤ 1000) (ha : -1000 ≤ a) (ha2 : a ≤ 1000000) (hw : w.length ≤ 2000000) : ACall En 26 [.sl false (pgR l), .i .i64 a, .s w] [] [.sl false (pgR (chg l a 1 [w])), .b (cd_ l a 1 [w])] [] := by
 refine al_ (fn := Tryz.f26) [] Tryz.func26 rfl rfl (by simp) fun C => ?_
 rw [av_]
 simp only [Tryz.ntmps26, T7_, List.length_nil, Nat.reduceAdd, Nat.reduceSub, List.replicate_succ, List.replicate_zero, List.cons_append, List.nil_append, bt_]
 refine .seq (.rgn [] (by simp only [go_sem, seval, ad_, aa_]; rfl) ?_ ?_)
 ·first | trivial | simp
 refine .seq (.rgn [a3_ (m1_ l a 1 [w] hs hl ha ha2 (by decide) (by simpa using hw) (by simp))] (by simp only [go_sem, seval, ad_, aa_]; rfl) ?_ ?_)
 ·first | trivial | simp
 refine .ret ⟨.inr rfl, ?_⟩
 exact Out.plain (by simp only [Tryz.results26]; rfl) (by simp only [ax_, a6_, go_sem, seval, ad_, aa_] <;> (split <;> rfl)) (by simp only [a4_, go_sem, seval, ad_, aa_] <;> (simp_all)) (by simp only [go_sem, seval, ad_, aa_])
theorem z9_ (l : List Pg) (a : Int) (w : Str) (hs : ∀ p ∈ l, pgB p) (hl : l.length ≤ 1000) (ha : -1000 ≤ a) (ha2 : a ≤ 1000000) (hw : w.length ≤ 2000000) : ACall En 29 [.sl false (pgR l), .i .i64 a, .s w] [] [.sl false (pgR (chg l a 0 [w])), .b (cd_ l a 0 [w])] [] := by
 refine al_ (fn := Tryz.f29) [] Tryz.func29 rfl rfl (by simp) fun C => ?_
 rw [av_]
 simp only [Tryz.ntmps29, T7_, List.length_nil, Nat.reduceAdd, Nat.reduceSub, List.replicate_succ, List.replicate_zero, List.cons_append, List.nil_append, bt_]
 refine .seq (.rgn [] (by simp only [go_sem, seval, ad_, aa_]; rfl) ?_ ?_)
 ·first | trivial | simp
 refine .seq (.rgn [a3_ (m1_ l a 0 [w] hs hl ha ha2 (by decide) (by simpa using hw) (by simp))] (by simp only [go_sem, seval, ad_, aa_]; rfl) ?_ ?_)
 ·first | trivial | simp
 refine .ret ⟨.inr rfl, ?_⟩
 exact Out.plain (by simp only [Tryz.results29]; rfl) (by simp only [ax_, a6_, go_sem, seval, ad_, aa_] <;> (split <;> rfl)) (by simp only [a4_, go_sem, seval, ad_, aa_] <;> (simp_all)) (by simp only [go_sem, seval, ad_, aa_])
theorem xc_ (l : List Pg) (a : Int) (hs : ∀ p ∈ l, pgB p) (hl : l.length ≤ 1000) (ha : -1000 ≤ a) (ha2 : a ≤ 1000000) : ACall En 31 [.sl false (pgR l), .i .i64 a] [] [.sl false (pgR (chg l a 1 [])), .b (cd_ l a 1 [])] [] := by
 refine al_ (fn := Tryz.f31) [] Tryz.func31 rfl rfl (by simp) fun C => ?_
 rw [av_]
 simp only [Tryz.ntmps31, T7_, List.length_nil, Nat.reduceAdd, Nat.reduceSub, List.replicate_succ, List.replicate_zero, List.cons_append, List.nil_append, bt_]
 refine .seq (.rgn [] (by simp only [go_sem, seval, ad_, aa_]; rfl) ?_ ?_)
 ·first | trivial | simp
 refine .seq (.rgn [a3_ (m1_ l a 1 [] hs hl ha ha2 (by decide) (fun s h => by cases h) (by simp))] (by simp only [go_sem, seval, ad_, aa_]; rfl) ?_ ?_)
 ·first | trivial | simp
 refine .ret ⟨.inr rfl, ?_⟩
 exact Out.plain (by simp only [Tryz.results31]; rfl) (by simp only [ax_, a6_, go_sem, seval, ad_, aa_] <;> (split <;> rfl)) (by simp only [a4_, go_sem, seval, ad_, aa_] <;> (simp_all)) (by simp only [go_sem, seval, ad_, aa_])
end
section
set_option maxRecDepth 100000
set_option maxHeartbeats 4000000
theorem ahr_ (s : Str) : (tOk s && ((spl s).length : Int) == 1) = fe_ s := by
 have h := re_ s
 have hn := ab5_ s
 have h1 : 0 < (spl s).length := List.length_pos_iff.2 hn
 rw [← Bool.not_inj_iff, ← h, Bool.not_and]
 congr 1
 rw [Bool.eq_iff_iff]
 simp only [Bool.not_eq_true', beq_eq_false_iff_ne, T3_]
 omega
theorem cb_ (l : List Pg) (n : Nat) : (pgR l).take n = pgR (l.take n) := by simp [pgR, List.map_take]
theorem ca_ (l : List Pg) (n : Nat) : (pgR l).drop n = pgR (l.drop n) := by simp [pgR, List.map_drop]
theorem aio_ {l : List Pg} {k : Nat} (h : k < l.length) : pgR (l.take (k + 1)) = pgR (l.take k) ++ [pgC (l.getD k Pg0)] := by
 rw [List.take_add_one, T6_ h, T8_, T6_ h]; unfold pgR; rw [List.map_append]; rfl
theorem b0_ (l : List Pg) : (pgR l).take l.length = pgR l := T1_ (by rw [af_]; exact Nat.le_refl _)
theorem cc_ (l : List Pg) (n : Nat) : ((pgR l).getD n []).drop 4 = [] := by
 rcases Nat.lt_or_ge n l.length with h | h
 ·rw [dq_ h]; rfl
 ·rw [T8_, List.getElem?_eq_none (by rw [af_]; exact h)]; rfl
theorem b8_ (l : List Pg) (p : Pg) : pgR l ++ [[.s p.line, .b p.good, .s p.text, .sl false (inR p.frm)]] = pgR (l ++ [p]) := by simp [pgR, pgC]
theorem b9_ (a b : List Pg) : pgR a ++ pgR b = pgR (a ++ b) := by simp [pgR]
theorem f2_ (l : List Pg) : ∀ r ∈ pgR l, r.length = 4 := fun r hr => by obtain ⟨p, _, rfl⟩ := List.mem_map.1 hr; rfl
theorem ct_ {L : List Pg} {f : List Int} {a t : Str} {g : Bool} : gx_ 33 1 (inR f) (pgR L ++ [[.s a, .b g, .s t, .ow 33 1 0 f.length]]) = pgR (L ++ [⟨a, g, t, f⟩]) := by
 have h : ∀ A B : List (List V), gx_ 33 1 (inR f) (A ++ B) = gx_ 33 1 (inR f) A ++ gx_ 33 1 (inR f) B := by
  intro A B
  induction A with
  | nil => rfl
  | cons x A ih => simp only [List.cons_append, gx_, ih]
 rw [h, ij_ _ (ad_ L), ← b8_]
 congr 1
 simp [gx_, fx_, frz, an_, T1_]
theorem nl_ (l : List Pg) (a : Int) (w : Str) : cd_ l a 1 [w] = !(!d0_ l || decide (a < 0) || decide (a ≥ (l.length : Int)) || !fe_ w) := by
 rw [Bool.eq_iff_iff, ge_]
 simp only [Bool.not_eq_true', Bool.or_eq_false_iff, Bool.not_eq_false', T4_]
 exact ⟨fun ⟨h1, h2, h3, h4⟩ => ⟨⟨⟨h1, by omega⟩, by omega⟩, h4⟩, fun ⟨⟨⟨h1, h2⟩, h3⟩, h4⟩ => ⟨h1, by omega, by omega, h4⟩⟩
theorem xf_ (l : List Pg) (a : Int) (w : Str) : cd_ l a 0 [w] = !(!d0_ l || decide (a < 0) || decide (a > (l.length : Int)) || !fe_ w || decide ((l.length : Int) ≥ 16)) := by
 rw [Bool.eq_iff_iff, jc_]
 simp only [Bool.not_eq_true', Bool.or_eq_false_iff, Bool.not_eq_false', T4_]
 exact ⟨fun ⟨h1, h2, h3, h4, h5⟩ => ⟨⟨⟨⟨h1, by omega⟩, by omega⟩, h4⟩, by omega⟩, fun ⟨⟨⟨⟨h1, h2⟩, h3⟩, h4⟩, h5⟩ => ⟨h1, by omega, by omega, h4, by omega⟩⟩
theorem ro_ (l : List Pg) (a : Int) : cd_ l a 1 [] = !(!d0_ l || decide (a < 0) || decide (a ≥ (l.length : Int)) || decide ((l.length : Int) < 2)) := by
 rw [Bool.eq_iff_iff, hn_]
 simp only [Bool.not_eq_true', Bool.or_eq_false_iff, Bool.not_eq_false', T4_]
 exact ⟨fun ⟨h1, h2, h3, h4⟩ => ⟨⟨⟨h1, by omega⟩, by omega⟩, by omega⟩, fun ⟨⟨⟨h1, h2⟩, h3⟩, h4⟩ => ⟨h1, by omega, by omega, by omega⟩⟩
theorem q0_ (s : Str) (hs : s.length ≤ 281474976710656) : ACall En 65 [.s s] [] [.b (fe_ s)] [] := by
 refine al_ (fn := Tryz.f65) [] Tryz.func65 rfl rfl (by simp) fun C => ?_
 rw [av_]
 simp only [Tryz.ntmps65, T7_, List.length_nil, Nat.reduceAdd, Nat.reduceSub, List.replicate_succ, List.replicate_zero, List.cons_append, List.nil_append, bt_]
 refine .seq (.rgn [] (by simp only [go_sem, seval, ab_, aa_]; rfl) ?_ ?_)
 ·first | trivial | simp
 refine .seq (.rgn [a3_ (j4_ s hs), cm_ (tOk s = true) (fun h => k5_ s (j5_ h))] (by simp only [go_sem, seval, ab_, aa_]; rfl) ?_ ?_)
 ·first | trivial | simp
 refine .ret ⟨.inr rfl, ?_⟩
 exact Out.plain (by simp only [Tryz.results65]; rfl) (by simp only [ax_, a6_, go_sem, seval, ab_, aa_] <;> (split <;> rfl)) (by simp only [a4_, go_sem, seval, ab_, aa_] <;> (rw [ahr_])) (by simp only [go_sem, seval, ab_, aa_])
theorem hi_ (l : List Pg) (hs : ∀ p ∈ l, pgB p) (hl : l.length ≤ 1000) : ACall En 66 [.sl false (pgR l)] [] [.ow 0 4 0 l.length] [⟨47, 4, pgR l⟩] := by
 have hc : ∀ l : List Pg, clr 200 (pgR l) = true := fun l => in_ _ _ (ad_ l)
 have hi : ∀ l : List Int, clr 200 (inR l) = true := fun l => in_ _ _ (ac_ l)
 have hi2 : ∀ l : List Int, (inR l).take l.length = inR l := fun l => T1_ (by rw [an_]; exact Nat.le_refl _)
 have hr : ∀ l : List Pg, rnr (swL 38 80) (pgR l) = pgR l := fun l => cl_ _ _ (ad_ l)
 refine al_ (fn := Tryz.f66) [80] Tryz.func66 rfl rfl (by simp) fun C => ?_
 rw [av_]
 simp only [Tryz.ntmps66, T7_, List.length_nil, Nat.reduceAdd, Nat.reduceSub, List.replicate_succ, List.replicate_zero, List.cons_append, List.nil_append, bt_]
 refine .seq (.rgn [] (by simp only [go_sem, seval, ag_, ak_, af_, ad_, ai_, ac_, an_, hc, hi, hi2, hr, ct_]; rfl) ?_ ?_)
 ·(first | trivial | (simp; done) | (simp only [T3_] at h10; have q := (hs _ (bp_ (d := Pg0) (show k < l.length by omega))).2.2; and_intros <;> first | omega | (simp; done) | (simp; omega) | (intro r hr; obtain ⟨x, _, rfl⟩ := List.mem_map.1 hr; rfl)))
 refine .seq (.rgn [] (by simp only [go_sem, seval, ag_, ak_, af_, ad_, ai_, ac_, an_, hc, hi, hi2, hr, ct_]; rfl) ?_ ?_)
 ·(first | trivial | (simp; done) | (simp only [T3_] at h10; have q := (hs _ (bp_ (d := Pg0) (show k < l.length by omega))).2.2; and_intros <;> first | omega | (simp; done) | (simp; omega) | (intro r hr; obtain ⟨x, _, rfl⟩ := List.mem_map.1 hr; rfl)))
 refine .seq (.seq (.rgn [] (by simp only [go_sem, seval, ag_, ak_, af_, ad_, ai_, ac_, an_, hc, hi, hi2, hr, ct_]; rfl) ?_ ?_))
 ·(first | trivial | (simp; done) | (simp only [T3_] at h10; have q := (hs _ (bp_ (d := Pg0) (show k < l.length by omega))).2.2; and_intros <;> first | omega | (simp; done) | (simp; omega) | (intro r hr; obtain ⟨x, _, rfl⟩ := List.mem_map.1 hr; rfl)))
 refine .block (.loopK (fun k : Nat => ⟨[.sl false (pgR l), .no, .no, .ow 80 4 0 k, .i .i64 k, .no, .no, .no, .no, .no, .no, .no, .no, .no, .no, .no, .no, .no, .no, .no, .no, .no, .no, .no, .no, .no, .no, .no, .no, .no], be_ [(80, ⟨47, 4, pgR (l.take k)⟩)], us [80]⟩) (fun k : Nat => k ≤ l.length) (fun k : Nat => l.length - k) (0) ?_ ?_ (fun k hI => ?_))
 ·simp
 ·refine Can.trans (Can.ownSlot 3 80 47 4 (by simp only [go_sem, seval, ag_, ak_, af_, ad_, ai_, ac_, an_, hc, hi, hi2, hr, ct_] <;> rfl) (by simp only [go_sem, seval, ag_, ak_, af_, ad_, ai_, ac_, an_, hc, hi, hi2, hr, ct_]) (by simp only [go_sem, seval, ag_, ak_, af_, ad_, ai_, ac_, an_, hc, hi, hi2, hr, ct_] <;> rfl)) ?_
  exact Can.weak (Weak.lit (by simp only [go_sem, seval, ag_, ak_, af_, ad_, ai_, ac_, an_, hc, hi, hi2, hr, ct_, as_, leV, aq_, ar_, V.inn, us, T9_, Ta_] <;> ((try simp))) (by simp only [go_sem, seval, ag_, ak_, af_, ad_, ai_, ac_, an_, hc, hi, hi2, hr, ct_, as_, leV, aq_, ar_, V.inn, us, T9_, Ta_]) (by simp only [go_sem, seval, ag_, ak_, af_, ad_, ai_, ac_, an_, hc, hi, hi2, hr, ct_, as_, leV, aq_, ar_, V.inn, us, T9_, Ta_] <;> ((try simp [pgR]))))
 refine .seq (.seq (.rgn [] (by simp only [go_sem, seval, ag_, ak_, af_, ad_, ai_, ac_, an_, hc, hi, hi2, hr, ct_]; rfl) ?_ ?_))
 ·(first | trivial | (simp; done) | (simp only [T3_] at h10; have q := (hs _ (bp_ (d := Pg0) (show k < l.length by omega))).2.2; and_intros <;> first | omega | (simp; done) | (simp; omega) | (intro r hr; obtain ⟨x, _, rfl⟩ := List.mem_map.1 hr; rfl)))
 refine .condB (by simp only [go_sem, seval, ag_, ak_, af_, ad_, ai_, ac_, an_, hc, hi, hi2, hr, ct_]; rfl) (by simp only [go_sem, seval, ag_, ak_, af_, ad_, ai_, ac_, an_, hc, hi, hi2, hr, ct_]) (fun h10 => ?_) (fun h10 => ?_)
 ·refine .skip (.seq (.block (.seq (.rgn [] (by simp only [go_sem, seval, ag_, ak_, af_, ad_, ai_, ac_, an_, hc, hi, hi2, hr, ct_, dq_ (show k < l.length by simpa using h10)]; rfl) ?_ ?_))))
  ·(first | trivial | (simp; done) | (simp only [T3_] at h10; have q := (hs _ (bp_ (d := Pg0) (show k < l.length by omega))).2.2; and_intros <;> first | omega | (simp; done) | (simp; omega) | (intro r hr; obtain ⟨x, _, rfl⟩ := List.mem_map.1 hr; rfl)))
  refine .seq (.rgn [] (by simp only [go_sem, seval, ag_, ak_, af_, ad_, ai_, ac_, an_, hc, hi, hi2, hr, ct_, dq_ (show k < l.length by simpa using h10)]; rfl) ?_ ?_)
  ·(first | trivial | (simp; done) | (simp only [T3_] at h10; have q := (hs _ (bp_ (d := Pg0) (show k < l.length by omega))).2.2; and_intros <;> first | omega | (simp; done) | (simp; omega) | (intro r hr; obtain ⟨x, _, rfl⟩ := List.mem_map.1 hr; rfl)))
  refine .rgn [] (by simp only [go_sem, seval, ag_, ak_, af_, ad_, ai_, ac_, an_, hc, hi, hi2, hr, ct_]; rfl) ?_ ?_
  ·(first | trivial | (simp; done) | (simp only [T3_] at h10; have q := (hs _ (bp_ (d := Pg0) (show k < l.length by omega))).2.2; and_intros <;> first | omega | (simp; done) | (simp; omega) | (intro r hr; obtain ⟨x, _, rfl⟩ := List.mem_map.1 hr; rfl)))
  refine .rgn [] (by simp only [go_sem, seval, ag_, ak_, af_, ad_, ai_, ac_, an_, hc, hi, hi2, hr, ct_]; rfl) ?_ ?_
  ·(first | trivial | (simp; done) | (simp only [T3_] at h10; have q := (hs _ (bp_ (d := Pg0) (show k < l.length by omega))).2.2; and_intros <;> first | omega | (simp; done) | (simp; omega) | (intro r hr; obtain ⟨x, _, rfl⟩ := List.mem_map.1 hr; rfl)))
  refine Exists.intro (k + 1) ⟨?_, ?_, ?_⟩
  ·simp at h10; omega
  ·simp at h10; omega
  refine Can.trans (Can.frz 33 (by simp only [go_sem, seval, ag_, ak_, af_, ad_, ai_, ac_, an_, hc, hi, hi2, hr, ct_] <;> rfl) (by simp only [go_sem, seval, ag_, ak_, af_, ad_, ai_, ac_, an_, hc, hi, hi2, hr, ct_]) (by simp only [go_sem, seval, ag_, ak_, af_, ad_, ai_, ac_, an_, hc, hi, hi2, hr, ct_] <;> rfl) (by simp only [go_sem, seval, ag_, ak_, af_, ad_, ai_, ac_, an_, hc, hi, hi2, hr, ct_] <;> rfl)) ?_
  refine Can.trans (Can.swap 38 80 (by decide) (by decide) (by decide) (by decide) (by simp only [go_sem, seval, ag_, ak_, af_, ad_, ai_, ac_, an_, hc, hi, hi2, hr, ct_, V.cl]) (by simp only [go_sem, seval, ag_, ak_, af_, ad_, ai_, ac_, an_, hc, hi, hi2, hr, ct_, V.cl]) (by simp only [go_sem, seval, ag_, ak_, af_, ad_, ai_, ac_, an_, hc, hi, hi2, hr, ct_, bq_, sw, swM, rnB] <;> rfl) (by simp only [go_sem, seval, ag_, ak_, af_, ad_, ai_, ac_, an_, hc, hi, hi2, hr, ct_, bq_, sw, swM, rnB] <;> rfl) (by simp only [go_sem, seval, ag_, ak_, af_, ad_, ai_, ac_, an_, hc, hi, hi2, hr, ct_, bq_, sw, swM, rnB] <;> rfl)) ?_
  exact Can.weak (Weak.lit (by simp only [go_sem, seval, ag_, ak_, af_, ad_, ai_, ac_, an_, hc, hi, hi2, hr, ct_, as_, leV, aq_, ar_, V.inn, us, T9_, Ta_] <;> (rw [bd_ (by simp at h10; omega) (by simp at h10; omega)]; (try simp))) (by simp only [go_sem, seval, ag_, ak_, af_, ad_, ai_, ac_, an_, hc, hi, hi2, hr, ct_, as_, leV, aq_, ar_, V.inn, us, T9_, Ta_]) (by simp only [go_sem, seval, ag_, ak_, af_, ad_, ai_, ac_, an_, hc, hi, hi2, hr, ct_, as_, leV, aq_, ar_, V.inn, us, T9_, Ta_] <;> (simp only [T3_] at h10; rw [aio_ (by omega)]; simp [pgR])))
 ·refine .exit (.seq (.rgn [] (by simp only [go_sem, seval, ag_, ak_, af_, ad_, ai_, ac_, an_, hc, hi, hi2, hr, ct_]; rfl) ?_ ?_))
  ·(first | trivial | (simp; done) | (simp only [T3_] at h10; have q := (hs _ (bp_ (d := Pg0) (show k < l.length by omega))).2.2; and_intros <;> first | omega | (simp; done) | (simp; omega) | (intro r hr; obtain ⟨x, _, rfl⟩ := List.mem_map.1 hr; rfl)))
  refine .ret ⟨.inr rfl, ?_⟩
  exact Out.mem' (by simp only [Tryz.results66]; rfl) (by simp only [ax_, a6_, go_sem, seval, ag_, ak_, af_, ad_, ai_, ac_, an_, hc, hi, hi2, hr, ct_]) (by simp only [a4_, rns, rn, go_sem, seval, ag_, ak_, af_, ad_, ai_, ac_, an_, hc, hi, hi2, hr, ct_] <;> (simp only [T4_] at h10; rw [show k = l.length by omega])) (by simp) rfl (by decide) (by simp only [go_sem, seval, ag_, ak_, af_, ad_, ai_, ac_, an_, hc, hi, hi2, hr, ct_]) (by simp only [ak_, go_sem, seval, ag_, ak_, af_, ad_, ai_, ac_, an_, hc, hi, hi2, hr, ct_]) (by simp only [ag_, go_sem, seval, ag_, ak_, af_, ad_, ai_, ac_, an_, hc, hi, hi2, hr, ct_] <;> (simp only [T4_] at h10; rw [T1_ (show l.length ≤ k by omega)]))
theorem chJ {n : Nat} {x v : List Pg} (hn : n = x.length) (h : x = v) : leV (peel (if n ≤ x.length then V.sl false (pgR (x.take n)) else V.no)) (V.sl false (pgR v)) := by
 subst hn h
 rw [if_pos (Nat.le_refl _), List.take_length]
 exact ⟨fun h => h, a8_ _⟩
theorem wz_ (l : List Pg) (a : Int) (w : Str) (hs : ∀ p ∈ l, pgB p) (hl : l.length ≤ 1000) (ha : -1000 ≤ a) (ha2 : a ≤ 1000000) (hw : w.length ≤ 2000000) : ACall En 27 [.sl false (pgR l), .i .i64 a, .s w] [] [.sl false (pgR (chg l a 1 [w])), .b (cd_ l a 1 [w])] [] := by
 refine al_ (fn := Tryz.f27) [] Tryz.func27 rfl rfl (by simp) fun C => ?_
 rw [av_]
 simp only [Tryz.ntmps27, T7_, List.length_nil, Nat.reduceAdd, Nat.reduceSub, List.replicate_succ, List.replicate_zero, List.cons_append, List.nil_append, bt_]
 refine .seq (.rgn [] (by simp only [go_sem, seval, ag_, ak_, af_, ad_, ai_, ac_, b0_, cb_, ca_, cc_, b8_, b9_, a1_, Int.toNat_natCast, List.take_length]; rfl) ?_ ?_)
 ·(first | trivial | (simp; done) | (obtain ⟨q1, q2, q3, q4⟩ := ge_.1 (show cd_ l a 1 [w] = true by rw [nl_, h26]; rfl); and_intros <;> omega))
 refine .seq (.seq (.rgn [a3_ (ia_ l hs (by omega)), a3_ (q0_ w (by omega))] (by simp only [go_sem, seval, ag_, ak_, af_, ad_, ai_, ac_, b0_, cb_, ca_, cc_, b8_, b9_, a1_, Int.toNat_natCast, List.take_length]; rfl) ?_ ?_))
 ·(first | trivial | (simp; done) | (obtain ⟨q1, q2, q3, q4⟩ := ge_.1 (show cd_ l a 1 [w] = true by rw [nl_, h26]; rfl); and_intros <;> omega))
 refine .condB (by simp only [go_sem, seval, ag_, ak_, af_, ad_, ai_, ac_, b0_, cb_, ca_, cc_, b8_, b9_, a1_, Int.toNat_natCast, List.take_length]; rfl) (by simp only [go_sem, seval, ag_, ak_, af_, ad_, ai_, ac_, b0_, cb_, ca_, cc_, b8_, b9_, a1_, Int.toNat_natCast, List.take_length]) (fun h26 => ?_) (fun h26 => ?_)
 ·refine .seq (.rgn [] (by simp only [go_sem, seval, ag_, ak_, af_, ad_, ai_, ac_, b0_, cb_, ca_, cc_, b8_, b9_, a1_, Int.toNat_natCast, List.take_length]; rfl) ?_ ?_)
  ·(first | trivial | (simp; done) | (obtain ⟨q1, q2, q3, q4⟩ := ge_.1 (show cd_ l a 1 [w] = true by rw [nl_, h26]; rfl); and_intros <;> omega))
  refine .ret ⟨.inr rfl, ?_⟩
  exact Out.plainL (by simp only [Tryz.results27]; rfl) (by simp only [ax_, a6_, go_sem, seval, ag_, ak_, af_, ad_, ai_, ac_, b0_, cb_, ca_, cc_, b8_, b9_, a1_, Int.toNat_natCast, List.take_length] <;> (split <;> rfl)) (by simp only [a4_, go_sem, seval, ag_, ak_, af_, ad_, ai_, ac_, b0_, cb_, ca_, cc_, b8_, b9_, a1_, Int.toNat_natCast, List.take_length] <;> (have e : cd_ l a 1 [w] = false := (by rw [nl_, h26]; rfl); rw [oq_ e, e]; exact ⟨a8_ _, rfl⟩)) (by simp only [go_sem, seval, ag_, ak_, af_, ad_, ai_, ac_, b0_, cb_, ca_, cc_, b8_, b9_, a1_, Int.toNat_natCast, List.take_length])
 ·refine .skip (.seq (.rgn [bw_ [] [39] (hi_ l hs hl)] (by simp only [go_sem, seval, ag_, ak_, af_, ad_, ai_, ac_, b0_, cb_, ca_, cc_, b8_, b9_, a1_, Int.toNat_natCast, List.take_length]; rfl) ?_ ?_))
  ·(first | trivial | (simp; done) | (obtain ⟨q1, q2, q3, q4⟩ := ge_.1 (show cd_ l a 1 [w] = true by rw [nl_, h26]; rfl); and_intros <;> omega))
  refine .seq (.rgn [a3_ (j9_ w (by omega))] (by simp only [go_sem, seval, ag_, ak_, af_, ad_, ai_, ac_, b0_, cb_, ca_, cc_, b8_, b9_, a1_, Int.toNat_natCast, List.take_length]; rfl) ?_ ?_)
  ·(first | trivial | (simp; done) | (obtain ⟨q1, q2, q3, q4⟩ := ge_.1 (show cd_ l a 1 [w] = true by rw [nl_, h26]; rfl); and_intros <;> omega))
  refine .seq (.rgn [] (by simp only [go_sem, seval, ag_, ak_, af_, ad_, ai_, ac_, b0_, cb_, ca_, cc_, b8_, b9_, a1_, Int.toNat_natCast, List.take_length]; rfl) ?_ ?_)
  ·(first | trivial | (simp; done) | (obtain ⟨q1, q2, q3, q4⟩ := ge_.1 (show cd_ l a 1 [w] = true by rw [nl_, h26]; rfl); and_intros <;> omega))
  refine .frz 39 (by simp only [go_sem, seval, ag_, ak_, af_, ad_, ai_, ac_, b0_, cb_, ca_, cc_, b8_, b9_, a1_, Int.toNat_natCast, List.take_length]; rfl) (by simp only [go_sem, seval, ag_, ak_, af_, ad_, ai_, ac_, b0_, cb_, ca_, cc_, b8_, b9_, a1_, Int.toNat_natCast, List.take_length]) (by simp only [go_sem, seval, ag_, ak_, af_, ad_, ai_, ac_, b0_, cb_, ca_, cc_, b8_, b9_, a1_, Int.toNat_natCast, List.take_length]; rfl) (by simp only [go_sem, seval, ag_, ak_, af_, ad_, ai_, ac_, b0_, cb_, ca_, cc_, b8_, b9_, a1_, Int.toNat_natCast, List.take_length]; rfl) ?_
  refine .ret ⟨.inr rfl, ?_⟩
  exact Out.plainL (by simp only [Tryz.results27]; rfl) (by simp only [ax_, a6_, go_sem, seval, ag_, ak_, af_, ad_, ai_, ac_, b0_, cb_, ca_, cc_, b8_, b9_, a1_, Int.toNat_natCast, List.take_length] <;> (split <;> rfl)) (by simp only [a4_, go_sem, seval, ag_, ak_, af_, ad_, ai_, ac_, b0_, cb_, ca_, cc_, b8_, b9_, a1_, Int.toNat_natCast, List.take_length] <;> (have e : cd_ l a 1 [w] = true := (by rw [nl_, h26]; rfl); exact ⟨chJ (by simp) (yp_ e).symm, e.symm⟩)) (by simp only [go_sem, seval, ag_, ak_, af_, ad_, ai_, ac_, b0_, cb_, ca_, cc_, b8_, b9_, a1_, Int.toNat_natCast, List.take_length])
theorem aaz_ (l : List Pg) (a : Int) (w : Str) (hs : ∀ p ∈ l, pgB p) (hl : l.length ≤ 1000) (ha : -1000 ≤ a) (ha2 : a ≤ 1000000) (hw : w.length ≤ 2000000) : ACall En 30 [.sl false (pgR l), .i .i64 a, .s w] [] [.sl false (pgR (chg l a 0 [w])), .b (cd_ l a 0 [w])] [] := by
 have hB1 : ∀ p ∈ l.take a.toNat, pgB p := fun p hp => hs p (List.mem_of_mem_take hp)
 have hB2 : ∀ p ∈ l.drop a.toNat, pgB p := fun p hp => hs p (List.mem_of_mem_drop hp)
 refine al_ (fn := Tryz.f30) [] Tryz.func30 rfl rfl (by simp) fun C => ?_
 rw [av_]
 simp only [Tryz.ntmps30, T7_, List.length_nil, Nat.reduceAdd, Nat.reduceSub, List.replicate_succ, List.replicate_zero, List.cons_append, List.nil_append, bt_]
 refine .seq (.rgn [] (by simp only [go_sem, seval, ag_, ak_, af_, ad_, ai_, ac_, b0_, cb_, ca_, cc_, b8_, b9_, a1_, Int.toNat_natCast, List.take_length]; rfl) ?_ ?_)
 ·(first | trivial | (simp; done) | (obtain ⟨q1, q2, q3, q4, q5⟩ := jc_.1 (show cd_ l a 0 [w] = true by rw [xf_, h31]; rfl); and_intros <;> first | omega | (simp; done) | exact fun h => absurd rfl h | exact .inr (f2_ l) | exact f2_ _ | (simp only [List.length_take, List.length_drop]; omega)))
 refine .seq (.seq (.rgn [a3_ (ia_ l hs (by omega)), a3_ (q0_ w (by omega))] (by simp only [go_sem, seval, ag_, ak_, af_, ad_, ai_, ac_, b0_, cb_, ca_, cc_, b8_, b9_, a1_, Int.toNat_natCast, List.take_length]; rfl) ?_ ?_))
 ·(first | trivial | (simp; done) | (obtain ⟨q1, q2, q3, q4, q5⟩ := jc_.1 (show cd_ l a 0 [w] = true by rw [xf_, h31]; rfl); and_intros <;> first | omega | (simp; done) | exact fun h => absurd rfl h | exact .inr (f2_ l) | exact f2_ _ | (simp only [List.length_take, List.length_drop]; omega)))
 refine .condB (by simp only [go_sem, seval, ag_, ak_, af_, ad_, ai_, ac_, b0_, cb_, ca_, cc_, b8_, b9_, a1_, Int.toNat_natCast, List.take_length]; rfl) (by simp only [go_sem, seval, ag_, ak_, af_, ad_, ai_, ac_, b0_, cb_, ca_, cc_, b8_, b9_, a1_, Int.toNat_natCast, List.take_length]) (fun h31 => ?_) (fun h31 => ?_)
 ·refine .seq (.rgn [] (by simp only [go_sem, seval, ag_, ak_, af_, ad_, ai_, ac_, b0_, cb_, ca_, cc_, b8_, b9_, a1_, Int.toNat_natCast, List.take_length]; rfl) ?_ ?_)
  ·(first | trivial | (simp; done) | (obtain ⟨q1, q2, q3, q4, q5⟩ := jc_.1 (show cd_ l a 0 [w] = true by rw [xf_, h31]; rfl); and_intros <;> first | omega | (simp; done) | exact fun h => absurd rfl h | exact .inr (f2_ l) | exact f2_ _ | (simp only [List.length_take, List.length_drop]; omega)))
  refine .ret ⟨.inr rfl, ?_⟩
  exact Out.plainL (by simp only [Tryz.results30]; rfl) (by simp only [ax_, a6_, go_sem, seval, ag_, ak_, af_, ad_, ai_, ac_, b0_, cb_, ca_, cc_, b8_, b9_, a1_, Int.toNat_natCast, List.take_length] <;> (split <;> rfl)) (by simp only [a4_, go_sem, seval, ag_, ak_, af_, ad_, ai_, ac_, b0_, cb_, ca_, cc_, b8_, b9_, a1_, Int.toNat_natCast, List.take_length] <;> (have e : cd_ l a 0 [w] = false := (by rw [xf_, h31]; rfl); rw [oq_ e, e]; exact ⟨a8_ _, rfl⟩)) (by simp only [go_sem, seval, ag_, ak_, af_, ad_, ai_, ac_, b0_, cb_, ca_, cc_, b8_, b9_, a1_, Int.toNat_natCast, List.take_length])
 ·refine .skip (.seq (.rgn [bw_ [] [46] (hi_ (l.take a.toNat) hB1 (by simp; omega)), a3_ (j9_ w (by omega))] (by simp only [go_sem, seval, ag_, ak_, af_, ad_, ai_, ac_, b0_, cb_, ca_, cc_, b8_, b9_, a1_, Int.toNat_natCast, List.take_length]; rfl) ?_ ?_))
  ·(first | trivial | (simp; done) | (obtain ⟨q1, q2, q3, q4, q5⟩ := jc_.1 (show cd_ l a 0 [w] = true by rw [xf_, h31]; rfl); and_intros <;> first | omega | (simp; done) | exact fun h => absurd rfl h | exact .inr (f2_ l) | exact f2_ _ | (simp only [List.length_take, List.length_drop]; omega)))
  refine .seq (.rgn [bw_ [] [55] (hi_ (l.drop a.toNat) hB2 (by simp; omega))] (by simp only [go_sem, seval, ag_, ak_, af_, ad_, ai_, ac_, b0_, cb_, ca_, cc_, b8_, b9_, a1_, Int.toNat_natCast, List.take_length]; rfl) ?_ ?_)
  ·(first | trivial | (simp; done) | (obtain ⟨q1, q2, q3, q4, q5⟩ := jc_.1 (show cd_ l a 0 [w] = true by rw [xf_, h31]; rfl); and_intros <;> first | omega | (simp; done) | exact fun h => absurd rfl h | exact .inr (f2_ l) | exact f2_ _ | (simp only [List.length_take, List.length_drop]; omega)))
  refine .frz 56 (by simp only [go_sem, seval, ag_, ak_, af_, ad_, ai_, ac_, b0_, cb_, ca_, cc_, b8_, b9_, a1_, Int.toNat_natCast, List.take_length]; rfl) (by simp only [go_sem, seval, ag_, ak_, af_, ad_, ai_, ac_, b0_, cb_, ca_, cc_, b8_, b9_, a1_, Int.toNat_natCast, List.take_length]) (by simp only [go_sem, seval, ag_, ak_, af_, ad_, ai_, ac_, b0_, cb_, ca_, cc_, b8_, b9_, a1_, Int.toNat_natCast, List.take_length]; rfl) (by simp only [go_sem, seval, ag_, ak_, af_, ad_, ai_, ac_, b0_, cb_, ca_, cc_, b8_, b9_, a1_, Int.toNat_natCast, List.take_length]; rfl) ?_
  refine .ret ⟨.inr rfl, ?_⟩
  exact Out.plainL (by simp only [Tryz.results30]; rfl) (by simp only [ax_, a6_, go_sem, seval, ag_, ak_, af_, ad_, ai_, ac_, b0_, cb_, ca_, cc_, b8_, b9_, a1_, Int.toNat_natCast, List.take_length] <;> (split <;> rfl)) (by simp only [a4_, go_sem, seval, ag_, ak_, af_, ad_, ai_, ac_, b0_, cb_, ca_, cc_, b8_, b9_, a1_, Int.toNat_natCast, List.take_length] <;> (have e : cd_ l a 0 [w] = true := (by rw [xf_, h31]; rfl); exact ⟨chJ (by simp only [T2_, List.length_singleton]) (by rw [ajf_ e]; simp), e.symm⟩)) (by simp only [go_sem, seval, ag_, ak_, af_, ad_, ai_, ac_, b0_, cb_, ca_, cc_, b8_, b9_, a1_, Int.toNat_natCast, List.take_length])
theorem wn_ (l : List Pg) (a : Int) (hs : ∀ p ∈ l, pgB p) (hl : l.length ≤ 1000) (ha : -1000 ≤ a) (ha2 : a ≤ 1000000) : ACall En 36 [.sl false (pgR l), .i .i64 a] [] [.sl false (pgR (chg l a 1 [])), .b (cd_ l a 1 [])] [] := by
 have hB1 : ∀ p ∈ l.take a.toNat, pgB p := fun p hp => hs p (List.mem_of_mem_take hp)
 have hB2 : ∀ p ∈ l.drop (a.toNat + 1), pgB p := fun p hp => hs p (List.mem_of_mem_drop hp)
 have hw : IntKind.i64.wrap (a + 1) = a + 1 := by rw [bd_ (by omega) (by omega)]
 refine al_ (fn := Tryz.f36) [] Tryz.func36 rfl rfl (by simp) fun C => ?_
 rw [av_]
 simp only [Tryz.ntmps36, T7_, List.length_nil, Nat.reduceAdd, Nat.reduceSub, List.replicate_succ, List.replicate_zero, List.cons_append, List.nil_append, bt_]
 refine .seq (.rgn [] (by simp only [go_sem, seval, ag_, ak_, af_, ad_, ai_, ac_, b0_, cb_, ca_, cc_, b8_, b9_, a1_, Int.toNat_natCast, List.take_length, hw]; rfl) ?_ ?_)
 ·(first | trivial | (simp; done) | (obtain ⟨q1, q2, q3, q4⟩ := hn_.1 (show cd_ l a 1 [] = true by rw [ro_, h23]; rfl); have q5 : (a + 1).toNat = a.toNat + 1 := (by omega); and_intros <;> first | omega | (simp; done) | exact fun h => absurd rfl h | exact .inr (f2_ l) | exact f2_ _ | (rw [q5]; exact a8_ _) | (simp only [List.length_take, List.length_drop]; omega)))
 refine .seq (.seq (.rgn [a3_ (ia_ l hs (by omega))] (by simp only [go_sem, seval, ag_, ak_, af_, ad_, ai_, ac_, b0_, cb_, ca_, cc_, b8_, b9_, a1_, Int.toNat_natCast, List.take_length, hw]; rfl) ?_ ?_))
 ·(first | trivial | (simp; done) | (obtain ⟨q1, q2, q3, q4⟩ := hn_.1 (show cd_ l a 1 [] = true by rw [ro_, h23]; rfl); have q5 : (a + 1).toNat = a.toNat + 1 := (by omega); and_intros <;> first | omega | (simp; done) | exact fun h => absurd rfl h | exact .inr (f2_ l) | exact f2_ _ | (rw [q5]; exact a8_ _) | (simp only [List.length_take, List.length_drop]; omega)))
 refine .condB (by simp only [go_sem, seval, ag_, ak_, af_, ad_, ai_, ac_, b0_, cb_, ca_, cc_, b8_, b9_, a1_, Int.toNat_natCast, List.take_length, hw]; rfl) (by simp only [go_sem, seval, ag_, ak_, af_, ad_, ai_, ac_, b0_, cb_, ca_, cc_, b8_, b9_, a1_, Int.toNat_natCast, List.take_length, hw]) (fun h23 => ?_) (fun h23 => ?_)
 ·refine .seq (.rgn [] (by simp only [go_sem, seval, ag_, ak_, af_, ad_, ai_, ac_, b0_, cb_, ca_, cc_, b8_, b9_, a1_, Int.toNat_natCast, List.take_length, hw]; rfl) ?_ ?_)
  ·(first | trivial | (simp; done) | (obtain ⟨q1, q2, q3, q4⟩ := hn_.1 (show cd_ l a 1 [] = true by rw [ro_, h23]; rfl); have q5 : (a + 1).toNat = a.toNat + 1 := (by omega); and_intros <;> first | omega | (simp; done) | exact fun h => absurd rfl h | exact .inr (f2_ l) | exact f2_ _ | (rw [q5]; exact a8_ _) | (simp only [List.length_take, List.length_drop]; omega)))
  refine .ret ⟨.inr rfl, ?_⟩
  exact Out.plainL (by simp only [Tryz.results36]; rfl) (by simp only [ax_, a6_, go_sem, seval, ag_, ak_, af_, ad_, ai_, ac_, b0_, cb_, ca_, cc_, b8_, b9_, a1_, Int.toNat_natCast, List.take_length, hw] <;> (split <;> rfl)) (by simp only [a4_, go_sem, seval, ag_, ak_, af_, ad_, ai_, ac_, b0_, cb_, ca_, cc_, b8_, b9_, a1_, Int.toNat_natCast, List.take_length, hw] <;> (have e : cd_ l a 1 [] = false := (by rw [ro_, h23]; rfl); rw [oq_ e, e]; exact ⟨a8_ _, rfl⟩)) (by simp only [go_sem, seval, ag_, ak_, af_, ad_, ai_, ac_, b0_, cb_, ca_, cc_, b8_, b9_, a1_, Int.toNat_natCast, List.take_length, hw])
 ·refine .skip (.seq (.rgnD [bw_ [] [38] (hi_ (l.take a.toNat) hB1 (by simp; omega)), bw_ [] [43] (hi_ (l.drop (a.toNat + 1)) hB2 (by simp; omega))] enM (by simp only [go_sem, seval, ag_, ak_, af_, ad_, ai_, ac_, b0_, cb_, ca_, cc_, b8_, b9_, a1_, Int.toNat_natCast, List.take_length, hw]; rfl) (by rfl) ?_ ?_))
  ·(first | trivial | (simp; done) | (obtain ⟨q1, q2, q3, q4⟩ := hn_.1 (show cd_ l a 1 [] = true by rw [ro_, h23]; rfl); have q5 : (a + 1).toNat = a.toNat + 1 := (by omega); and_intros <;> first | omega | (simp; done) | exact fun h => absurd rfl h | exact .inr (f2_ l) | exact f2_ _ | (rw [q5]; exact a8_ _) | (simp only [List.length_take, List.length_drop]; omega)))
  refine .frz 44 (by simp only [go_sem, seval, ag_, ak_, af_, ad_, ai_, ac_, b0_, cb_, ca_, cc_, b8_, b9_, a1_, Int.toNat_natCast, List.take_length, hw]; rfl) (by simp only [go_sem, seval, ag_, ak_, af_, ad_, ai_, ac_, b0_, cb_, ca_, cc_, b8_, b9_, a1_, Int.toNat_natCast, List.take_length, hw]) (by simp only [go_sem, seval, ag_, ak_, af_, ad_, ai_, ac_, b0_, cb_, ca_, cc_, b8_, b9_, a1_, Int.toNat_natCast, List.take_length, hw]; rfl) (by simp only [go_sem, seval, ag_, ak_, af_, ad_, ai_, ac_, b0_, cb_, ca_, cc_, b8_, b9_, a1_, Int.toNat_natCast, List.take_length, hw]; rfl) ?_
  refine .ret ⟨.inr rfl, ?_⟩
  exact Out.plainL (by simp only [Tryz.results36]; rfl) (by simp only [ax_, a6_, go_sem, seval, ag_, ak_, af_, ad_, ai_, ac_, b0_, cb_, ca_, cc_, b8_, b9_, a1_, Int.toNat_natCast, List.take_length, hw] <;> (split <;> rfl)) (by simp only [a4_, go_sem, seval, ag_, ak_, af_, ad_, ai_, ac_, b0_, cb_, ca_, cc_, b8_, b9_, a1_, Int.toNat_natCast, List.take_length, hw] <;> (have e : cd_ l a 1 [] = true := (by rw [ro_, h23]; rfl); exact ⟨chJ (by simp only [T2_]) (aee_ e).symm, e.symm⟩)) (by simp only [go_sem, seval, ag_, ak_, af_, ad_, ai_, ac_, b0_, cb_, ca_, cc_, b8_, b9_, a1_, Int.toNat_natCast, List.take_length, hw])
end
section
set_option maxRecDepth 100000
theorem xd_ (l : List Pg) (a : Int) (d : Nat) (ls : List Str) : (chg l a d ls).length ≤ l.length + ls.length := by
 cases h : cd_ l a d ls with
 | true => rw [ait_ h]; omega
 | false => rw [oq_ h]; simp
theorem ak1_ {l : List Pg} (h : ∀ p ∈ l, pgB p) : ∀ p ∈ l, p.frm.length ≤ 4000000 := fun p hp => by have := (h p hp).2.2; omega
theorem sm_ (a b : List Pg) (hA : ∀ p ∈ a, pgB p) (ha : a.length ≤ 1000) (hb : b.length ≤ 1000) : ACall En 15 [.sl false (pgR a), .sl false (pgR b)] [] [.b (decide (a = b))] [] :=
 adp_ a b (by omega) (by omega) (ak1_ hA)
end
end Go.Proofs.YtpikbndepapbhaaGreatDoor
