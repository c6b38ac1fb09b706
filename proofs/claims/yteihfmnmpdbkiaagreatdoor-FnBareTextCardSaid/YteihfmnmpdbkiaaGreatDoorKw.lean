/- Parts of the proof, one after another: Texts and their lines, plainly. | What the library's functions answer: strings.Split at a newline. | Texts and their lines: the program's TextOk, TextLines. Conditions: none. -/
import Derived.Test.YteihfmnmpdbkiaaGreatDoorKq
import Derived.Lib.Split
import Derived.Lib.IndexBytes
import Derived.Test.YteihfmnmpdbkiaaGreatDoorKf
import Derived.Lib.SmallJoins
import Derived.Lib.SplitLaws
import Derived.Test.YteihfmnmpdbkiaaGreatDoorKn
set_option linter.unusedVariables false
set_option linter.unusedSimpArgs false
namespace Go.Proofs.YteihfmnmpdbkiaaGreatDoor
section
def spl : Str → List Str
  | [] => [[]]
  | c :: l => if c = 10 then [] :: spl l else match spl l with
    | [] => [[c]]
    | w :: r => (c :: w) :: r
theorem spl_nl (l : Str) : spl (10 :: l) = [] :: spl l := by simp [spl]
theorem spl_cons {c : UInt8} (h : c ≠ 10) {l : Str} {w : Str} {r : List Str} (hl : spl l = w :: r) : spl (c :: l) = (c :: w) :: r := by
  rw [spl, if_neg h, hl]
theorem spl_word : ∀ {w : Str}, (10 : UInt8) ∉ w → spl w = [w]
  | [], _ => rfl
  | c :: w, h => by
    rw [spl_cons (by rintro rfl; simp at h) (spl_word (w := w) fun q => h (by simp [q]))]
theorem spl_app : ∀ {w : Str}, (10 : UInt8) ∉ w → ∀ l, spl (w ++ 10 :: l) = w :: spl l
  | [], _, l => spl_nl l
  | c :: w, h, l => by
    rw [List.cons_append, spl_cons (by rintro rfl; simp at h) (spl_app (w := w) (fun q => h (by simp [q])) l)]
theorem spl_len : ∀ l : Str, (spl l).length ≤ l.length + 1
  | [] => by simp [spl]
  | c :: l => by
    have := spl_len l
    unfold spl
    split
    · simp; omega
    · split
      · simp
      · rename_i he; rw [he] at this; simp at this ⊢; omega
theorem spl_mem_len : ∀ l : Str, ∀ w ∈ spl l, w.length ≤ l.length
  | [], w, h => by simp [spl] at h; subst h; simp
  | c :: l, w, h => by
    have ih := spl_mem_len l
    unfold spl at h
    split at h
    · simp only [List.mem_cons] at h
      rcases h with rfl | h
      · simp
      · have := ih w h; simp; omega
    · split at h
      · simp only [List.mem_cons, List.not_mem_nil, or_false] at h
        subst h; simp
      · rename_i u r he
        simp only [List.mem_cons] at h
        rcases h with rfl | h
        · have := ih u (by rw [he]; simp); simp; omega
        · have := ih w (by rw [he]; simp [h]); simp; omega
theorem idxb_miss : ∀ {s : Str}, Lib.indexByte s 10 = -1 → (10 : UInt8) ∉ s
  | [], _ => by simp
  | b :: l, h => by
    have hg := idx_ge l 10
    unfold Lib.indexByte at h
    split at h
    · exact absurd h (by decide)
    · rename_i hb
      split at h
      · rename_i h2
        have := idxb_miss (s := l) (by simpa using h2)
        simp only [List.mem_cons, not_or]
        exact ⟨fun e => hb (by simp [e]), this⟩
      · omega
theorem idxb_hit : ∀ {s : Str} {i : Nat}, Lib.indexByte s 10 = i → (10 : UInt8) ∉ s.take i ∧ s = s.take i ++ 10 :: s.drop (i + 1)
  | [], i, h => by simp [Lib.indexByte] at h
  | b :: l, i, h => by
    have hg := idx_ge l 10
    unfold Lib.indexByte at h
    split at h
    · rename_i hb
      obtain rfl : i = 0 := by omega
      have : b = 10 := by simpa using hb
      subst this; simp
    · rename_i hb
      split at h
      · omega
      · rename_i h2
        have h2' : Lib.indexByte l 10 ≠ -1 := by simpa using h2
        obtain ⟨j, hj⟩ : ∃ j : Nat, Lib.indexByte l 10 = j := ⟨(Lib.indexByte l 10).toNat, by omega⟩
        obtain rfl : i = j + 1 := by omega
        obtain ⟨q1, q2⟩ := idxb_hit (s := l) hj
        refine ⟨?_, ?_⟩
        · simp only [List.take_succ_cons, List.mem_cons, not_or]
          exact ⟨fun e => hb (by simp [e]), q1⟩
        · simp only [List.take_succ_cons, List.drop_succ_cons, List.cons_append]
          rw [← q2]
theorem split_spl : ∀ (n : Nat) (s : Str), s.length ≤ n → Lib.splitK [10] 0 (Lib.count s [10]) s = spl s
  | 0, s, h => by
    obtain rfl : s = [] := List.eq_nil_of_length_eq_zero (by omega)
    rfl
  | n + 1, s, h => by
    have hg := Lib.index_ge s [10]
    have ho : Lib.index s [10] = Lib.indexByte s 10 := Lib.index_one s 10
    by_cases hm : Lib.index s [10] = -1
    · rw [Lib.count_miss hm, spl_word (idxb_miss (ho ▸ hm))]; rfl
    · obtain ⟨i, hi⟩ : ∃ i : Nat, Lib.index s [10] = i := ⟨(Lib.index s [10]).toNat, by omega⟩
      obtain ⟨q1, q2⟩ := idxb_hit (ho ▸ hi)
      rw [Lib.count_hit (by simp) hi, Nat.add_comm 1, Lib.splitK, if_neg (by simpa using hm), hi]
      simp only [Int.toNat_natCast, Nat.add_zero, List.length_cons, List.length_nil, Nat.zero_add]
      have hl : (s.drop (i + 1)).length ≤ n := by
        have := congrArg List.length q2
        rw [List.length_append, List.length_cons] at this
        omega
      rw [split_spl n (s.drop (i + 1)) hl]
      conv => rhs; rw [q2]
      rw [spl_app q1]
def tokW : Str → Int → Bool
  | [], _ => true
  | c :: l, w => if c = 10 then tokW l 0 else decide (32 ≤ c.toNat) && decide (c.toNat ≤ 126) && decide (w + 1 ≤ 120) && tokW l (w + 1)
def tOk (s : Str) : Bool := tokW s 0 && decide (s.length ≤ 4000)
def tLines (s : Str) : List Str := if tOk s then spl s else []
theorem tLines_len (s : Str) : (tLines s).length ≤ 4001 := by
  unfold tLines
  split
  · rename_i h
    have := spl_len s
    simp only [tOk, Bool.and_eq_true, decide_eq_true_eq] at h
    omega
  · simp
theorem tLines_mem (s : Str) : ∀ w ∈ tLines s, w.length ≤ 4000 := by
  unfold tLines
  split
  · rename_i h
    intro w hw
    have := spl_mem_len s w hw
    simp only [tOk, Bool.and_eq_true, decide_eq_true_eq] at h
    omega
  · simp
end

section
open Go.RowKit
set_option maxRecDepth 100000

theorem strR_of {φ : Phi} {S : Nat → Prop} {w : World} : ∀ l : List Str, VRr φ S w 1 (strR l) (l.map fun s => Value.string ⟨s.toArray⟩)
  | [] => by simp only [strR, List.map_nil]; exact VRr.nil
  | s :: l => by
    simp only [strR, List.map_cons]
    exact VRr.cons (ys := [.string ⟨s.toArray⟩]) rfl (.cons (by simp only [VR]) .nil) (fun u hu => by simp at hu; subst hu; rfl) (strR_of l)
theorem split_a (s : Str) (hs : s.length ≤ 1000000) : ACall En 74 [.s s, .s [10]] [] [.sl false (strR (spl s))] [] := by
  refine acall_ext (fn := Tryz.f74) Tryz.func74 rfl rfl fun S w xs hx _ ⟨B, hB, _⟩ => ?_
  simp only [VRs, VR] at hx
  obtain ⟨x, r, e1, rfl, y, q, e2, rfl, rfl⟩ := hx
  subst e2
  obtain rfl : xs = #[.string ⟨s.toArray⟩, .string ⟨[10].toArray⟩] := by apply Array.ext'; simpa using e1
  obtain ⟨m, hm⟩ := hB.maxl
  have hd : (⟨s.toArray⟩ : ByteArray).data.toList = s := by simp
  have hk : (Lib.splitB ⟨[10].toArray⟩ 0 (Lib.countB ⟨s.toArray⟩ ⟨[10].toArray⟩) ⟨s.toArray⟩).map (·.data.toList) = spl s := by
    rw [Lib.splitB_data]
    exact split_spl s.length s (Nat.le_refl _)
  have hv : (Lib.splitB ⟨[10].toArray⟩ 0 (Lib.countB ⟨s.toArray⟩ ⟨[10].toArray⟩) ⟨s.toArray⟩).map Value.string = (spl s).map fun s => Value.string ⟨s.toArray⟩ := by
    rw [← hk, List.map_map]
    exact List.map_congr_left fun b _ => by cases b; simp
  have hl : (spl s).length = Lib.countB ⟨s.toArray⟩ ⟨[10].toArray⟩ + 1 := by
    rw [← hk, List.length_map]
    exact Lib.splitB_all _ (by simp [ByteArray.size]) 0 _ _ rfl
  refine (Tryz.strings_Split ⟨s.toArray⟩ ⟨[10].toArray⟩ m w (by simp [ByteArray.size]; omega) hm (by simp [ByteArray.size])).mono ?_
  rintro e w' ⟨rfl, rfl⟩
  rw [hv, ← hl]
  refine ⟨[_], rfl, Joins.below_alloc1 _ _, .cons ?_ .nil⟩
  have := spl_len s
  simp only [VR, strR_len]
  refine ⟨some ⟨w.heap.size, 0, none⟩, (spl s).length, 1, (spl s).map fun s => .string ⟨s.toArray⟩, rfl, Nat.le_refl _, by unfold maxLen; omega, fun e => (by simp at e), fun _ => ⟨w.heap.size, 0, rfl, .inr (Nat.le_refl _), by show _ < (w.heap.push _).size; rw [Array.size_push]; exact Nat.lt_succ_self _, fun j u hu => ?_⟩, strR_of (spl s)⟩
  rw [Joins.cell_alloc_mark_at w _ _ _ _ _ rfl]
  simpa using hu
end

section
set_option maxRecDepth 100000
set_option maxHeartbeats 4000000

theorem tokW_at {s : Str} {k : Nat} (h : k < s.length) (w : Int) : tokW (s.drop k) w = if ((s.getD k 0).toNat : Int) = 10 then tokW (s.drop (k + 1)) 0 else decide (32 ≤ ((s.getD k 0).toNat : Int)) && decide (((s.getD k 0).toNat : Int) ≤ 126) && decide (w + 1 ≤ 120) && tokW (s.drop (k + 1)) (w + 1) := by
  have e : s.drop k = s.getD k 0 :: s.drop (k + 1) := by
    rw [List.drop_eq_getElem_cons h, List.getD_eq_getElem?_getD, List.getElem?_eq_getElem h]; rfl
  rw [e, tokW]
  by_cases hc : s.getD k 0 = 10
  · rw [if_pos hc, if_pos (by rw [hc]; rfl)]
  · rw [if_neg hc, if_neg (fun q => hc (by apply UInt8.toNat_inj.1; show _ = 10; omega))]
    congr 2
    congr 1
    · exact decide_eq_decide.2 (by omega)
    · exact decide_eq_decide.2 (by omega)
theorem tok_go {s : Str} {k : Nat} (h : k < s.length) {w : Int} (h15 : ¬ ((s.getD k 0).toNat : Int) = 10) : tokW (s.drop k) w = (!(decide (((s.getD k 0).toNat : Int) < 32) || decide (((s.getD k 0).toNat : Int) > 126) || decide (w + 1 > 120)) && tokW (s.drop (k + 1)) (w + 1)) := by
  rw [tokW_at h, if_neg h15]
  generalize ((s.getD k 0).toNat : Int) = c
  rw [show decide (32 ≤ c) = !decide (c < 32) by rw [← decide_not]; exact decide_eq_decide.2 (by omega), show decide (c ≤ 126) = !decide (c > 126) by rw [← decide_not]; exact decide_eq_decide.2 (by omega), show decide (w + 1 ≤ 120) = !decide (w + 1 > 120) by rw [← decide_not]; exact decide_eq_decide.2 (by omega)]
  cases decide (c < 32) <;> cases decide (c > 126) <;> cases decide (w + 1 > 120) <;> rfl
theorem tOk_len {s : Str} (h : tOk s = true) : s.length ≤ 4000 := by simp only [tOk, Bool.and_eq_true, decide_eq_true_eq] at h; exact h.2
theorem iTextOk_a (s : Str) (hs : s.length ≤ 281474976710656) : ACall En 72 [.s s] [] [.b (tOk s)] [] := by
  refine acall_of_body (fn := Tryz.f72) [] Tryz.func72 rfl rfl (by simp) fun C => ?_
  rw [entry_eq]
  simp only [Tryz.ntmps72, List.length_cons, List.length_nil, Nat.reduceAdd, Nat.reduceSub, List.replicate_succ, List.replicate_zero, List.cons_append, List.nil_append, numL]
  refine AWp.seq ?_
  refine AWp.rgn [] (by simp only [go_sem, seval]; rfl) ?_ ?_
  · (first | trivial | (simp; done))
  refine AWp.seq ?_
  refine AWp.rgn [] (by simp only [go_sem, seval]; rfl) ?_ ?_
  · (first | trivial | (simp; done))
  refine AWp.seq ?_
  refine AWp.seq ?_
  refine AWp.rgn [] (by simp only [go_sem, seval]; rfl) ?_ ?_
  · (first | trivial | (simp; done))
  refine AWp.block ?_
  refine AWp.loopK (fun q : Nat × Int => ⟨[.s s, .no, .no, .i .i64 q.2, .no, .no, .i .i64 s.length, .i .i64 q.1, .no, .no, .no, .no, .no, .no, .no, .no, .no, .no, .no, .no, .no, .no, .no, .no, .no, .no, .no, .no, .no, .no, .no, .no, .no, .no], memOf [], us []⟩) (fun q : Nat × Int => q.1 ≤ s.length ∧ 0 ≤ q.2 ∧ q.2 ≤ 120 ∧ tokW (s.drop q.1) q.2 = tokW s 0) (fun q : Nat × Int => s.length - q.1) ((0, 0)) ?_ ?_ (fun q hI => ?_)
  · exact ⟨by simp, by decide, by decide, rfl⟩
  · exact Can.weak (Weak.lit (by simp only [go_sem, seval, subM, leV, inns, innr, V.inn, us, true_or, or_true] <;> (simp)) (by simp only [go_sem, seval, subM, leV, inns, innr, V.inn, us, true_or, or_true]) (by simp only [go_sem, seval, subM, leV, inns, innr, V.inn, us, true_or, or_true]))
  refine AWp.seq ?_
  refine AWp.rgn [] (by simp only [go_sem, seval]; rfl) ?_ ?_
  · (first | trivial | (simp; done))
  refine AWp.seq ?_
  refine AWp.condB (by simp only [go_sem, seval]; rfl) (by simp only [go_sem, seval]) (fun h8 => ?_) (fun h8 => ?_)
  · refine AWp.skip ?_
    refine AWp.seqJ (fun p : Int => ⟨[.s s, .no, .no, .i .i64 p, .no, .no, .i .i64 s.length, .i .i64 q.1, .no, .no, .no, .no, .no, .no, .no, .no, .no, .no, .no, .no, .no, .no, .no, .no, .no, .no, .no, .no, .no, .no, .no, .no, .no, .no], memOf [], us []⟩) (fun p : Int => 0 ≤ p ∧ p ≤ 120 ∧ tokW (s.drop (q.1 + 1)) p = tokW s 0) ?_ (fun p hJ => ?_)
    · refine AWp.block ?_
      refine AWp.seq ?_
      refine AWp.rgn [] (by simp only [go_sem, seval]; rfl) ?_ ?_
      · (first | trivial | (simp; done))
      refine AWp.seq ?_
      refine AWp.rgn [] (by simp only [go_sem, seval]; rfl) ?_ ?_
      · (first | trivial | (simp; done))
      refine AWp.seq ?_
      refine AWp.rgn [] (by simp only [go_sem, seval]; rfl) ?_ ?_
      · simp at h8; simp; omega
      refine AWp.condB (by simp only [go_sem, seval]; rfl) (by simp only [go_sem, seval]) (fun h15 => ?_) (fun h15 => ?_)
      · refine AWp.rgn [] (by simp only [go_sem, seval]; rfl) ?_ ?_
        · (first | trivial | (simp; done))
        refine Exists.intro (0) ⟨?_, ?_⟩
        · first | (have e := tokW_at (show q.1 < s.length by simpa using h8) q.2; rw [if_pos (by simpa using h15)] at e; exact ⟨by decide, by decide, by rw [← e]; exact hI.2.2.2⟩) | (have e := tok_go (show q.1 < s.length by simpa using h8) (w := q.2) (by simpa using h15); rw [wrap64 (by omega) (by omega)] at h29; rw [h29] at e; simp only [Bool.or_eq_false_iff, decide_eq_false_iff_not] at h29; exact ⟨by omega, by omega, by rw [← hI.2.2.2, e]; rfl⟩)
        exact Can.weak (Weak.lit (by simp only [go_sem, seval, subM, leV, inns, innr, V.inn, us, true_or, or_true] <;> (rw [wrap64 (by omega) (by omega)])) (by simp only [go_sem, seval, subM, leV, inns, innr, V.inn, us, true_or, or_true]) (by simp only [go_sem, seval, subM, leV, inns, innr, V.inn, us, true_or, or_true]))
      · refine AWp.seq ?_
        refine AWp.rgn [] (by simp only [go_sem, seval]; rfl) ?_ ?_
        · simp only [decide_eq_true_eq] at h8; exact ⟨⟨⟨⟨by omega, by omega⟩, fun h => ⟨h, by omega, by omega⟩⟩, fun h => by rw [h]; rfl⟩, fun h => by rw [h]; rfl⟩
        refine AWp.condB (by simp only [go_sem, seval]; rfl) (by simp only [go_sem, seval]) (fun h29 => ?_) (fun h29 => ?_)
        · refine AWp.seq ?_
          refine AWp.rgn [] (by simp only [go_sem, seval]; rfl) ?_ ?_
          · (first | trivial | (simp; done))
          refine AWp.ret (And.intro (.inr rfl) ?_)
          exact Out.plain (by simp only [Tryz.results72]; rfl) (by simp only [resCs, resC, go_sem, seval] <;> (split <;> rfl)) (by simp only [resV, go_sem, seval] <;> (have e := tok_go (show q.1 < s.length by simpa using h8) (w := q.2) (by simpa using h15); rw [wrap64 (by omega) (by omega)] at h29; rw [h29] at e; unfold tOk; rw [← hI.2.2.2, e]; rfl)) (by simp only [go_sem, seval])
        · refine AWp.skip ?_
          refine Exists.intro (q.2 + 1) ⟨?_, ?_⟩
          · first | (have e := tokW_at (show q.1 < s.length by simpa using h8) q.2; rw [if_pos (by simpa using h15)] at e; exact ⟨by decide, by decide, by rw [← e]; exact hI.2.2.2⟩) | (have e := tok_go (show q.1 < s.length by simpa using h8) (w := q.2) (by simpa using h15); rw [wrap64 (by omega) (by omega)] at h29; rw [h29] at e; simp only [Bool.or_eq_false_iff, decide_eq_false_iff_not] at h29; exact ⟨by omega, by omega, by rw [← hI.2.2.2, e]; rfl⟩)
          exact Can.weak (Weak.lit (by simp only [go_sem, seval, subM, leV, inns, innr, V.inn, us, true_or, or_true] <;> (rw [wrap64 (by omega) (by omega)])) (by simp only [go_sem, seval, subM, leV, inns, innr, V.inn, us, true_or, or_true]) (by simp only [go_sem, seval, subM, leV, inns, innr, V.inn, us, true_or, or_true]))
    refine AWp.rgn [] (by simp only [go_sem, seval]; rfl) ?_ ?_
    · (first | trivial | (simp; done))
    refine Exists.intro ((q.1 + 1, p)) ⟨?_, ?_, ?_⟩
    · simp at h8; exact ⟨by dsimp only; omega, hJ.1, hJ.2.1, hJ.2.2⟩
    · simp at h8; dsimp only; omega
    exact Can.weak (Weak.lit (by simp only [go_sem, seval, subM, leV, inns, innr, V.inn, us, true_or, or_true] <;> (rw [wrap64 (by omega) (by omega)]; simp)) (by simp only [go_sem, seval, subM, leV, inns, innr, V.inn, us, true_or, or_true]) (by simp only [go_sem, seval, subM, leV, inns, innr, V.inn, us, true_or, or_true]))
  · refine AWp.exit ?_
    refine AWp.seq ?_
    refine AWp.rgn [] (by simp only [go_sem, seval]; rfl) ?_ ?_
    · (first | trivial | (simp; done))
    refine AWp.ret (And.intro (.inr rfl) ?_)
    exact Out.plain (by simp only [Tryz.results72]; rfl) (by simp only [resCs, resC, go_sem, seval] <;> (split <;> rfl)) (by simp only [resV, go_sem, seval] <;> (simp only [decide_eq_false_iff_not] at h8; have e := hI.2.2.2; rw [List.drop_of_length_le (by omega)] at e; unfold tOk; rw [← e]; simp only [tokW, Bool.true_and]; rw [show decide ((s.length : Int) ≤ 4000) = decide (s.length ≤ 4000) from decide_eq_decide.2 (by omega)])) (by simp only [go_sem, seval])
theorem ClipStrF_a (l : List Str) (hl : l.length < 1099511627776) : ACall En 73 [.sl false (strR l)] [] [.sl false (strR l)] [] := by
  refine acall_of_body (fn := Tryz.f73) [] Tryz.func73 rfl rfl (by simp) fun C => ?_
  rw [entry_eq]
  simp only [Tryz.ntmps73, List.length_cons, List.length_nil, Nat.reduceAdd, Nat.reduceSub, List.replicate_succ, List.replicate_zero, List.cons_append, List.nil_append, numL]
  refine AWp.seq ?_
  refine AWp.rgn [] (by simp only [go_sem, seval, strR_pure, strR_len]; rfl) ?_ ?_
  · (first | trivial | (simp; done))
  refine AWp.seq ?_
  refine AWp.rgn [] (by simp only [go_sem, seval, strR_pure, strR_len]; rfl) ?_ ?_
  · (first | trivial | (simp; done))
  refine AWp.ret (And.intro (.inr rfl) ?_)
  exact Out.plainL (by simp only [Tryz.results73]; rfl) (by simp only [resCs, resC, go_sem, seval, strR_pure, strR_len] <;> (split <;> rfl)) (by simp only [resV, go_sem, seval, strR_pure, strR_len] <;> (rw [List.take_of_length_le (by rw [strR_len]; exact Nat.le_refl _)]; exact ler_refl _)) (by simp only [go_sem, seval, strR_pure, strR_len])
theorem iTextLines_a (s : Str) (hs : s.length ≤ 281474976710656) : ACall En 20 [.s s] [] [.sl false (strR (tLines s))] [] := by
  refine acall_of_body (fn := Tryz.f20) [] Tryz.func20 rfl rfl (by simp) fun C => ?_
  rw [entry_eq]
  simp only [Tryz.ntmps20, List.length_cons, List.length_nil, Nat.reduceAdd, Nat.reduceSub, List.replicate_succ, List.replicate_zero, List.cons_append, List.nil_append, numL]
  refine AWp.seq ?_
  refine AWp.rgn [] (by simp only [go_sem, seval, strR_pure]; rfl) ?_ ?_
  · (first | trivial | (simp; done) | (simpa using h5))
  refine AWp.seq ?_
  refine AWp.seq ?_
  refine AWp.rgn [call0 (iTextOk_a s hs)] (by simp only [go_sem, seval, strR_pure]; rfl) ?_ ?_
  · (first | trivial | (simp; done) | (simpa using h5))
  refine AWp.condB (by simp only [go_sem, seval, strR_pure]; rfl) (by simp only [go_sem, seval, strR_pure]) (fun h5 => ?_) (fun h5 => ?_)
  · refine AWp.seq ?_
    refine AWp.rgn [] (by simp only [go_sem, seval, strR_pure]; rfl) ?_ ?_
    · (first | trivial | (simp; done) | (simpa using h5))
    refine AWp.ret (And.intro (.inr rfl) ?_)
    exact Out.plainL (by simp only [Tryz.results20]; rfl) (by simp only [resCs, resC, go_sem, seval, strR_pure] <;> (split <;> rfl)) (by simp only [resV, go_sem, seval, strR_pure] <;> (simp at h5; simp [tLines, h5, strR, ler])) (by simp only [go_sem, seval, strR_pure])
  · refine AWp.skip ?_
    refine AWp.seq ?_
    refine AWp.rgn [callI (tOk s = true) (fun h => split_a s (by have := tOk_len h; omega)), callI (tOk s = true) (fun h => ClipStrF_a (spl s) (by have := spl_len s; have := tOk_len h; omega))] (by simp only [go_sem, seval, strR_pure]; rfl) ?_ ?_
    · (first | trivial | (simp; done) | (simpa using h5))
    refine AWp.ret (And.intro (.inr rfl) ?_)
    exact Out.plainL (by simp only [Tryz.results20]; rfl) (by simp only [resCs, resC, go_sem, seval, strR_pure] <;> (split <;> rfl)) (by simp only [resV, go_sem, seval, strR_pure] <;> (simp at h5; simp [tLines, h5, ler_refl, leV])) (by simp only [go_sem, seval, strR_pure])
end
end Go.Proofs.YteihfmnmpdbkiaaGreatDoor
