/- Places of words: the same, marked, held. Conditions: none. -/
import Derived.Test.YtcigkafioinfoaaGreatDoorK20
import Derived.Test.YtcigkafioinfoaaGreatDoorK4
set_option linter.unusedVariables false
set_option linter.unusedSimpArgs false
namespace Go.Proofs.YtcigkafioinfoaaGreatDoor
section
open Go.RowKit
set_option maxRecDepth 100000
set_option maxHeartbeats 4000000
theorem afc_ (l : List Sg) : il_ (sgR l) = true := List.all_eq_true.2 fun r hr => by obtain ⟨t, _, rfl⟩ := List.mem_map.1 hr; rfl
theorem aiq_ (c : Nat) (l : List Sg) : SegOk c [.ow 0 4 0 l.length] [.ow c 4 0 l.length] [⟨98, 4, sgR l⟩] [⟨98, 4, sgR l⟩] :=
 ⟨rfl, by simp only [List.map_cons, List.map_nil, rnB, dy_ _ _ (af_ _)], by simp [rns, rn, List.range'], by simp [cls, V.cl], fun b hb => by simp at hb; subst hb; exact ko_ _ _ (af_ _)⟩
theorem eb_ (l : List Sg) : ∀ b ∈ [(⟨98, 4, sgR l⟩ : Blk)], il_ b.rows = true := fun b hb => by simp at hb; subst hb; exact afc_ l
theorem vz_ (a b c d : Int) : ACall En 161 [.ag [.i .i64 a, .i .i64 b], .ag [.i .i64 c, .i .i64 d]] [] [.b (a == c && b == d)] [] := by
 refine an_ (fn := Tryz.f161) [] Tryz.func161 rfl rfl (by simp) fun C => ?_
 rw [bb_]
 simp only [Tryz.ntmps161, T7_, List.length_nil, Nat.reduceAdd, Nat.reduceSub, List.replicate_succ, List.replicate_zero, List.cons_append, List.nil_append, bu_]
 refine .seq (.rgn [] (by simp only [go_sem, seval]; rfl) ?_ ?_)
 ·first | trivial | simp
 refine .seq (.seq (.rgn [] (by simp only [go_sem, seval]; rfl) ?_ ?_))
 ·first | trivial | simp
 refine .condB (by simp only [go_sem, seval]; rfl) (by simp only [go_sem, seval]) (fun h9 => ?_) (fun h9 => ?_)
 ·refine .seq (.rgn [] (by simp only [go_sem, seval]; rfl) ?_ ?_)
  ·first | trivial | simp
  refine .ret ⟨.inr rfl, ?_⟩
  exact Out.plain (by simp only [Tryz.results161]; rfl) (by simp only [ba_, bs_, go_sem, seval] <;> (split <;> rfl)) (by simp only [bq_, go_sem, seval] <;> (simp at h9; simp [h9])) (by simp only [go_sem, seval])
 ·refine .skip (.seq (.seq (.rgn [] (by simp only [go_sem, seval]; rfl) ?_ ?_)))
  ·first | trivial | simp
  refine .condB (by simp only [go_sem, seval]; rfl) (by simp only [go_sem, seval]) (fun h14 => ?_) (fun h14 => ?_)
  ·refine .seq (.rgn [] (by simp only [go_sem, seval]; rfl) ?_ ?_)
   ·first | trivial | simp
   refine .ret ⟨.inr rfl, ?_⟩
   exact Out.plain (by simp only [Tryz.results161]; rfl) (by simp only [ba_, bs_, go_sem, seval] <;> (split <;> rfl)) (by simp only [bq_, go_sem, seval] <;> (simp at h9 h14; simp [h9, h14])) (by simp only [go_sem, seval])
  ·refine .skip (.seq (.rgn [] (by simp only [go_sem, seval]; rfl) ?_ ?_))
   ·first | trivial | simp
   refine .ret ⟨.inr rfl, ?_⟩
   exact Out.plain (by simp only [Tryz.results161]; rfl) (by simp only [ba_, bs_, go_sem, seval] <;> (split <;> rfl)) (by simp only [bq_, go_sem, seval] <;> (simp at h9 h14; simp [h9, h14])) (by simp only [go_sem, seval])
theorem ad2_ (a b : Sg) : ACall En 103 [.ag (sgC a), .ag (sgC b)] [] [.b (decide (a = b))] [] := by
 obtain ⟨a1, a2, a3, a4⟩ := a
 obtain ⟨b1, b2, b3, b4⟩ := b
 have e : sgC (a1, a2, a3, a4) = [.i .i64 a1, .i .i64 a2, .i .i64 a3, .i .i64 a4] := rfl
 have e' : sgC (b1, b2, b3, b4) = [.i .i64 b1, .i .i64 b2, .i .i64 b3, .i .i64 b4] := rfl
 refine an_ (fn := Tryz.f103) [] Tryz.func103 rfl rfl (by simp) fun C => ?_
 rw [bb_]
 simp only [Tryz.ntmps103, T7_, List.length_nil, Nat.reduceAdd, Nat.reduceSub, List.replicate_succ, List.replicate_zero, List.cons_append, List.nil_append, bu_]
 refine .seq (.rgn [] (by simp only [go_sem, seval, e, e']; rfl) ?_ ?_)
 ·first | trivial | simp
 refine .seq (.seq (.rgn [br_ (vz_ a1 a2 b1 b2)] (by simp only [go_sem, seval, e, e']; rfl) ?_ ?_))
 ·first | trivial | simp
 refine .condB (by simp only [go_sem, seval, e, e']; rfl) (by simp only [go_sem, seval, e, e']) (fun h10 => ?_) (fun h10 => ?_)
 ·refine .seq (.rgn [] (by simp only [go_sem, seval, e, e']; rfl) ?_ ?_)
  ·first | trivial | simp
  refine .ret ⟨.inr rfl, ?_⟩
  exact Out.plain (by simp only [Tryz.results103]; rfl) (by simp only [ba_, bs_, go_sem, seval, e, e'] <;> (split <;> rfl)) (by simp only [bq_, go_sem, seval, e, e'] <;> (simp at h10; rw [decide_eq_false (fun q => by simp only [Prod.mk.injEq] at q; rcases h10 with h | h; exact h q.1; exact h q.2.1)])) (by simp only [go_sem, seval, e, e'])
 ·refine .skip (.seq (.seq (.rgn [br_ (vz_ a3 a4 b3 b4)] (by simp only [go_sem, seval, e, e']; rfl) ?_ ?_)))
  ·first | trivial | simp
  refine .condB (by simp only [go_sem, seval, e, e']; rfl) (by simp only [go_sem, seval, e, e']) (fun h16 => ?_) (fun h16 => ?_)
  ·refine .seq (.rgn [] (by simp only [go_sem, seval, e, e']; rfl) ?_ ?_)
   ·first | trivial | simp
   refine .ret ⟨.inr rfl, ?_⟩
   exact Out.plain (by simp only [Tryz.results103]; rfl) (by simp only [ba_, bs_, go_sem, seval, e, e'] <;> (split <;> rfl)) (by simp only [bq_, go_sem, seval, e, e'] <;> (simp at h16; rw [decide_eq_false (fun q => by simp only [Prod.mk.injEq] at q; rcases h16 with h | h; exact h q.2.2.1; exact h q.2.2.2)])) (by simp only [go_sem, seval, e, e'])
  ·refine .skip (.seq (.rgn [] (by simp only [go_sem, seval, e, e']; rfl) ?_ ?_))
   ·first | trivial | simp
   refine .ret ⟨.inr rfl, ?_⟩
   exact Out.plain (by simp only [Tryz.results103]; rfl) (by simp only [ba_, bs_, go_sem, seval, e, e'] <;> (split <;> rfl)) (by simp only [bq_, go_sem, seval, e, e'] <;> (simp at h10 h16; rw [decide_eq_true (by simp only [Prod.mk.injEq]; exact ⟨h10.1, h10.2, h16.1, h16.2⟩)])) (by simp only [go_sem, seval, e, e'])
theorem oq_ (a b : List Sg) (la : a.length ≤ 1048576) (lb : b.length ≤ 1048576) : ACall En 37 [.sl false (sgR a), .sl false (sgR b)] [] [.b (decide (a = b))] [] := by
 refine an_ (fn := Tryz.f37) [] Tryz.func37 rfl rfl (by simp) fun C => ?_
 rw [bb_]
 simp only [Tryz.ntmps37, T7_, List.length_nil, Nat.reduceAdd, Nat.reduceSub, List.replicate_succ, List.replicate_zero, List.cons_append, List.nil_append, bu_]
 refine .seq (.rgn [] (by simp only [go_sem, seval, ai_, af_]; rfl) ?_ ?_)
 ·first | trivial | simp
 refine .seq (.seq (.rgn [] (by simp only [go_sem, seval, ai_, af_]; rfl) ?_ ?_))
 ·first | trivial | simp
 refine .condB (by simp only [go_sem, seval, ai_, af_]; rfl) (by simp only [go_sem, seval, ai_, af_]) (fun h10 => ?_) (fun h10 => ?_)
 ·refine .seq (.rgn [] (by simp only [go_sem, seval, ai_, af_]; rfl) ?_ ?_)
  ·first | trivial | simp
  refine .ret ⟨.inr rfl, ?_⟩
  exact Out.plain (by simp only [Tryz.results37]; rfl) (by simp only [ba_, bs_, go_sem, seval, ai_, af_] <;> (split <;> rfl)) (by simp only [bq_, go_sem, seval, ai_, af_] <;> (simp at h10; have h : ¬ a = b := (fun e => h10 (by rw [e])); simp [h])) (by simp only [go_sem, seval, ai_, af_])
 ·refine .skip (.seq (.seq (.rgn [] (by simp only [go_sem, seval, ai_, af_]; rfl) ?_ ?_)))
  ·first | trivial | simp
  refine .block (.loopK (fun k : Nat => ⟨[.sl false (sgR a), .sl false (sgR b), .no, .no, .no, .i .i64 k, .no, .no, .no, .no, .no, .no, .no, .no, .no, .no, .no, .no, .no, .no, .no, .no, .no, .no, .no, .no, .no], bf_ [], us []⟩) (fun k : Nat => k ≤ a.length ∧ a.take k = b.take k) (fun k : Nat => a.length - k) (0) ?_ ?_ (fun k hI => ?_))
  ·simp
  ·exact Can.weak (Weak.lit (by simp only [go_sem, seval, ai_, af_, a2_, leV, az_, ay_, V.inn, us, T9_, Ta_] <;> (simp)) (by simp only [go_sem, seval, ai_, af_, a2_, leV, az_, ay_, V.inn, us, T9_, Ta_]) (by simp only [go_sem, seval, ai_, af_, a2_, leV, az_, ay_, V.inn, us, T9_, Ta_]))
  refine .seq (.seq (.rgn [] (by simp only [go_sem, seval, ai_, af_]; rfl) ?_ ?_))
  ·first | trivial | simp
  refine .condB (by simp only [go_sem, seval, ai_, af_]; rfl) (by simp only [go_sem, seval, ai_, af_]) (fun h14 => ?_) (fun h14 => ?_)
  ·refine .skip (.seq (.block (.seq (.rgnD [br_ (ad2_ (a.getD k G0) (b.getD k G0))] enM (by simp only [go_sem, seval, ai_, af_, ni_ (show k < a.length by simpa using h14), ni_ (show k < b.length by simp at h14 h10; omega)]; rfl) (by rfl) ?_ ?_))))
   ·simp at h14 h10; have hb : k < b.length := (by omega); and_intros <;> first | omega | rfl | trivial | (simp [sgC]; done) | (simp [sgC]; omega)
   refine .condB (by simp only [go_sem, seval, ai_, af_]; rfl) (by simp only [go_sem, seval, ai_, af_]) (fun h26 => ?_) (fun h26 => ?_)
   ·refine .seq (.rgn [] (by simp only [go_sem, seval, ai_, af_]; rfl) ?_ ?_)
    ·first | trivial | simp
    refine .ret ⟨.inr rfl, ?_⟩
    exact Out.plain (by simp only [Tryz.results37]; rfl) (by simp only [ba_, bs_, go_sem, seval, ai_, af_] <;> (split <;> rfl)) (by simp only [bq_, go_sem, seval, ai_, af_] <;> (simp at h14 h10; have h : ¬ a = b := (fun e => by rw [e] at h26; simp at h26); simp [h])) (by simp only [go_sem, seval, ai_, af_])
   ·refine .skip (.rgn [] (by simp only [go_sem, seval, ai_, af_]; rfl) ?_ ?_)
    ·first | trivial | simp
    refine Exists.intro (k + 1) ⟨?_, ?_, ?_⟩
    ·simp at h14 h10; exact ⟨by omega, ab8_ (d := G0) h14 (by omega) hI.2 (by simpa using h26)⟩
    ·simp at h14; omega
    exact Can.weak (Weak.lit (by simp only [go_sem, seval, ai_, af_, a2_, leV, az_, ay_, V.inn, us, T9_, Ta_] <;> (rw [bv_ (by simp at h14; omega) (by simp at h14; omega)]; simp)) (by simp only [go_sem, seval, ai_, af_, a2_, leV, az_, ay_, V.inn, us, T9_, Ta_]) (by simp only [go_sem, seval, ai_, af_, a2_, leV, az_, ay_, V.inn, us, T9_, Ta_]))
  ·refine .exit (.seq (.rgn [] (by simp only [go_sem, seval, ai_, af_]; rfl) ?_ ?_))
   ·first | trivial | simp
   refine .ret ⟨.inr rfl, ?_⟩
   exact Out.plain (by simp only [Tryz.results37]; rfl) (by simp only [ba_, bs_, go_sem, seval, ai_, af_] <;> (split <;> rfl)) (by simp only [bq_, go_sem, seval, ai_, af_] <;> (simp at h14 h10; have q := hI.2; rw [T1_ (by omega), T1_ (by omega)] at q; simp [q])) (by simp only [go_sem, seval, ai_, af_])
def sq4 (k : Int) (n : Nat) : List Sg := (List.range n).map fun (i : Nat) => (k + 4 * (i : Int), k + 4 * (i : Int) + 1, k + 4 * (i : Int) + 2, k + 4 * (i : Int) + 3)
theorem bd_ (k : Int) (n : Nat) : (sq4 k n).length = n := by simp [sq4]
theorem adc_ {k : Int} {n i : Nat} (h : i < n) : (sq4 k n).getD i G0 = (k + 4 * (i : Int), k + 4 * (i : Int) + 1, k + 4 * (i : Int) + 2, k + 4 * (i : Int) + 3) := by
 simp [sq4, T8_, h]
theorem ad5_ {k : Int} {l : List Sg} {i : Nat} (h : i < l.length) : (sgR (sq4 k i ++ l.drop i)).getD i [] = [.i .i64 (l.getD i G0).1, .i .i64 (l.getD i G0).2.1, .i .i64 (l.getD i G0).2.2.1, .i .i64 (l.getD i G0).2.2.2] := by
 rw [ni_ (by rw [T2_, bd_, List.length_drop]; omega)]
 have e : (sq4 k i ++ l.drop i).getD i G0 = l.getD i G0 := by
  rw [T8_, List.getElem?_append_right (by rw [bd_]; exact Nat.le_refl _), bd_, Nat.sub_self, List.getElem?_drop, Nat.add_zero, T8_]
 rw [e]; rfl
theorem ae3_ {k : Int} {l : List Sg} {i : Nat} (h : i < l.length) : (sgR (sq4 k i ++ l.drop i)).set i [.i .i64 (k + 4 * (i : Int)), .i .i64 (k + 4 * (i : Int) + 1), .i .i64 (k + 4 * (i : Int) + 2), .i .i64 (k + 4 * (i : Int) + 3)] = sgR (sq4 k (i + 1) ++ l.drop (i + 1)) := by
 have e : (sq4 k i ++ l.drop i).set i (k + 4 * (i : Int), k + 4 * (i : Int) + 1, k + 4 * (i : Int) + 2, k + 4 * (i : Int) + 3) = sq4 k (i + 1) ++ l.drop (i + 1) := by
  rw [List.set_append_right _ _ (by rw [bd_]; exact Nat.le_refl _), bd_, Nat.sub_self, List.drop_eq_getElem_cons h, List.set_cons_zero]
  simp [sq4, List.range_succ]
 rw [← e]
 simp only [sgR, List.map_set]; rfl
theorem u9_ (l : List Sg) (k : Int) (hl : l.length ≤ 1000000) (h0 : 0 ≤ k) (h1 : k ≤ 1000000) : ACall En 40 [.ow 0 4 0 l.length, .i .i64 k] [⟨98, 4, sgR l⟩] [.i .i64 (k + 4 * (l.length : Int))] [⟨98, 4, sgR (sq4 k l.length)⟩] := by
 have hln : ∀ i, i ≤ l.length → (sgR (sq4 k i ++ l.drop i)).length = l.length := fun i h => by rw [ai_, T2_, bd_, List.length_drop]; omega
 have hw1 : ∀ i : Nat, i < l.length → IntKind.i64.wrap (k + 4 * (i : Int) + 1) = k + 4 * (i : Int) + 1 := fun i h => bv_ (by omega) (by omega)
 have hw2 : ∀ i : Nat, i < l.length → IntKind.i64.wrap (k + 4 * (i : Int) + 1 + 1) = k + 4 * (i : Int) + 2 := fun i h => by rw [bv_ (by omega) (by omega)]; omega
 have hw3 : ∀ i : Nat, i < l.length → IntKind.i64.wrap (k + 4 * (i : Int) + 2 + 1) = k + 4 * (i : Int) + 3 := fun i h => by rw [bv_ (by omega) (by omega)]; omega
 have hw4 : ∀ i : Nat, i < l.length → IntKind.i64.wrap (k + 4 * (i : Int) + 3 + 1) = k + 4 * ((i + 1 : Nat) : Int) := fun i h => by rw [bv_ (by omega) (by omega)]; omega
 refine an_ (fn := Tryz.f40) [0] Tryz.func40 rfl rfl (by simp) fun C => ?_
 rw [bb_]
 simp only [Tryz.ntmps40, T7_, List.length_nil, Nat.reduceAdd, Nat.reduceSub, List.replicate_succ, List.replicate_zero, List.cons_append, List.nil_append, bu_]
 refine .seq (.rgn [] (by simp only [go_sem, seval, af_, List.length_set, List.set_set]; rfl) ?_ ?_)
 ·(first | trivial | (simp; done) | (simp only [T3_] at h9; and_intros <;> first | omega | (simp; omega)))
 refine .seq (.seq (.rgn [] (by simp only [go_sem, seval, af_, List.length_set, List.set_set]; rfl) ?_ ?_))
 ·(first | trivial | (simp; done) | (simp only [T3_] at h9; and_intros <;> first | omega | (simp; omega)))
 refine .block (.loopK (fun i : Nat => ⟨[.ow 0 4 0 l.length, .i .i64 (k + 4 * (i : Int)), .no, .no, .no, .i .i64 i, .no, .no, .no, .no, .no, .no, .no, .no, .no, .no, .no, .no, .no, .no, .no, .no, .no, .no, .no, .no, .no, .no, .no, .no, .no, .no, .no, .no, .no, .no, .no, .no, .no, .no, .no, .no, .no, .no, .no], bf_ [(0, ⟨98, 4, sgR (sq4 k i ++ l.drop i)⟩)], us [0]⟩) (fun i : Nat => i ≤ l.length) (fun i : Nat => l.length - i) (0) ?_ ?_ (fun i hI => ?_))
 ·simp
 ·exact Can.weak (Weak.lit (by simp only [go_sem, seval, af_, List.length_set, List.set_set, a2_, leV, az_, ay_, V.inn, us, T9_, Ta_] <;> ((try simp))) (by simp only [go_sem, seval, af_, List.length_set, List.set_set, a2_, leV, az_, ay_, V.inn, us, T9_, Ta_]) (by simp only [go_sem, seval, af_, List.length_set, List.set_set, a2_, leV, az_, ay_, V.inn, us, T9_, Ta_] <;> ((try simp [sq4]))))
 refine .seq (.seq (.rgn [] (by simp only [go_sem, seval, af_, List.length_set, List.set_set, hln i hI]; rfl) ?_ ?_))
 ·(first | trivial | (simp; done) | (simp only [T3_] at h9; and_intros <;> first | omega | (simp; omega)))
 refine .condB (by simp only [go_sem, seval, af_, List.length_set, List.set_set]; rfl) (by simp only [go_sem, seval, af_, List.length_set, List.set_set]) (fun h9 => ?_) (fun h9 => ?_)
 ·refine .skip (.seq (.block (.seq (.rgn [] (by simp only [go_sem, seval, af_, List.length_set, List.set_set, ad5_ (k := k) (show i < l.length by simpa using h9), hln i hI]; rfl) ?_ ?_))))
  ·(first | trivial | (simp; done) | (simp only [T3_] at h9; and_intros <;> first | omega | (simp; omega)))
  refine .seq (.rgn [] (by simp only [go_sem, seval, af_, List.length_set, List.set_set, hw1 i (show i < l.length by simpa using h9)]; rfl) ?_ ?_)
  ·(first | trivial | (simp; done) | (simp only [T3_] at h9; and_intros <;> first | omega | (simp; omega)))
  refine .seq (.rgn [] (by simp only [go_sem, seval, af_, List.length_set, List.set_set, jq_ (show i < (sgR (sq4 k i ++ l.drop i)).length by rw [hln i hI]; simpa using h9), hln i hI, hw1 i (by simpa using h9), hw2 i (by simpa using h9), hw3 i (by simpa using h9)]; rfl) ?_ ?_)
  ·(first | trivial | (simp; done) | (simp only [T3_] at h9; and_intros <;> first | omega | (simp; omega)))
  refine .seq (.rgn [] (by simp only [go_sem, seval, af_, List.length_set, List.set_set, hw2 i (show i < l.length by simpa using h9)]; rfl) ?_ ?_)
  ·(first | trivial | (simp; done) | (simp only [T3_] at h9; and_intros <;> first | omega | (simp; omega)))
  refine .seq (.rgn [] (by simp only [go_sem, seval, af_, List.length_set, List.set_set, jq_ (show i < (sgR (sq4 k i ++ l.drop i)).length by rw [hln i hI]; simpa using h9), hln i hI, hw1 i (by simpa using h9), hw2 i (by simpa using h9), hw3 i (by simpa using h9)]; rfl) ?_ ?_)
  ·(first | trivial | (simp; done) | (simp only [T3_] at h9; and_intros <;> first | omega | (simp; omega)))
  refine .seq (.rgn [] (by simp only [go_sem, seval, af_, List.length_set, List.set_set, hw3 i (show i < l.length by simpa using h9)]; rfl) ?_ ?_)
  ·(first | trivial | (simp; done) | (simp only [T3_] at h9; and_intros <;> first | omega | (simp; omega)))
  refine .seq (.rgn [] (by simp only [go_sem, seval, af_, List.length_set, List.set_set, jq_ (show i < (sgR (sq4 k i ++ l.drop i)).length by rw [hln i hI]; simpa using h9), hln i hI, hw1 i (by simpa using h9), hw2 i (by simpa using h9), hw3 i (by simpa using h9)]; rfl) ?_ ?_)
  ·(first | trivial | (simp; done) | (simp only [T3_] at h9; and_intros <;> first | omega | (simp; omega)))
  refine .rgn [] (by simp only [go_sem, seval, af_, List.length_set, List.set_set, hw4 i (show i < l.length by simpa using h9)]; rfl) ?_ ?_
  ·(first | trivial | (simp; done) | (simp only [T3_] at h9; and_intros <;> first | omega | (simp; omega)))
  refine .rgn [] (by simp only [go_sem, seval, af_, List.length_set, List.set_set]; rfl) ?_ ?_
  ·(first | trivial | (simp; done) | (simp only [T3_] at h9; and_intros <;> first | omega | (simp; omega)))
  refine Exists.intro (i + 1) ⟨?_, ?_, ?_⟩
  ·simp at h9; omega
  ·simp at h9; omega
  exact Can.weak (Weak.lit (by simp only [go_sem, seval, af_, List.length_set, List.set_set, a2_, leV, az_, ay_, V.inn, us, T9_, Ta_] <;> (exact bv_ (by simp at h9; omega) (by simp at h9; omega))) (by simp only [go_sem, seval, af_, List.length_set, List.set_set, a2_, leV, az_, ay_, V.inn, us, T9_, Ta_]) (by simp only [go_sem, seval, af_, List.length_set, List.set_set, a2_, leV, az_, ay_, V.inn, us, T9_, Ta_] <;> (rw [ae3_ (by simpa using h9)])))
 ·refine .exit (.seq (.rgn [] (by simp only [go_sem, seval, af_, List.length_set, List.set_set]; rfl) ?_ ?_))
  ·(first | trivial | (simp; done) | (simp only [T3_] at h9; and_intros <;> first | omega | (simp; omega)))
  refine .ret ⟨.inr rfl, ?_⟩
  exact Out.mem' (by simp only [Tryz.results40]; rfl) (by simp only [ba_, bs_, go_sem, seval, af_, List.length_set, List.set_set]) (by simp only [bq_, rns, rn, go_sem, seval, af_, List.length_set, List.set_set] <;> (simp at h9; rw [show i = l.length by omega])) (by simp) rfl (by decide) (by simp only [go_sem, seval, af_, List.length_set, List.set_set]) (by simp only [bt_, go_sem, seval, af_, List.length_set, List.set_set]) (by simp only [bn_, go_sem, seval, af_, List.length_set, List.set_set] <;> (simp at h9; rw [show i = l.length by omega]; simp))
theorem o9_ (n : Nat) (k : Int) (hl : n ≤ 1000000) (h0 : 0 ≤ k) (h1 : k ≤ 1000000) : ACall En 41 [.sl false (sgR (sq4 k n)), .i .i64 k] [] [.i .i64 (k + 4 * (n : Int))] [] := by
 have hw1 : ∀ i : Nat, i < n → IntKind.i64.wrap (k + 4 * (i : Int) + 1) = k + 4 * (i : Int) + 1 := fun i h => bv_ (by omega) (by omega)
 have hw2 : ∀ i : Nat, i < n → IntKind.i64.wrap (k + 4 * (i : Int) + 1 + 1) = k + 4 * (i : Int) + 2 := fun i h => by rw [bv_ (by omega) (by omega)]; omega
 have hw3 : ∀ i : Nat, i < n → IntKind.i64.wrap (k + 4 * (i : Int) + 2 + 1) = k + 4 * (i : Int) + 3 := fun i h => by rw [bv_ (by omega) (by omega)]; omega
 have hw4 : ∀ i : Nat, i < n → IntKind.i64.wrap (k + 4 * (i : Int) + 3 + 1) = k + 4 * ((i + 1 : Nat) : Int) := fun i h => by rw [bv_ (by omega) (by omega)]; omega
 have hrow : ∀ i, i < n → (sgR (sq4 k n)).getD i [] = [.i .i64 (k + 4 * (i : Int)), .i .i64 (k + 4 * (i : Int) + 1), .i .i64 (k + 4 * (i : Int) + 2), .i .i64 (k + 4 * (i : Int) + 3)] := fun i h => by rw [ni_ (by rw [bd_]; exact h), adc_ h]; rfl
 refine an_ (fn := Tryz.f41) [] Tryz.func41 rfl rfl (by simp) fun C => ?_
 rw [bb_]
 simp only [Tryz.ntmps41, T7_, List.length_nil, Nat.reduceAdd, Nat.reduceSub, List.replicate_succ, List.replicate_zero, List.cons_append, List.nil_append, bu_]
 refine .seq (.rgn [] (by simp only [go_sem, seval, ai_, af_, bd_]; rfl) ?_ ?_)
 ·(first | trivial | (simp; done) | (simp only [T3_] at h9; and_intros <;> first | omega | (simp; omega)))
 refine .seq (.seq (.rgn [] (by simp only [go_sem, seval, ai_, af_, bd_]; rfl) ?_ ?_))
 ·(first | trivial | (simp; done) | (simp only [T3_] at h9; and_intros <;> first | omega | (simp; omega)))
 refine .block (.loopK (fun i : Nat => ⟨[.sl false (sgR (sq4 k n)), .i .i64 (k + 4 * (i : Int)), .no, .no, .no, .i .i64 i, .no, .no, .no, .no, .no, .no, .no, .no, .no, .no, .no, .no, .no, .no, .no, .no, .no, .no, .no, .no, .no, .no, .no, .no, .no, .no, .no, .no, .no, .no, .no, .no, .no, .no, .no, .no, .no, .no, .no, .no, .no, .no, .no, .no, .no, .no, .no], bf_ [], us []⟩) (fun i : Nat => i ≤ n) (fun i : Nat => n - i) (0) ?_ ?_ (fun i hI => ?_))
 ·simp
 ·exact Can.weak (Weak.lit (by simp only [go_sem, seval, ai_, af_, bd_, a2_, leV, az_, ay_, V.inn, us, T9_, Ta_] <;> ((try simp))) (by simp only [go_sem, seval, ai_, af_, bd_, a2_, leV, az_, ay_, V.inn, us, T9_, Ta_]) (by simp only [go_sem, seval, ai_, af_, bd_, a2_, leV, az_, ay_, V.inn, us, T9_, Ta_]))
 refine .seq (.seq (.rgn [] (by simp only [go_sem, seval, ai_, af_, bd_]; rfl) ?_ ?_))
 ·(first | trivial | (simp; done) | (simp only [T3_] at h9; and_intros <;> first | omega | (simp; omega)))
 refine .condB (by simp only [go_sem, seval, ai_, af_, bd_]; rfl) (by simp only [go_sem, seval, ai_, af_, bd_]) (fun h9 => ?_) (fun h9 => ?_)
 ·refine .skip (.seq (.block (.seq (.seq (.rgn [] (by simp only [go_sem, seval, ai_, af_, bd_, hrow i (by simpa using h9)]; rfl) ?_ ?_)))))
  ·(first | trivial | (simp; done) | (simp only [T3_] at h9; and_intros <;> first | omega | (simp; omega)))
  refine .condB (by simp only [go_sem, seval, ai_, af_, bd_]; rfl) (by simp only [go_sem, seval, ai_, af_, bd_]) (fun h19 => ?_) (fun h19 => ?_)
  ·simp at h19
  ·refine .skip (.seq (.rgn [] (by simp only [go_sem, seval, ai_, af_, bd_, hw1 i (show i < n by simpa using h9)]; rfl) ?_ ?_))
   ·(first | trivial | (simp; done) | (simp only [T3_] at h9; and_intros <;> first | omega | (simp; omega)))
   refine .seq (.seq (.rgn [] (by simp only [go_sem, seval, ai_, af_, bd_, hrow i (by simpa using h9), hw1 i (show i < n by simpa using h9)]; rfl) ?_ ?_))
   ·(first | trivial | (simp; done) | (simp only [T3_] at h9; and_intros <;> first | omega | (simp; omega)))
   refine .condB (by simp only [go_sem, seval, ai_, af_, bd_]; rfl) (by simp only [go_sem, seval, ai_, af_, bd_]) (fun h29 => ?_) (fun h29 => ?_)
   ·simp at h29
   ·refine .skip (.seq (.rgn [] (by simp only [go_sem, seval, ai_, af_, bd_, hw2 i (show i < n by simpa using h9)]; rfl) ?_ ?_))
    ·(first | trivial | (simp; done) | (simp only [T3_] at h9; and_intros <;> first | omega | (simp; omega)))
    refine .seq (.seq (.rgn [] (by simp only [go_sem, seval, ai_, af_, bd_, hrow i (by simpa using h9), hw1 i (show i < n by simpa using h9), hw2 i (show i < n by simpa using h9)]; rfl) ?_ ?_))
    ·(first | trivial | (simp; done) | (simp only [T3_] at h9; and_intros <;> first | omega | (simp; omega)))
    refine .condB (by simp only [go_sem, seval, ai_, af_, bd_]; rfl) (by simp only [go_sem, seval, ai_, af_, bd_]) (fun h39 => ?_) (fun h39 => ?_)
    ·simp at h39
    ·refine .skip (.seq (.rgn [] (by simp only [go_sem, seval, ai_, af_, bd_, hw3 i (show i < n by simpa using h9)]; rfl) ?_ ?_))
     ·(first | trivial | (simp; done) | (simp only [T3_] at h9; and_intros <;> first | omega | (simp; omega)))
     refine .seq (.seq (.rgn [] (by simp only [go_sem, seval, ai_, af_, bd_, hrow i (by simpa using h9), hw1 i (show i < n by simpa using h9), hw2 i (show i < n by simpa using h9), hw3 i (show i < n by simpa using h9)]; rfl) ?_ ?_))
     ·(first | trivial | (simp; done) | (simp only [T3_] at h9; and_intros <;> first | omega | (simp; omega)))
     refine .condB (by simp only [go_sem, seval, ai_, af_, bd_]; rfl) (by simp only [go_sem, seval, ai_, af_, bd_]) (fun h49 => ?_) (fun h49 => ?_)
     ·simp at h49
     ·refine .skip (.rgn [] (by simp only [go_sem, seval, ai_, af_, bd_, hw4 i (show i < n by simpa using h9)]; rfl) ?_ ?_)
      ·(first | trivial | (simp; done) | (simp only [T3_] at h9; and_intros <;> first | omega | (simp; omega)))
      refine .rgn [] (by simp only [go_sem, seval, ai_, af_, bd_]; rfl) ?_ ?_
      ·(first | trivial | (simp; done) | (simp only [T3_] at h9; and_intros <;> first | omega | (simp; omega)))
      refine Exists.intro (i + 1) ⟨?_, ?_, ?_⟩
      ·simp at h9; omega
      ·simp at h9; omega
      exact Can.weak (Weak.lit (by simp only [go_sem, seval, ai_, af_, bd_, a2_, leV, az_, ay_, V.inn, us, T9_, Ta_] <;> (exact bv_ (by simp at h9; omega) (by simp at h9; omega))) (by simp only [go_sem, seval, ai_, af_, bd_, a2_, leV, az_, ay_, V.inn, us, T9_, Ta_]) (by simp only [go_sem, seval, ai_, af_, bd_, a2_, leV, az_, ay_, V.inn, us, T9_, Ta_]))
 ·refine .exit (.seq (.rgn [] (by simp only [go_sem, seval, ai_, af_, bd_]; rfl) ?_ ?_))
  ·(first | trivial | (simp; done) | (simp only [T3_] at h9; and_intros <;> first | omega | (simp; omega)))
  refine .ret ⟨.inr rfl, ?_⟩
  exact Out.plain (by simp only [Tryz.results41]; rfl) (by simp only [ba_, bs_, go_sem, seval, ai_, af_, bd_] <;> (split <;> rfl)) (by simp only [bq_, go_sem, seval, ai_, af_, bd_] <;> (simp at h9; rw [show i = n by omega])) (by simp only [go_sem, seval, ai_, af_, bd_])
end
end Go.Proofs.YtcigkafioinfoaaGreatDoor
