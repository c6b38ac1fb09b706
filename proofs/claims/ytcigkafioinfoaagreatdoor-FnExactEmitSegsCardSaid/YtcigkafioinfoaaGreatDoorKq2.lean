/- What the exact laws do with lines with types, and lists of them: size, copies, sameness. Conditions: none. -/
import Derived.Test.YtcigkafioinfoaaGreatDoorKq
import Derived.Test.YtcigkafioinfoaaGreatDoorKm
set_option linter.unusedVariables false
set_option linter.unusedSimpArgs false
namespace Go.Proofs.YtcigkafioinfoaaGreatDoor
section
set_option maxRecDepth 100000
set_option maxHeartbeats 4000000
def bdS (s : Sl) : Bool := decide (s.name.length ≤ 9223372036854775807) && decide (s.type.length ≤ 9223372036854775807) && bd s.expr && bd s.thn
theorem abo_ {s : Sl} (h : bdS s = true) : s.name.length ≤ 9223372036854775807 ∧ s.type.length ≤ 9223372036854775807 ∧ bd s.expr = true ∧ bd s.thn = true := by
 simp only [bdS, T5_, T3_] at h; exact ⟨h.1.1.1, h.1.1.2, h.1.2, h.2⟩
def szS (s : Sl) (l : Int) : Int := if l - s.name.length < 0 then -1 else if l - s.name.length - s.type.length < 0 then -1 else if szE s.expr (l - s.name.length - s.type.length) < 0 then -1 else szE s.thn (szE s.expr (l - s.name.length - s.type.length))
theorem abt_ (s : Sl) (l : Int) (h : -1 ≤ l) : -1 ≤ szS s l ∧ szS s l ≤ l := by
 unfold szS
 split
 ·omega
 ·split
  ·omega
  ·have h1 := id_ s.expr (l - s.name.length - s.type.length) (by omega)
   split
   ·omega
   ·have h2 := id_ s.thn (szE s.expr (l - s.name.length - s.type.length)) (by omega)
    omega
theorem zb_ {s : Sl} {l : Int} (hl : l ≤ 1048576) (h0 : -1 ≤ l) (h : 0 ≤ szS s l) : fg_ s = true := by
 unfold szS at h
 split at h
 ·omega
 ·split at h
  ·omega
  ·have h1 := id_ s.expr (l - s.name.length - s.type.length) (by omega)
   split at h
   ·omega
   ·have h2 := vi_ s.expr _ (by omega) (show 0 ≤ szE s.expr (l - s.name.length - s.type.length) by omega)
    have h3 := vi_ s.thn _ (by omega) h
    simp only [fg_, h2, h3, Bool.and_true, T5_, T3_]; omega
theorem tl_ (s : Sl) (hb : bdS s = true) (l : Int) (h1 : 0 ≤ l) (h2 : l ≤ 1048576) : ACall En 18 [.ag (sC s), .i .i64 l] [] [.i .i64 (szS s l)] [] := by
 obtain ⟨b1, b1', b2, b3⟩ := abo_ hb
 have hw : IntKind.i64.wrap (l - s.name.length) = l - s.name.length := bv_ (by omega) (by omega)
 have hle : 0 ≤ l - (s.name.length : Int) - s.type.length → szE s.expr (l - s.name.length - s.type.length) ≤ 1048576 := fun h => by have := id_ s.expr (l - s.name.length - s.type.length) (by omega); omega
 refine an_ (fn := Tryz.f18) [] Tryz.func18 rfl rfl (by simp) fun C => ?_
 rw [bb_]
 simp only [Tryz.ntmps18, T7_, List.length_nil, Nat.reduceAdd, Nat.reduceSub, List.replicate_succ, List.replicate_zero, List.cons_append, List.nil_append, bu_]
 refine .seq (.rgn [] (by simp only [go_sem, seval, hw, aa_]; rfl) ?_ ?_)
 ·first | trivial | simp
 refine .seq (.rgn [] (by simp only [go_sem, seval, hw, aa_]; rfl) ?_ ?_)
 ·first | trivial | simp
 refine .seq (.seq (.rgn [] (by simp only [go_sem, seval, hw, aa_]; rfl) ?_ ?_))
 ·first | trivial | simp
 refine .condB (by simp only [go_sem, seval, hw, aa_]; rfl) (by simp only [go_sem, seval, hw, aa_]) (fun h11 => ?_) (fun h11 => ?_)
 ·refine .seq (.rgn [] (by simp only [go_sem, seval, hw, aa_]; rfl) ?_ ?_)
  ·first | trivial | simp
  refine .ret ⟨.inr rfl, ?_⟩
  exact Out.plain (by simp only [Tryz.results18]; rfl) (by simp only [ba_, bs_, go_sem, seval, hw, aa_] <;> (split <;> rfl)) (by simp only [bq_, go_sem, seval, hw, aa_] <;> (simp only [T3_] at h11; rw [szS, if_pos h11])) (by simp only [go_sem, seval, hw, aa_])
 ·refine .skip (.seq (.rgn [] (by simp only [go_sem, seval, hw, aa_, bv_ (show -9223372036854775808 ≤ l - (s.name.length : Int) - s.type.length by simp only [T4_] at h11; omega) (by omega)]; rfl) ?_ ?_))
  ·first | trivial | simp
  refine .seq (.seq (.rgn [] (by simp only [go_sem, seval, hw, aa_]; rfl) ?_ ?_))
  ·first | trivial | simp
  refine .condB (by simp only [go_sem, seval, hw, aa_]; rfl) (by simp only [go_sem, seval, hw, aa_]) (fun h18 => ?_) (fun h18 => ?_)
  ·refine .seq (.rgn [] (by simp only [go_sem, seval, hw, aa_]; rfl) ?_ ?_)
   ·first | trivial | simp
   refine .ret ⟨.inr rfl, ?_⟩
   exact Out.plain (by simp only [Tryz.results18]; rfl) (by simp only [ba_, bs_, go_sem, seval, hw, aa_] <;> (split <;> rfl)) (by simp only [bq_, go_sem, seval, hw, aa_] <;> (simp only [T3_, T4_] at h11 h18; rw [szS, if_neg h11, if_pos h18])) (by simp only [go_sem, seval, hw, aa_])
  ·refine .skip (.seq (.rgn [dw_ (0 ≤ l - (s.name.length : Int) - s.type.length) (fun h => tv_ s.expr b2 (l - s.name.length - s.type.length) h (by omega))] (by simp only [go_sem, seval, hw, aa_]; rfl) ?_ ?_))
   ·simp only [T4_] at h11 h18; simp; omega
   refine .seq (.seq (.rgn [] (by simp only [go_sem, seval, hw, aa_]; rfl) ?_ ?_))
   ·first | trivial | simp
   refine .condB (by simp only [go_sem, seval, hw, aa_]; rfl) (by simp only [go_sem, seval, hw, aa_]) (fun h24 => ?_) (fun h24 => ?_)
   ·refine .seq (.rgn [] (by simp only [go_sem, seval, hw, aa_]; rfl) ?_ ?_)
    ·first | trivial | simp
    refine .ret ⟨.inr rfl, ?_⟩
    exact Out.plain (by simp only [Tryz.results18]; rfl) (by simp only [ba_, bs_, go_sem, seval, hw, aa_] <;> (split <;> rfl)) (by simp only [bq_, go_sem, seval, hw, aa_] <;> (simp only [T3_, T4_] at h11 h18 h24; rw [szS, if_neg h11, if_neg h18, if_pos h24])) (by simp only [go_sem, seval, hw, aa_])
   ·refine .skip (.seq (.rgn [dw_ (0 ≤ l - (s.name.length : Int) - s.type.length ∧ 0 ≤ szE s.expr (l - s.name.length - s.type.length)) (fun h => tv_ s.thn b3 (szE s.expr (l - s.name.length - s.type.length)) h.2 (hle h.1))] (by simp only [go_sem, seval, hw, aa_]; rfl) ?_ ?_))
    ·simp only [T4_] at h11 h18 h24; simp; omega
    refine .seq (.seq (.rgn [] (by simp only [go_sem, seval, hw, aa_]; rfl) ?_ ?_))
    ·first | trivial | simp
    refine .condB (by simp only [go_sem, seval, hw, aa_]; rfl) (by simp only [go_sem, seval, hw, aa_]) (fun h30 => ?_) (fun h30 => ?_)
    ·refine .seq (.rgn [] (by simp only [go_sem, seval, hw, aa_]; rfl) ?_ ?_)
     ·first | trivial | simp
     refine .ret ⟨.inr rfl, ?_⟩
     exact Out.plain (by simp only [Tryz.results18]; rfl) (by simp only [ba_, bs_, go_sem, seval, hw, aa_] <;> (split <;> rfl)) (by simp only [bq_, go_sem, seval, hw, aa_] <;> (simp only [T3_, T4_] at h11 h18 h24 h30; rw [szS, if_neg h11, if_neg h18, if_neg h24]; have := id_ s.thn (szE s.expr (l - s.name.length - s.type.length)) (by omega); congr 1; congr 1; omega)) (by simp only [go_sem, seval, hw, aa_])
    ·refine .skip (.seq (.rgn [] (by simp only [go_sem, seval, hw, aa_]; rfl) ?_ ?_))
     ·first | trivial | simp
     refine .ret ⟨.inr rfl, ?_⟩
     exact Out.plain (by simp only [Tryz.results18]; rfl) (by simp only [ba_, bs_, go_sem, seval, hw, aa_] <;> (split <;> rfl)) (by simp only [bq_, go_sem, seval, hw, aa_] <;> (simp only [T3_, T4_] at h11 h18 h24 h30; rw [szS, if_neg h11, if_neg h18, if_neg h24])) (by simp only [go_sem, seval, hw, aa_])
theorem kb_ (s : Sl) (hs : fg_ s = true) : ACall En 20 [.ag (sC s)] [] [.ag (sC s)] [] := by
 obtain ⟨s1, s1', s2, s3⟩ := d9_ hs
 refine an_ (fn := Tryz.f20) [] Tryz.func20 rfl rfl (by simp) fun C => ?_
 rw [bb_]
 simp only [Tryz.ntmps20, T7_, List.length_nil, Nat.reduceAdd, Nat.reduceSub, List.replicate_succ, List.replicate_zero, List.cons_append, List.nil_append, bu_]
 refine .seq (.rgn [] (by simp only [go_sem, seval, aa_, bm_]; rfl) ?_ ?_)
 ·first | trivial | simp
 refine .seq (.rgn [] (by simp only [go_sem, seval, aa_, bm_]; rfl) ?_ ?_)
 ·first | trivial | simp
 refine .seq (.rgn [] (by simp only [go_sem, seval, aa_, bm_]; rfl) ?_ ?_)
 ·first | trivial | simp
 refine .seq (.rgn [] (by simp only [go_sem, seval, aa_, bm_]; rfl) ?_ ?_)
 ·first | trivial | simp
 refine .seq (.rgn [] (by simp only [go_sem, seval, aa_, bm_]; rfl) ?_ ?_)
 ·first | trivial | simp
 refine .seq (.rgn [br_ (sv_ s.expr s2)] (by simp only [go_sem, seval, aa_, bm_]; rfl) ?_ ?_)
 ·first | trivial | simp
 refine .seq (.rgn [br_ (sv_ s.thn s3)] (by simp only [go_sem, seval, aa_, bm_]; rfl) ?_ ?_)
 ·first | trivial | simp
 refine .seq (.rgn [] (by simp only [go_sem, seval, aa_, bm_]; rfl) ?_ ?_)
 ·first | trivial | simp
 refine .ret ⟨.inr rfl, ?_⟩
 exact Out.plain (by simp only [Tryz.results20]; rfl) (by simp only [ba_, bs_, go_sem, seval, aa_, bm_] <;> (split <;> rfl)) (by simp only [bq_, go_sem, seval, aa_, bm_] <;> (rfl)) (by simp only [go_sem, seval, aa_, bm_])
def ht_ (a b : Sl) : Bool := a.kind == b.kind && a.name == b.name && a.type == b.type && same a.expr b.expr && same a.thn b.thn
theorem o6_ (a : Sl) : ht_ a a = true := by simp [ht_, xw_]
theorem sx_ (a b : Sl) (ha : fg_ a = true) (hb : fg_ b = true) : ACall En 23 [.ag (sC a), .ag (sC b)] [] [.b (ht_ a b)] [] := by
 obtain ⟨a1, a1', a2, a3⟩ := d9_ ha
 obtain ⟨b1, b1', b2, b3⟩ := d9_ hb
 refine an_ (fn := Tryz.f23) [] Tryz.func23 rfl rfl (by simp) fun C => ?_
 rw [bb_]
 simp only [Tryz.ntmps23, T7_, List.length_nil, Nat.reduceAdd, Nat.reduceSub, List.replicate_succ, List.replicate_zero, List.cons_append, List.nil_append, bu_]
 refine .seq (.rgn [] (by simp only [go_sem, seval, aa_]; rfl) ?_ ?_)
 ·first | trivial | simp
 refine .seq (.seq (.rgn [] (by simp only [go_sem, seval, aa_]; rfl) ?_ ?_))
 ·first | trivial | simp
 refine .condB (by simp only [go_sem, seval, aa_]; rfl) (by simp only [go_sem, seval, aa_]) (fun h9 => ?_) (fun h9 => ?_)
 ·refine .seq (.rgn [] (by simp only [go_sem, seval, aa_]; rfl) ?_ ?_)
  ·first | trivial | simp
  refine .ret ⟨.inr rfl, ?_⟩
  exact Out.plain (by simp only [Tryz.results23]; rfl) (by simp only [ba_, bs_, go_sem, seval, aa_] <;> (split <;> rfl)) (by simp only [bq_, go_sem, seval, aa_] <;> (simp at h9; simp [ht_, h9])) (by simp only [go_sem, seval, aa_])
 ·refine .skip (.seq (.seq (.rgn [] (by simp only [go_sem, seval, aa_]; rfl) ?_ ?_)))
  ·first | trivial | simp
  refine .condB (by simp only [go_sem, seval, aa_]; rfl) (by simp only [go_sem, seval, aa_]) (fun h14 => ?_) (fun h14 => ?_)
  ·refine .seq (.rgn [] (by simp only [go_sem, seval, aa_]; rfl) ?_ ?_)
   ·first | trivial | simp
   refine .ret ⟨.inr rfl, ?_⟩
   exact Out.plain (by simp only [Tryz.results23]; rfl) (by simp only [ba_, bs_, go_sem, seval, aa_] <;> (split <;> rfl)) (by simp only [bq_, go_sem, seval, aa_] <;> (simp at h9 h14; simp [ht_, h14])) (by simp only [go_sem, seval, aa_])
  ·refine .skip (.seq (.seq (.rgn [] (by simp only [go_sem, seval, aa_]; rfl) ?_ ?_)))
   ·first | trivial | simp
   refine .condB (by simp only [go_sem, seval, aa_]; rfl) (by simp only [go_sem, seval, aa_]) (fun h19 => ?_) (fun h19 => ?_)
   ·refine .seq (.rgn [] (by simp only [go_sem, seval, aa_]; rfl) ?_ ?_)
    ·first | trivial | simp
    refine .ret ⟨.inr rfl, ?_⟩
    exact Out.plain (by simp only [Tryz.results23]; rfl) (by simp only [ba_, bs_, go_sem, seval, aa_] <;> (split <;> rfl)) (by simp only [bq_, go_sem, seval, aa_] <;> (simp at h9 h14 h19; simp [ht_, h19])) (by simp only [go_sem, seval, aa_])
   ·refine .skip (.seq (.seq (.rgn [br_ (ku_ a.expr a2 b.expr b2)] (by simp only [go_sem, seval, aa_]; rfl) ?_ ?_)))
    ·first | trivial | simp
    refine .condB (by simp only [go_sem, seval, aa_]; rfl) (by simp only [go_sem, seval, aa_]) (fun h25 => ?_) (fun h25 => ?_)
    ·refine .seq (.rgn [] (by simp only [go_sem, seval, aa_]; rfl) ?_ ?_)
     ·first | trivial | simp
     refine .ret ⟨.inr rfl, ?_⟩
     exact Out.plain (by simp only [Tryz.results23]; rfl) (by simp only [ba_, bs_, go_sem, seval, aa_] <;> (split <;> rfl)) (by simp only [bq_, go_sem, seval, aa_] <;> (simp at h9 h14 h19 h25; simp [ht_, h25])) (by simp only [go_sem, seval, aa_])
    ·refine .skip (.seq (.seq (.rgn [br_ (ku_ a.thn a3 b.thn b3)] (by simp only [go_sem, seval, aa_]; rfl) ?_ ?_)))
     ·first | trivial | simp
     refine .condB (by simp only [go_sem, seval, aa_]; rfl) (by simp only [go_sem, seval, aa_]) (fun h31 => ?_) (fun h31 => ?_)
     ·refine .seq (.rgn [] (by simp only [go_sem, seval, aa_]; rfl) ?_ ?_)
      ·first | trivial | simp
      refine .ret ⟨.inr rfl, ?_⟩
      exact Out.plain (by simp only [Tryz.results23]; rfl) (by simp only [ba_, bs_, go_sem, seval, aa_] <;> (split <;> rfl)) (by simp only [bq_, go_sem, seval, aa_] <;> (simp at h9 h14 h19 h25 h31; simp [ht_, h31])) (by simp only [go_sem, seval, aa_])
     ·refine .skip (.seq (.rgn [] (by simp only [go_sem, seval, aa_]; rfl) ?_ ?_))
      ·first | trivial | simp
      refine .ret ⟨.inr rfl, ?_⟩
      exact Out.plain (by simp only [Tryz.results23]; rfl) (by simp only [ba_, bs_, go_sem, seval, aa_] <;> (split <;> rfl)) (by simp only [bq_, go_sem, seval, aa_] <;> (simp at h9 h14 h19 h25 h31; simp [ht_, h9, h14, h19, h25, h31])) (by simp only [go_sem, seval, aa_])
/-! lists -/
def mx_ : List Sl → Int → Int
 | [], l => l
 | s :: r, l => if szS s l < 0 then -1 else mx_ r (szS s l)
def pf_ (l : List Sl) (q : Int) : Int := if q - l.length < 0 then -1 else mx_ l (q - l.length)
theorem w9_ : ∀ (r : List Sl) (l : Int), -1 ≤ l → l ≤ 1048576 → 0 ≤ mx_ r l → jo_ r = true
 | [], _, _, _, _ => rfl
 | s :: r, l, h0, hl, h => by
  simp only [mx_] at h
  have h1 := abt_ s l h0
  split at h
  ·omega
  ·have h2 := zb_ hl h0 (show 0 ≤ szS s l by omega)
   have h3 := w9_ r (szS s l) (by omega) (by omega) h
   simp only [jo_, List.all_cons, h2, Bool.true_and]; exact h3
theorem aec_ {l : List Sl} (h : 0 ≤ pf_ l 1048576) : jo_ l = true ∧ l.length ≤ 1048576 := by
 unfold pf_ at h
 split at h
 ·omega
 ·exact ⟨w9_ l _ (by omega) (by omega) h, by omega⟩
theorem p2_ {l : List Sl} {k : Nat} (h : k < l.length) (q : Int) : mx_ (l.drop k) q = if szS (l.getD k S0) q < 0 then -1 else mx_ (l.drop (k + 1)) (szS (l.getD k S0) q) := by
 rw [List.drop_eq_getElem_cons h, T8_, T6_ h]; simp only [mx_, Option.getD_some]
theorem xn_ (l : List Sl) (hb : ∀ s ∈ l, bdS s = true) (hl : l.length ≤ 9223372036854775807) (q : Int) (h1 : 0 ≤ q) (h2 : q ≤ 1048576) : ACall En 33 [.sl false (sR l), .i .i64 q] [] [.i .i64 (pf_ l q)] [] := by
 have hw : IntKind.i64.wrap (q - l.length) = q - l.length := bv_ (by omega) (by omega)
 refine an_ (fn := Tryz.f33) [] Tryz.func33 rfl rfl (by simp) fun C => ?_
 rw [bb_]
 simp only [Tryz.ntmps33, T7_, List.length_nil, Nat.reduceAdd, Nat.reduceSub, List.replicate_succ, List.replicate_zero, List.cons_append, List.nil_append, bu_]
 refine .seq (.rgn [] (by simp only [go_sem, seval, hw, aq_, am_, aa_]; rfl) ?_ ?_)
 ·first | trivial | simp
 refine .seq (.rgn [] (by simp only [go_sem, seval, hw, aq_, am_, aa_]; rfl) ?_ ?_)
 ·first | trivial | simp
 refine .seq (.seq (.rgn [] (by simp only [go_sem, seval, hw, aq_, am_, aa_]; rfl) ?_ ?_))
 ·first | trivial | simp
 refine .condB (by simp only [go_sem, seval, hw, aq_, am_, aa_]; rfl) (by simp only [go_sem, seval, hw, aq_, am_, aa_]) (fun h11 => ?_) (fun h11 => ?_)
 ·refine .seq (.rgn [] (by simp only [go_sem, seval, hw, aq_, am_, aa_]; rfl) ?_ ?_)
  ·first | trivial | simp
  refine .ret ⟨.inr rfl, ?_⟩
  exact Out.plain (by simp only [Tryz.results33]; rfl) (by simp only [ba_, bs_, go_sem, seval, hw, aq_, am_, aa_] <;> (split <;> rfl)) (by simp only [bq_, go_sem, seval, hw, aq_, am_, aa_] <;> (simp at h11; simp [pf_, h11])) (by simp only [go_sem, seval, hw, aq_, am_, aa_])
 ·refine .skip (.seq (.seq (.rgn [] (by simp only [go_sem, seval, hw, aq_, am_, aa_]; rfl) ?_ ?_)))
  ·first | trivial | simp
  refine .block (.loopK (fun k : Nat × Int => ⟨[.sl false (sR l), .i .i64 k.2, .no, .no, .no, .i .i64 k.1, .no, .no, .no, .no, .no, .no, .no, .no, .no, .no, .no, .no, .no, .no, .no, .no, .no, .no, .no, .no, .no], bf_ [], us []⟩) (fun k : Nat × Int => k.1 ≤ l.length ∧ 0 ≤ k.2 ∧ k.2 ≤ 1048576 ∧ pf_ l q = mx_ (l.drop k.1) k.2) (fun k : Nat × Int => l.length - k.1) ((0, q - l.length)) ?_ ?_ (fun k hI => ?_))
  ·simp at h11; simp [pf_, show ¬ (q - (l.length : Int) < 0) by omega]; omega
  ·exact Can.weak (Weak.lit (by simp only [go_sem, seval, hw, aq_, am_, aa_, a2_, leV, az_, ay_, V.inn, us, T9_, Ta_] <;> (simp)) (by simp only [go_sem, seval, hw, aq_, am_, aa_, a2_, leV, az_, ay_, V.inn, us, T9_, Ta_]) (by simp only [go_sem, seval, hw, aq_, am_, aa_, a2_, leV, az_, ay_, V.inn, us, T9_, Ta_]))
  refine .seq (.seq (.rgn [] (by simp only [go_sem, seval, hw, aq_, am_, aa_]; rfl) ?_ ?_))
  ·first | trivial | simp
  refine .condB (by simp only [go_sem, seval, hw, aq_, am_, aa_]; rfl) (by simp only [go_sem, seval, hw, aq_, am_, aa_]) (fun h15 => ?_) (fun h15 => ?_)
  ·refine .skip (.seq (.block (.seq (.rgn [dw_ (k.1 < l.length ∧ 0 ≤ k.2 ∧ k.2 ≤ 1048576) (fun h => tl_ (l.getD k.1 S0) (hb _ (b2_ h.1)) k.2 h.2.1 h.2.2)] (by simp only [go_sem, seval, hw, aq_, am_, aa_, g9_ (show k.1 < l.length by simpa using h15)]; rfl) ?_ ?_))))
   ·simp only [T3_] at h15; simp; omega
   refine .seq (.rgn [] (by simp only [go_sem, seval, hw, aq_, am_, aa_]; rfl) ?_ ?_)
   ·first | trivial | simp
   refine .condB (by simp only [go_sem, seval, hw, aq_, am_, aa_]; rfl) (by simp only [go_sem, seval, hw, aq_, am_, aa_]) (fun h25 => ?_) (fun h25 => ?_)
   ·refine .seq (.rgn [] (by simp only [go_sem, seval, hw, aq_, am_, aa_]; rfl) ?_ ?_)
    ·first | trivial | simp
    refine .ret ⟨.inr rfl, ?_⟩
    exact Out.plain (by simp only [Tryz.results33]; rfl) (by simp only [ba_, bs_, go_sem, seval, hw, aq_, am_, aa_] <;> (split <;> rfl)) (by simp only [bq_, go_sem, seval, hw, aq_, am_, aa_] <;> (simp at h15; simp only [T3_] at h25; have e1 := p2_ h15 k.2; rw [if_pos h25] at e1; rw [hI.2.2.2, e1])) (by simp only [go_sem, seval, hw, aq_, am_, aa_])
   ·refine .skip (.rgn [] (by simp only [go_sem, seval, hw, aq_, am_, aa_]; rfl) ?_ ?_)
    ·first | trivial | simp
    refine Exists.intro ((k.1 + 1, szS (l.getD k.1 S0) k.2)) ⟨?_, ?_, ?_⟩
    ·simp at h15; simp only [T4_] at h25; have e1 := p2_ h15 k.2; have e2 := abt_ (l.getD k.1 S0) k.2 (by omega); rw [if_neg (by omega)] at e1; exact ⟨by dsimp only; omega, by dsimp only; omega, by dsimp only; omega, by rw [hI.2.2.2, e1]⟩
    ·simp at h15; simp; omega
    exact Can.weak (Weak.lit (by simp only [go_sem, seval, hw, aq_, am_, aa_, a2_, leV, az_, ay_, V.inn, us, T9_, Ta_] <;> (rw [bv_ (by simp at h15; omega) (by simp at h15; omega)]; simp)) (by simp only [go_sem, seval, hw, aq_, am_, aa_, a2_, leV, az_, ay_, V.inn, us, T9_, Ta_]) (by simp only [go_sem, seval, hw, aq_, am_, aa_, a2_, leV, az_, ay_, V.inn, us, T9_, Ta_]))
  ·refine .exit (.seq (.rgn [] (by simp only [go_sem, seval, hw, aq_, am_, aa_]; rfl) ?_ ?_))
   ·first | trivial | simp
   refine .ret ⟨.inr rfl, ?_⟩
   exact Out.plain (by simp only [Tryz.results33]; rfl) (by simp only [ba_, bs_, go_sem, seval, hw, aq_, am_, aa_] <;> (split <;> rfl)) (by simp only [bq_, go_sem, seval, hw, aq_, am_, aa_] <;> (simp at h15; rw [hI.2.2.2, List.drop_of_length_le h15]; rfl)) (by simp only [go_sem, seval, hw, aq_, am_, aa_])
def z11 : List V := [.i .i64 0, .s [], .s [], .i .i64 0, .i .i64 0, .s [], .sl true [], .i .i64 0, .i .i64 0, .s [], .sl true []]
theorem ex_ (l : List Sl) (k j : Nat) : ((de_ (sR l) z11 k).getD j []).drop 11 = [] := by
 rw [T8_]
 cases h : (de_ (sR l) z11 k)[j]? with
 | none => rfl
 | some r =>
  have hm := List.mem_of_getElem? h
  have : r.length = 11 := by
   rcases hp_ hm with hm | rfl
   ·obtain ⟨s, _, rfl⟩ := List.mem_map.1 hm; exact agk_ s
   ·rfl
  simp only [Option.getD_some]; exact List.drop_of_length_le (by omega)
theorem lm_ (l : List Sl) (hs : jo_ l = true) (hl : l.length ≤ 1048576) : ACall En 35 [.sl false (sR l)] [] [.sl false (sR l)] [] := by
 have hp : ∀ k, cz_ (de_ (sR l) z11 k) = true := fun k => hu_ (am_ _) rfl
 refine an_ (fn := Tryz.f35) [] Tryz.func35 rfl rfl (by simp) fun C => ?_
 rw [bb_]
 simp only [Tryz.ntmps35, T7_, List.length_nil, Nat.reduceAdd, Nat.reduceSub, List.replicate_succ, List.replicate_zero, List.cons_append, List.nil_append, bu_]
 refine .seq (.rgn [] (by simp only [go_sem, seval, hp, ex_, au_, aq_, aa_, am_]; rfl) ?_ ?_)
 ·first | trivial | simp
 refine .seq (.rgn [] (by simp only [go_sem, seval, hp, ex_, au_, aq_, aa_, am_]; rfl) ?_ ?_)
 ·simp; omega
 refine .seq (.seq (.rgn [] (by simp only [go_sem, seval, hp, ex_, au_, aq_, aa_, am_]; rfl) ?_ ?_))
 ·first | trivial | simp
 refine .block (.loopK (fun k : Nat => ⟨[.sl false (sR l), .no, .no, .ow 17 11 0 l.length, .i .i64 k, .no, .no, .no, .no, .no, .no, .no, .no, .no, .no, .no, .no, .no, .no, .no, .no, .no, .no], bf_ [(17, ⟨35, 11, de_ (sR l) z11 k⟩)], us [17]⟩) (fun k : Nat => k ≤ l.length) (fun k : Nat => l.length - k) (0) ?_ ?_ (fun k hI => ?_))
 ·simp
 ·exact Can.weak (Weak.lit (by simp only [go_sem, seval, hp, ex_, au_, aq_, aa_, am_, a2_, leV, az_, ay_, V.inn, us, T9_, Ta_] <;> (simp)) (by simp only [go_sem, seval, hp, ex_, au_, aq_, aa_, am_, a2_, leV, az_, ay_, V.inn, us, T9_, Ta_]) (by simp only [go_sem, seval, hp, ex_, au_, aq_, aa_, am_, a2_, leV, az_, ay_, V.inn, us, T9_, Ta_] <;> (simp [gx_, z11, aq_])))
 refine .seq (.seq (.rgn [] (by simp only [go_sem, seval, hp, ex_, au_, aq_, aa_, am_]; rfl) ?_ ?_))
 ·first | trivial | simp
 refine .condB (by simp only [go_sem, seval, hp, ex_, au_, aq_, aa_, am_]; rfl) (by simp only [go_sem, seval, hp, ex_, au_, aq_, aa_, am_]) (fun h11 => ?_) (fun h11 => ?_)
 ·refine .skip (.seq (.block (.rgn [dw_ (k < l.length) (fun h => kb_ (l.getD k S0) (gp_ hs h))] (by simp only [go_sem, seval, hp, ex_, au_, aq_, aa_, am_, g9_ (show k < l.length by simpa using h11)]; rfl) ?_ ?_)))
  ·simp only [T3_] at h11; simp; omega
  refine .rgn [] (by simp only [go_sem, seval, hp, ex_, au_, aq_, aa_, am_]; rfl) ?_ ?_
  ·first | trivial | simp
  refine Exists.intro (k + 1) ⟨?_, ?_, ?_⟩
  ·simp at h11; omega
  ·simp at h11; omega
  exact Can.weak (Weak.lit (by simp only [go_sem, seval, hp, ex_, au_, aq_, aa_, am_, a2_, leV, az_, ay_, V.inn, us, T9_, Ta_] <;> (rw [bv_ (by simp at h11; omega) (by simp at h11; omega)]; simp)) (by simp only [go_sem, seval, hp, ex_, au_, aq_, aa_, am_, a2_, leV, az_, ay_, V.inn, us, T9_, Ta_]) (by simp only [go_sem, seval, hp, ex_, au_, aq_, aa_, am_, a2_, leV, az_, ay_, V.inn, us, T9_, Ta_] <;> (rw [← g8_ (by rw [aq_]; simpa using h11), g9_ (by simpa using h11), aa_])))
 ·refine .exit (.seq (.rgn [] (by simp only [go_sem, seval, hp, ex_, au_, aq_, aa_, am_]; rfl) ?_ ?_))
  ·first | trivial | simp
  refine .frz 17 (by simp only [go_sem, seval, hp, ex_, au_, aq_, aa_, am_]; rfl) (by simp only [go_sem, seval, hp, ex_, au_, aq_, aa_, am_]) (by simp only [go_sem, seval, hp, ex_, au_, aq_, aa_, am_]; rfl) (by simp only [go_sem, seval, hp, ex_, au_, aq_, aa_, am_]; rfl) ?_
  refine .ret ⟨.inr rfl, ?_⟩
  exact Out.plain (by simp only [Tryz.results35]; rfl) (by simp only [ba_, bs_, go_sem, seval, hp, ex_, au_, aq_, aa_, am_] <;> (split <;> rfl)) (by simp only [bq_, go_sem, seval, hp, ex_, au_, aq_, aa_, am_] <;> (simp at h11; rw [g1_ (by simpa [aq_] using h11)]; simp [T1_, peel, aq_])) (by simp only [go_sem, seval, hp, ex_, au_, aq_, aa_, am_])
def le_ (a b : List Sl) : Bool := decide (a.length = b.length) && (a.zip b).all fun q => ht_ q.1 q.2
theorem uh_ (a : List Sl) : le_ a a = true := by
 simp only [le_, decide_true, Bool.true_and, List.all_eq_true]
 intro q hq
 obtain ⟨j, hj⟩ := List.mem_iff_getElem?.1 hq
 rw [List.getElem?_zip_eq_some] at hj
 have : q.1 = q.2 := by rw [hj.1] at hj; exact Option.some.inj hj.2
 rw [this]; exact o6_ _
theorem yg_ {a b : List Sl} {k : Nat} (f : Sl × Sl → Bool) (ha : k < a.length) (hb : k < b.length) : ((a.zip b).take (k + 1)).all f = (((a.zip b).take k).all f && f (a.getD k S0, b.getD k S0)) := by
 have h : k < (a.zip b).length := by rw [List.length_zip]; omega
 rw [List.take_add_one, T6_ h, List.all_append]
 simp [T8_, T6_ ha, T6_ hb]
theorem ach_ {a b : List Sl} {k : Nat} (f : Sl × Sl → Bool) (ha : k < a.length) (hb : k < b.length) (h : f (a.getD k S0, b.getD k S0) = false) : (a.zip b).all f = false := by
 rw [List.all_eq_false]
 refine ⟨(a.getD k S0, b.getD k S0), ?_, by rw [h]; simp⟩
 refine List.mem_iff_getElem?.2 ⟨k, ?_⟩
 rw [List.getElem?_zip_eq_some]
 simp [T8_, T6_ ha, T6_ hb]
theorem yq_ (a b : List Sl) (ha : jo_ a = true) (hb : jo_ b = true) (la : a.length ≤ 1048576) (lb : b.length ≤ 1048576) : ACall En 38 [.sl false (sR a), .sl false (sR b)] [] [.b (le_ a b)] [] := by
 refine an_ (fn := Tryz.f38) [] Tryz.func38 rfl rfl (by simp) fun C => ?_
 rw [bb_]
 simp only [Tryz.ntmps38, T7_, List.length_nil, Nat.reduceAdd, Nat.reduceSub, List.replicate_succ, List.replicate_zero, List.cons_append, List.nil_append, bu_]
 refine .seq (.rgn [] (by simp only [go_sem, seval, aq_, am_, aa_]; rfl) ?_ ?_)
 ·first | trivial | simp
 refine .seq (.seq (.rgn [] (by simp only [go_sem, seval, aq_, am_, aa_]; rfl) ?_ ?_))
 ·first | trivial | simp
 refine .condB (by simp only [go_sem, seval, aq_, am_, aa_]; rfl) (by simp only [go_sem, seval, aq_, am_, aa_]) (fun h10 => ?_) (fun h10 => ?_)
 ·refine .seq (.rgn [] (by simp only [go_sem, seval, aq_, am_, aa_]; rfl) ?_ ?_)
  ·first | trivial | simp
  refine .ret ⟨.inr rfl, ?_⟩
  exact Out.plain (by simp only [Tryz.results38]; rfl) (by simp only [ba_, bs_, go_sem, seval, aq_, am_, aa_] <;> (split <;> rfl)) (by simp only [bq_, go_sem, seval, aq_, am_, aa_] <;> (simp at h10; have h : ¬ a.length = b.length := (by omega); simp [le_, h])) (by simp only [go_sem, seval, aq_, am_, aa_])
 ·refine .skip (.seq (.seq (.rgn [] (by simp only [go_sem, seval, aq_, am_, aa_]; rfl) ?_ ?_)))
  ·first | trivial | simp
  refine .block (.loopK (fun k : Nat => ⟨[.sl false (sR a), .sl false (sR b), .no, .no, .no, .i .i64 k, .no, .no, .no, .no, .no, .no, .no, .no, .no, .no, .no, .no, .no, .no, .no, .no, .no, .no, .no, .no, .no], bf_ [], us []⟩) (fun k : Nat => k ≤ a.length ∧ ((a.zip b).take k).all (fun q => ht_ q.1 q.2) = true) (fun k : Nat => a.length - k) (0) ?_ ?_ (fun k hI => ?_))
  ·simp
  ·exact Can.weak (Weak.lit (by simp only [go_sem, seval, aq_, am_, aa_, a2_, leV, az_, ay_, V.inn, us, T9_, Ta_] <;> (simp)) (by simp only [go_sem, seval, aq_, am_, aa_, a2_, leV, az_, ay_, V.inn, us, T9_, Ta_]) (by simp only [go_sem, seval, aq_, am_, aa_, a2_, leV, az_, ay_, V.inn, us, T9_, Ta_]))
  refine .seq (.seq (.rgn [] (by simp only [go_sem, seval, aq_, am_, aa_]; rfl) ?_ ?_))
  ·first | trivial | simp
  refine .condB (by simp only [go_sem, seval, aq_, am_, aa_]; rfl) (by simp only [go_sem, seval, aq_, am_, aa_]) (fun h14 => ?_) (fun h14 => ?_)
  ·refine .skip (.seq (.block (.seq (.rgnD [dw_ (k < a.length ∧ k < b.length) (fun h => sx_ (a.getD k S0) (b.getD k S0) (gp_ ha h.1) (gp_ hb h.2))] enM (by simp only [go_sem, seval, aq_, am_, aa_, g9_ (show k < a.length by simpa using h14), g9_ (show k < b.length by simp at h14 h10; omega)]; rfl) (by rfl) ?_ ?_))))
   ·simp at h14 h10; simp; omega
   refine .condB (by simp only [go_sem, seval, aq_, am_, aa_]; rfl) (by simp only [go_sem, seval, aq_, am_, aa_]) (fun h26 => ?_) (fun h26 => ?_)
   ·refine .seq (.rgn [] (by simp only [go_sem, seval, aq_, am_, aa_]; rfl) ?_ ?_)
    ·first | trivial | simp
    refine .ret ⟨.inr rfl, ?_⟩
    exact Out.plain (by simp only [Tryz.results38]; rfl) (by simp only [ba_, bs_, go_sem, seval, aq_, am_, aa_] <;> (split <;> rfl)) (by simp only [bq_, go_sem, seval, aq_, am_, aa_] <;> (simp at h14 h10; simp only [Bool.not_eq_true'] at h26; have := ach_ (fun q => ht_ q.1 q.2) h14 (show k < b.length by omega) h26; simp [le_, this])) (by simp only [go_sem, seval, aq_, am_, aa_])
   ·refine .skip (.rgn [] (by simp only [go_sem, seval, aq_, am_, aa_]; rfl) ?_ ?_)
    ·first | trivial | simp
    refine Exists.intro (k + 1) ⟨?_, ?_, ?_⟩
    ·simp at h14 h10; have hb := yg_ (fun q => ht_ q.1 q.2) h14 (show k < b.length by omega); simp only [Bool.not_eq_false'] at h26; exact ⟨by omega, by rw [hb, hI.2, h26]; rfl⟩
    ·simp at h14; omega
    exact Can.weak (Weak.lit (by simp only [go_sem, seval, aq_, am_, aa_, a2_, leV, az_, ay_, V.inn, us, T9_, Ta_] <;> (rw [bv_ (by simp at h14; omega) (by simp at h14; omega)]; simp)) (by simp only [go_sem, seval, aq_, am_, aa_, a2_, leV, az_, ay_, V.inn, us, T9_, Ta_]) (by simp only [go_sem, seval, aq_, am_, aa_, a2_, leV, az_, ay_, V.inn, us, T9_, Ta_]))
  ·refine .exit (.seq (.rgn [] (by simp only [go_sem, seval, aq_, am_, aa_]; rfl) ?_ ?_))
   ·first | trivial | simp
   refine .ret ⟨.inr rfl, ?_⟩
   exact Out.plain (by simp only [Tryz.results38]; rfl) (by simp only [ba_, bs_, go_sem, seval, aq_, am_, aa_] <;> (split <;> rfl)) (by simp only [bq_, go_sem, seval, aq_, am_, aa_] <;> (simp at h14 h10; have h0 := hI.2; rw [T1_ (by rw [List.length_zip]; omega)] at h0; have h : a.length = b.length := (by omega); simp [le_, h, h0])) (by simp only [go_sem, seval, aq_, am_, aa_])
end
section
open Go.ChangeShapes Go.WideShapes Go.ChangeAt Go.RowKit
set_option maxRecDepth 100000
section
variable {H : Type} {enc : TypeId × Value → H} {W : World}
theorem wi_ : Tryz.prog.cellsOf 46 = 11 := by kernel_rfl
theorem aei_ (s : Sl) : (sC s).all V.one = true := by rw [aa_]; rfl
theorem uc_ : ∀ fuel, Opn enc Tryz.prog W fuel 46 fun vs => ∃ s, vs = sC s ∧ bdS s = true := by
 intro fuel cs x h
 obtain ⟨hl, _, ⟨k, rfl, _⟩, u0, o0⟩ := ev_ Tryz.underlying46 h (i := 0) rfl rfl n1_ fun n _ => r0_ Tryz.underlying3
 obtain ⟨_, _, ⟨s, rfl, hs⟩, u1, o1⟩ := ev_ Tryz.underlying46 h (i := 1) rfl rfl np_ fun n _ => rl_ Tryz.underlying9
 obtain ⟨_, _, ⟨t, rfl, ht⟩, u2, o2⟩ := ev_ Tryz.underlying46 h (i := 2) rfl rfl np_ fun n _ => rl_ Tryz.underlying9
 obtain ⟨_, _, ⟨e1, rfl, b1⟩, u3, o3⟩ := ev_ Tryz.underlying46 h (i := 3) rfl rfl ne_ fun n _ => sb_ n
 obtain ⟨_, _, ⟨e2, rfl, b2⟩, u4, o4⟩ := ev_ Tryz.underlying46 h (i := 4) rfl rfl ne_ fun n _ => sb_ n
 rw [wi_] at hl
 have hm : maxLen = 9223372036854775807 := by decide
 refine ⟨_, ⟨⟨k, s, t, e1, e2⟩, rfl, by simp only [bdS, b1, b2, Bool.and_true, T5_, T3_]; omega⟩, ?_, aei_ _⟩
 have := f1_ u0 rfl (f1_ u1 rfl (f1_ u2 rfl (f1_ u3 rfl (t3_ u4 hl))))
 simpa [sC] using this
theorem zp_ {r : Reach} {base : Nat} {v0 : Value} {d0 : DataW H} {p : List MemPlace} (hv : Value.okWide Tryz.prog W r base 46 v0) (h0 : DataW.Trod enc Tryz.prog W 0 (fun _ => true) true 46 v0 d0 p) :
  ∃ s : Sl, bdS s = true ∧ VR (fun _ => none) (fun _ => True) W (.ag (sC s)) v0 := by
 obtain ⟨fuel, h⟩ := h0
 obtain ⟨_, ⟨s, rfl, hs⟩, hr, _⟩ := uc_ fuel _ _ h
 obtain ⟨xs, rfl, _⟩ := okWide_struct Tryz.underlying46 hv
 refine ⟨s, hs, ?_⟩
 simp only [VR]
 exact ⟨xs, rfl, by simpa [Value.cells] using hr⟩
theorem y3_ {r : Reach} {base : Nat} {v0 : Value} {d0 : DataW H} {p : List MemPlace} (hv : Value.okWide Tryz.prog W r base 64 v0) (h0 : DataW.Trod enc Tryz.prog W 0 (fun _ => true) true 64 v0 d0 p) :
  ∃ l : List Sl, ((∀ s ∈ l, bdS s = true) ∧ l.length ≤ 9223372036854775807) ∧ VR (fun _ => none) (fun _ => True) W (.sl false (sR l)) v0 := by
 obtain ⟨a0, len, cap, rfl⟩ := okWide_slice Tryz.underlying64 hv
 obtain ⟨fuel, h⟩ := h0
 obtain ⟨_, ⟨l, rfl, hlen, hg⟩, hr, _⟩ := ps_ sC (fun s => bdS s = true) Tryz.underlying64 wi_ (by decide) (fun n _ => uc_ n) _ _ h
 have hm : maxLen = 9223372036854775807 := by decide
 refine ⟨l, ⟨hg, by omega⟩, ?_⟩
 simp only [VRs] at hr
 obtain ⟨x, q, e1, hx, rfl⟩ := hr
 simp [Value.cells] at e1
 rw [e1]; exact hx
end
end
end Go.Proofs.YtcigkafioinfoaaGreatDoor
