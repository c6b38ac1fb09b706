/- What is drawn: expressions. Conditions: none. -/
import Derived.Test.YtcigkafioinfoaaGreatDoorKh
import Derived.Test.YtcigkafioinfoaaGreatDoorKi
import Derived.Test.YtcigkafioinfoaaGreatDoorKd
set_option linter.unusedVariables false
set_option linter.unusedSimpArgs false
namespace Go.Proofs.YtcigkafioinfoaaGreatDoor
section
set_option maxRecDepth 100000
set_option maxHeartbeats 1000000
theorem E.kind_mk (k n : Int) (s : Str) (r : List E) : (E.mk k n s r).kind = k := rfl
theorem E.n_mk (k n : Int) (s : Str) (r : List E) : (E.mk k n s r).n = n := rfl
theorem E.s_mk (k n : Int) (s : Str) (r : List E) : (E.mk k n s r).s = s := rfl
theorem E.kids_mk (k n : Int) (s : Str) (r : List E) : (E.mk k n s r).kids = r := rfl
end
section
set_option maxRecDepth 100000
set_option maxHeartbeats 1000000
end
section
set_option maxRecDepth 100000
set_option maxHeartbeats 1000000
def sC (s : Sl) : List V := .i .i64 s.kind :: .s s.name :: .s s.type :: (eC s.expr ++ eC s.thn)
theorem aa_ (s : Sl) : sC s = [.i .i64 s.kind, .s s.name, .s s.type, .i .i64 s.expr.kind, .i .i64 s.expr.n, .s s.expr.s, .sl false (eR s.expr.kids), .i .i64 s.thn.kind, .i .i64 s.thn.n, .s s.thn.s, .sl false (eR s.thn.kids)] := by
 simp only [sC, bm_]; rfl
def fg_ (s : Sl) : Bool := decide (s.name.length < 4611686018427387904) && decide (s.type.length < 4611686018427387904) && sm s.expr && sm s.thn
theorem d9_ {s : Sl} (h : fg_ s = true) : s.name.length < 4611686018427387904 ∧ s.type.length < 4611686018427387904 ∧ sm s.expr = true ∧ sm s.thn = true := by
 simp only [fg_, T5_, T3_] at h; exact ⟨h.1.1.1, h.1.1.2, h.1.2, h.2⟩
theorem sl_ : E0.kind = 0 := rfl
theorem ty_ : E0.n = 0 := rfl
theorem s2_ : E0.s = [] := rfl
theorem he_ : E0.kids = [] := rfl
theorem ip_ : eR [] = [] := by simp only [eR]
theorem w5_ : wf E0 = true := by decide
theorem aik_ : sm E0 = true := by decide
theorem agy_ (s : Sl) (hs : fg_ s = true) (w1 : wf s.expr = true) (w2 : wf s.thn = true) : ACall En 109 [.ag (sC s)] [] [.ag (bC (bof s))] [] := by
 obtain ⟨s1, s2, s3, s4⟩ := d9_ hs
 refine an_ (fn := Tryz.f109) [] Tryz.func109 rfl rfl (by simp) fun C => ?_
 rw [bb_]
 simp only [Tryz.ntmps109, T7_, List.length_nil, Nat.reduceAdd, Nat.reduceSub, List.replicate_succ, List.replicate_zero, List.cons_append, List.nil_append, bu_]
 refine .seq (.rgn [] (by simp only [go_sem, seval, aa_, a3_]; rfl) ?_ ?_)
 ·first | trivial | simp
 refine .seq (.rgn [] (by simp only [go_sem, seval, aa_, a3_]; rfl) ?_ ?_)
 ·first | trivial | simp
 refine .seq (.seq (.rgn [] (by simp only [go_sem, seval, aa_, a3_]; rfl) ?_ ?_))
 ·first | trivial | simp
 refine .condB (by simp only [go_sem, seval, aa_, a3_]; rfl) (by simp only [go_sem, seval, aa_, a3_]) (fun h11 => ?_) (fun h11 => ?_)
 ·refine .rgn [br_ (op_ s.expr w1 s3)] (by simp only [go_sem, seval, aa_, a3_]; rfl) ?_ ?_
  ·first | trivial | simp
  refine .seq (.seq (.rgn [] (by simp only [go_sem, seval, aa_, a3_]; rfl) ?_ ?_))
  ·first | trivial | simp
  refine .condB (by simp only [go_sem, seval, aa_, a3_]; rfl) (by simp only [go_sem, seval, aa_, a3_]) (fun h18 => ?_) (fun h18 => ?_)
  ·refine .rgn [br_ (op_ s.thn w2 s4)] (by simp only [go_sem, seval, aa_, a3_]; rfl) ?_ ?_
   ·first | trivial | simp
   refine .seq (.rgn [] (by simp only [go_sem, seval, aa_, a3_]; rfl) ?_ ?_)
   ·first | trivial | simp
   refine .ret ⟨.inr rfl, ?_⟩
   exact Out.plainL (by simp only [Tryz.results109]; rfl) (by simp only [ba_, bs_, go_sem, seval, aa_, a3_] <;> (split <;> rfl)) (by simp only [bq_, go_sem, seval, aa_, a3_] <;> (simp at h11 h18; simp [bof, h11, h18, a3_, sl_, ty_, s2_, he_, ip_, ler, bh_])) (by simp only [go_sem, seval, aa_, a3_])
  ·refine .skip (.seq (.rgn [] (by simp only [go_sem, seval, aa_, a3_]; rfl) ?_ ?_))
   ·first | trivial | simp
   refine .ret ⟨.inr rfl, ?_⟩
   exact Out.plainL (by simp only [Tryz.results109]; rfl) (by simp only [ba_, bs_, go_sem, seval, aa_, a3_] <;> (split <;> rfl)) (by simp only [bq_, go_sem, seval, aa_, a3_] <;> (simp at h11 h18; simp [bof, h11, h18, a3_, sl_, ty_, s2_, he_, ip_, ler, bh_])) (by simp only [go_sem, seval, aa_, a3_])
 ·refine .skip (.seq (.seq (.rgn [] (by simp only [go_sem, seval, aa_, a3_]; rfl) ?_ ?_)))
  ·first | trivial | simp
  refine .condB (by simp only [go_sem, seval, aa_, a3_]; rfl) (by simp only [go_sem, seval, aa_, a3_]) (fun h18 => ?_) (fun h18 => ?_)
  ·refine .rgn [br_ (op_ s.thn w2 s4)] (by simp only [go_sem, seval, aa_, a3_]; rfl) ?_ ?_
   ·first | trivial | simp
   refine .seq (.rgn [] (by simp only [go_sem, seval, aa_, a3_]; rfl) ?_ ?_)
   ·first | trivial | simp
   refine .ret ⟨.inr rfl, ?_⟩
   exact Out.plainL (by simp only [Tryz.results109]; rfl) (by simp only [ba_, bs_, go_sem, seval, aa_, a3_] <;> (split <;> rfl)) (by simp only [bq_, go_sem, seval, aa_, a3_] <;> (simp at h11 h18; omega)) (by simp only [go_sem, seval, aa_, a3_])
  ·refine .skip (.seq (.rgn [] (by simp only [go_sem, seval, aa_, a3_]; rfl) ?_ ?_))
   ·first | trivial | simp
   refine .ret ⟨.inr rfl, ?_⟩
   exact Out.plainL (by simp only [Tryz.results109]; rfl) (by simp only [ba_, bs_, go_sem, seval, aa_, a3_] <;> (split <;> rfl)) (by simp only [bq_, go_sem, seval, aa_, a3_] <;> (simp at h11 h18; simp [bof, h11, h18, a3_, sl_, ty_, s2_, he_, ip_, ler, bh_])) (by simp only [go_sem, seval, aa_, a3_])
theorem wa_ {s : Sl} (h : fg_ s = true) : smb (bof s) = true := by
 obtain ⟨s1, s2, s3, s4⟩ := d9_ h
 unfold smb bof
 simp only [s1, decide_true, Bool.true_and]
 split <;> split <;> simp [q8_, s3, s4, aik_]
end
end Go.Proofs.YtcigkafioinfoaaGreatDoor
