/- The law FnPage: what it answers. Conditions: none. -/
import Derived.Test.YtpikbndepapbhabGreatDoorK11
set_option linter.unusedVariables false
set_option linter.unusedSimpArgs false
namespace Go.Proofs.YtpikbndepapbhabGreatDoor
set_option maxRecDepth 100000
set_option maxHeartbeats 8000000
theorem ca_ (p : Pg) : pgR [p] = [pgC p] := rfl
theorem ad9_ (s : Str) : (fx_ s).frm.length ≤ 1000000 := by
 unfold fx_
 split
 ·cases h : ck_ s with
  | none => simp
  | some x => have := emFL (h8_.1 h).1; dsimp only; omega
 ·simp [Pg0]
theorem zv_ {s : Sl} (h : sok s = true) : btxt (mx_ s) = emT s := by
 unfold mx_ emT btxt
 rw [if_pos h, if_pos h, if_pos (xy_ h)]
theorem aab_ {s : Sl} (hs : d0_ s = true) : smb (mx_ s) = true := by
 unfold mx_; split
 ·exact yc_ hs
 ·exact ajy_
theorem zj_ (c : Str) : ACall En 7 [.sl false (byR c)] [] [.b true] [] := by
 have DA := sh_ c
 have l1 := afx_ (c.take 2000)
 generalize dPg (c.take 2000) = s at *
 have PI := l8_ s (by omega)
 have PS := l9_ s (by omega)
 have W := ab3_ [fx_ s] [fx_ s] (by simp) (by simp) (fun p hp => by simp at hp; subst hp; exact Nat.le_trans (ad9_ s) (by decide))
 have X1 := kf_ s
 have X2 := @lf_ s
 have P1 := @n5_ s
 have P2 := @i1_ s
 have P3 := @ln_ s
 have X3 := @aa1_ s
 have R := is_ s (by omega)
 have B1 := @zv_ ((ck_ s).getD S0)
 rw [ca_] at W
 generalize (ck_ s).getD S0 = x at *
 generalize (ck_ s).isSome = ok at *
 generalize fx_ s = p at *
 refine ak_ (fn := Tryz.f7) [] Tryz.func7 rfl rfl (by simp) fun C => ?_
 rw [aw_]
 simp only [Tryz.ntmps7, T7_, List.length_nil, Nat.reduceAdd, Nat.reduceSub, List.replicate_succ, List.replicate_zero, List.cons_append, List.nil_append, bk_]
 refine .seq (.rgn [] (by simp only [go_sem, seval, ai_, a4_, ab_, ad_, ag_, ca_]; rfl) ?_ ?_)
 ·(first | trivial | (simp; done) | exact fun h => ⟨h, fun h2 => by rw [h, h2]; rfl⟩)
 refine .seq (.seq (.rgn [] (by simp only [go_sem, seval, ai_, a4_, ab_, ad_, ag_, ca_]; rfl) ?_ ?_))
 ·(first | trivial | (simp; done) | exact fun h => ⟨h, fun h2 => by rw [h, h2]; rfl⟩)
 refine .condB (by simp only [go_sem, seval, ai_, a4_, ab_, ad_, ag_, ca_]; rfl) (by simp only [go_sem, seval, ai_, a4_, ab_, ad_, ag_, ca_]) (fun h12 => ?_) (fun h12 => ?_)
 ·refine .seq (.rgn [] (by simp only [go_sem, seval, ai_, a4_, ab_, ad_, ag_, ca_]; rfl) ?_ ?_)
  ·(first | trivial | (simp; done) | exact fun h => ⟨h, fun h2 => by rw [h, h2]; rfl⟩)
  refine .ret ⟨.inr rfl, ?_⟩
  exact Out.plain (by simp only [Tryz.results7]; rfl) (by simp only [av_, a5_, go_sem, seval, ai_, a4_, ab_, ad_, ag_, ca_] <;> (split <;> rfl)) (by simp only [a2_, go_sem, seval, ai_, a4_, ab_, ad_, ag_, ca_] <;> (rfl)) (by simp only [go_sem, seval, ai_, a4_, ab_, ad_, ag_, ca_])
 ·refine .skip (.seq (.rgn [a3_ DA] (by simp only [go_sem, seval, ai_, a4_, ab_, ad_, ag_, ca_]; rfl) ?_ ?_))
  ·(first | trivial | (simp; done) | exact fun h => ⟨h, fun h2 => by rw [h, h2]; rfl⟩)
  refine .seq (.rgn [a3_ PI] (by simp only [go_sem, seval, ai_, a4_, ab_, ad_, ag_, ca_]; rfl) ?_ ?_)
  ·(first | trivial | (simp; done) | exact fun h => ⟨h, fun h2 => by rw [h, h2]; rfl⟩)
  refine .seq (.rgn [a3_ PS] (by simp only [go_sem, seval, ai_, a4_, ab_, ad_, ag_, ca_]; rfl) ?_ ?_)
  ·(first | trivial | (simp; done) | exact fun h => ⟨h, fun h2 => by rw [h, h2]; rfl⟩)
  refine .seq (.seq (.rgn [a3_ W] (by simp only [go_sem, seval, ai_, a4_, ab_, ad_, ag_, ca_]; rfl) ?_ ?_))
  ·(first | trivial | (simp; done) | exact fun h => ⟨h, fun h2 => by rw [h, h2]; rfl⟩)
  refine .condB (by simp only [go_sem, seval, ai_, a4_, ab_, ad_, ag_, ca_]; rfl) (by simp only [go_sem, seval, ai_, a4_, ab_, ad_, ag_, ca_]) (fun h24 => ?_) (fun h24 => ?_)
  ·simp at h24
  ·refine .skip (.seq (.rgn [a3_ R] (by simp only [go_sem, seval, ai_, a4_, ab_, ad_, ag_, ca_]; rfl) ?_ ?_))
   ·(first | trivial | (simp; done) | exact fun h => ⟨h, fun h2 => by rw [h, h2]; rfl⟩)
   refine .seq (.seq (.rgn [] (by simp only [go_sem, seval, ai_, a4_, ab_, ad_, ag_, ca_]; rfl) ?_ ?_))
   ·(first | trivial | (simp; done) | exact fun h => ⟨h, fun h2 => by rw [h, h2]; rfl⟩)
   refine .condB (by simp only [go_sem, seval, ai_, a4_, ab_, ad_, ag_, ca_]; rfl) (by simp only [go_sem, seval, ai_, a4_, ab_, ad_, ag_, ca_]) (fun h31 => ?_) (fun h31 => ?_)
   ·refine .seq (.rgn [] (by simp only [go_sem, seval, ai_, a4_, ab_, ad_, ag_, ca_]; rfl) ?_ ?_)
    ·(first | trivial | (simp; done) | exact fun h => ⟨h, fun h2 => by rw [h, h2]; rfl⟩)
    refine .ret ⟨.inr rfl, ?_⟩
    exact Out.plain (by simp only [Tryz.results7]; rfl) (by simp only [av_, a5_, go_sem, seval, ai_, a4_, ab_, ad_, ag_, ca_] <;> (split <;> rfl)) (by simp only [a2_, go_sem, seval, ai_, a4_, ab_, ad_, ag_, ca_] <;> (have k : ok = false := (by simpa using h31); cases hs : jo_ s with | true => (rw [P2 hs k]; simp) | false => (rw [P1 hs]; simp [Pg0]))) (by simp only [go_sem, seval, ai_, a4_, ab_, ad_, ag_, ca_])
   ·refine .skip (.seq (.rgn [a3_ (ug_ x X1)] (by simp only [go_sem, seval, ai_, a4_, ab_, ad_, ag_, ca_]; rfl) ?_ ?_))
    ·(first | trivial | (simp; done) | exact fun h => ⟨h, fun h2 => by rw [h, h2]; rfl⟩)
    refine .seq (.rgnD [a3_ (z6_ x X1), a3_ (u6_ (mx_ x) (aab_ X1))] enM (by simp only [go_sem, seval, ai_, a4_, ab_, ad_, ag_, ca_]; rfl) (by rfl) ?_ ?_)
    ·(first | trivial | (simp; done) | exact fun h => ⟨h, fun h2 => by rw [h, h2]; rfl⟩)
    refine .ret ⟨.inr rfl, ?_⟩
    exact Out.plain (by simp only [Tryz.results7]; rfl) (by simp only [av_, a5_, go_sem, seval, ai_, a4_, ab_, ad_, ag_, ca_] <;> (split <;> rfl)) (by simp only [a2_, go_sem, seval, ai_, a4_, ab_, ad_, ag_, ca_] <;> (have k : ok = true := (by simpa using h31); rw [P3 (X3 k) k, B1 (X2 k)]; simp)) (by simp only [go_sem, seval, ai_, a4_, ab_, ad_, ag_, ca_])
end Go.Proofs.YtpikbndepapbhabGreatDoor
