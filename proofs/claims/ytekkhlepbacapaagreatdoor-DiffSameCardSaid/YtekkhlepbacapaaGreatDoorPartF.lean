/- Texts for a law, part 6: they walk the functions that the law reaches, and state what holds of them; without conditions beyond each theorem's own. -/
import Derived.Test.YtekkhlepbacapaaGreatDoorPartE
namespace Go.Proofs.Ytekkhlepbacapaa
open Go Go.Eng
set_option linter.unusedSimpArgs false
set_option linter.unusedVariables false
set_option maxRecDepth 4000
def fldI : Inl → Bool
 | .mk k t d ti a args cites kids => fF8 k t d ti a kids.length args.length cites.length
def kdI : Inl → Int
 | .mk k _ _ _ _ _ _ _ => k
def txtK : Inl → Prop
 | .mk k t _ _ _ _ _ _ => k = 1 → t ≠ [] ∧ (10 : UInt8) ∉ t
mutual
def okI1 : Inl → Prop
 | .mk k t d ti a args cites kids => fldI (.mk k t d ti a args cites kids) = true ∧ txtK (.mk k t d ti a args cites kids) ∧ okL 0 kids
def okL : Int → List Inl → Prop
 | _, [] => True
 | bf, x :: xs => okI1 x ∧ (kdI x = 1 → bf ≠ 1) ∧ okL (kdI x) xs
end
theorem okL_step {xs : List Inl} {i : Nat} {x : Inl} {bf : Int} (hg : xs[i]? = some x) (h1 : okI1 x) (h2 : kdI x = 1 → bf ≠ 1) (h : okL (kdI x) (xs.drop (i + 1))) : okL bf (xs.drop i) := by
 obtain ⟨hlt, rfl⟩ := List.getElem?_eq_some_iff.1 hg
 rw [List.drop_eq_getElem_cons hlt]
 unfold okL
 exact ⟨h1, h2, h⟩
set_option maxHeartbeats 1000000 in
theorem kone_fn (k : Int) (t d ti : Bs) (a : DAttr) (args : List Bs) (cites : List DCite) (kids : List Inl) (vc vp va vt vk : Value) (bf : Int) (f l : Bool) (u : View) (h : InlK u a args cites kids vc vp va vt vk t d ti) :
  FnP Tryz.prog 24 [.agg (inlV k t d ti a.id vc vp va vt vk).toArray, .int .i64 bf, .bool f, .bool l] u fun r _ => ∃ e : Int, r = .int .i64 e ∧ (e = 0 → fldI (.mk k t d ti a args cites kids) = true ∧ txtK (.mk k t d ti a args cites kids) ∧ (k = 1 → bf ≠ 1)) := by
 have h0 := h
 obtain ⟨s1, s2, s3, s4, s5, ⟨q1, q2, q3, q4, q5, q6, q7, q8⟩, hsz⟩ := h
 have oneAll : (inlV k t d ti a.id vc vp va vt vk).all Value.oneCell' = true := by
  have o1 := s1.one
  have o2 := s2.one
  have o3 := s3.one
  have o4 := s4.one
  obtain ⟨cs5, h5, -⟩ := s5
  have o5 := h5.one
  simp only [inlV, List.all_cons, List.all_nil, o1, o2, o3, o4, o5]
  rfl
 obtain ⟨cs5, ⟨ad5, cap5, rfl, -⟩, -⟩ := s5
 obtain ⟨ad4, cap4, rfl, s4⟩ := s4
 refine FnP.intro [.tmp 8] Tryz.func24 rfl rfl rfl ?_
 intro w0 D hw0
 refine Zd (Za (Zt rfl rfl ?_))
 refine do_box trivial rfl (cs := [_, _, _, _, _, _, _, _, _, _]) rfl rfl rfl rfl ?_
 refine ya rfl rfl (Zf (ρ' := [(1, _), (2, _), (3, _), (4, _)]) ⟨rfl, rfl, rfl, rfl, trivial⟩ ?_)
 refine Zc (Zd (Zd (Za (Zg (Zl rfl Tryz.k49 rfl rfl rfl (vs := [_, _, _, _, _, _, _, _, _, _]) rfl rfl rfl) rfl (Zt rfl rfl ?_)))))
 refine Zu (caps := []) trivial rfl rfl Tryz.c38 rfl (FnP.mono (inlineFields_fn k t d ti a args cites kids vc vp va (.slice ad4 cites.length cap4) (.slice ad5 kids.length cap5) u h0) ?_)
 rintro v u1 hle1 rfl
 refine Zg (Zbu rfl rfl) rfl (Zf (ρ' := [(1, _), (2, _), (3, _), (4, _), (11, _)]) ⟨rfl, rfl, rfl, rfl, rfl, trivial⟩ ?_)
 refine Zc ?_
 refine Zr rfl (fun hb1 => ?_) (fun hb1 => ?_)
 ·
  skip
  refine Zd (Za (ya rfl rfl (Zf (ρ' := [(8, _)]) ⟨rfl, trivial⟩ ?_)))
  refine Zc (Zx (Zh (Zau (.tmp rfl) ?_)))
  first
  | exact ⟨_, rfl, fun h => absurd h (by decide)⟩
  | exact ⟨_, rfl, fun _ => ⟨hF, fun hk => hm7_8 hb7 , fun hk => hm9_8 hb9 hk⟩⟩
  | (refine ⟨_, rfl, fun _ => ⟨hF, fun hk => ?_, fun hk => ?_⟩⟩ <;> (exfalso; simp only [decide_eq_true_eq, decide_eq_false_iff_not] at *; omega))
 ·
  have hF : fldI (.mk k t d ti a args cites kids) = true := by simpa [fldI] using hb1
  refine Zs (Zc (Zd (Zd (Za (Zg (Zi rfl Tryz.f49' rfl (by decide) rfl) rfl (Zg (Zl rfl Tryz.k3 rfl rfl rfl (vs := [_]) rfl rfl rfl) rfl (Zf (ρ' := [(1, _), (2, _), (3, _), (4, _), (13, _)]) ⟨rfl, rfl, rfl, rfl, rfl, trivial⟩ ?_)))))))
  refine Zc (Zv ?_)
  refine Zbr (fun ρ σ uci7 => VLe u uci7 ∧ σ = [(4, (none, .box (inlV k t d ti a.id vc vp va (.slice ad4 cites.length cap4) (.slice ad5 kids.length cap5))))] ∧ ρ = [(1, .v (.int .i64 bf)), (2, .v (.bool f)), (3, .v (.bool l)), (4, .p 4 0), (13, .v (.int .i64 k)), (14, .v (.bool (decide (k = 1 ∨ k = 4 ∨ k = 5))))] ∧ (u = uci7)) ?_ ?_
  ·
   refine Zd (Za (Zg (Zay rfl rfl rfl) rfl (ya rfl rfl (Zf (ρ' := [(1, _), (2, _), (3, _), (4, _), (13, _), (14, _)]) ⟨rfl, rfl, rfl, rfl, rfl, rfl, trivial⟩ ?_))))
   refine Zc ?_
   refine Zr rfl (fun hb4 => ?_) (fun hb4 => ?_)
   ·
    refine Zs (Zae ?_)
    refine ⟨[(1, _), (2, _), (3, _), (4, _), (13, _), (14, _)], [(4, _)], ⟨rfl, rfl, rfl, rfl, rfl, rfl, trivial⟩, ⟨rfl, trivial⟩, (VLe.refl _), rfl, (by first | rfl | (simp only [List.cons.injEq, Prod.mk.injEq, SV.v.injEq, Value.bool.injEq, eq_self, true_and, and_true]; exact decide_eq_decide.2 (by simp only [decide_eq_true_eq, decide_eq_false_iff_not] at *; omega))), ?_⟩
    rfl
   ·
    refine Zd (Za (Zg (Zay rfl rfl rfl) rfl (ya rfl rfl (Zf (ρ' := [(1, _), (2, _), (3, _), (4, _), (13, _), (14, _)]) ⟨rfl, rfl, rfl, rfl, rfl, rfl, trivial⟩ ?_))))
    refine Zc ?_
    refine Zr rfl (fun hb5 => ?_) (fun hb5 => ?_)
    ·
     refine Zs (Zae ?_)
     refine ⟨[(1, _), (2, _), (3, _), (4, _), (13, _), (14, _)], [(4, _)], ⟨rfl, rfl, rfl, rfl, rfl, rfl, trivial⟩, ⟨rfl, trivial⟩, (VLe.refl _), rfl, (by first | rfl | (simp only [List.cons.injEq, Prod.mk.injEq, SV.v.injEq, Value.bool.injEq, eq_self, true_and, and_true]; exact decide_eq_decide.2 (by simp only [decide_eq_true_eq, decide_eq_false_iff_not] at *; omega))), ?_⟩
     rfl
    ·
     refine Za (Zg (Zay rfl rfl rfl) rfl (ya rfl rfl (Zf (ρ' := [(1, _), (2, _), (3, _), (4, _), (13, _), (14, _)]) ⟨rfl, rfl, rfl, rfl, rfl, rfl, trivial⟩ ?_)))
     refine Zae ?_
     refine ⟨[(1, _), (2, _), (3, _), (4, _), (13, _), (14, _)], [(4, _)], ⟨rfl, rfl, rfl, rfl, rfl, rfl, trivial⟩, ⟨rfl, trivial⟩, (VLe.refl _), rfl, (by first | rfl | (simp only [List.cons.injEq, Prod.mk.injEq, SV.v.injEq, Value.bool.injEq, eq_self, true_and, and_true]; exact decide_eq_decide.2 (by simp only [decide_eq_true_eq, decide_eq_false_iff_not] at *; omega))), ?_⟩
     rfl
  ·
   rintro ρ σ uci7 ⟨hlci7, rfl, rfl, rfl⟩
   refine Zr rfl (fun hb6 => ?_) (fun hb6 => ?_)
   ·
    refine Zd (Zd (Za ?_))
    refine Zbb 9 26 (fun b => b = false → t ≠ [] ∧ (10 : UInt8) ∉ t) (ρk := [(1, _), (4, _)]) ⟨rfl, rfl, trivial⟩ ?_ fun mb7_8 hm7_8 => ?_
    ·
     refine Zg (Zi rfl Tryz.f49' rfl (by decide) rfl) rfl (Zg (Zl rfl Tryz.k9 rfl rfl rfl (vs := [_]) rfl rfl rfl) rfl (Zg (Zbn rfl rfl rfl) rfl (ym rfl rfl ?_)))
     refine Zab 21 rfl (fun hg7_3 => ?_) (fun hg7_3 => ?_)
     ·
      iterate 4 refine Zp rfl rfl rfl rfl ?_
      refine Zg (Zk rfl rfl rfl) rfl ?_
      exact Zaf rfl ⟨rfl, rfl, trivial⟩ (by (first | exact fun h => absurd h (by decide) | exact fun h => ⟨of_decide_eq_false hg7_3, hb10 (by simpa using h)⟩))
     ·
      refine Zj rfl rfl (Zg (Zi rfl Tryz.f49' rfl (by decide) rfl) rfl (Zj rfl rfl (Zg (Zl rfl Tryz.k9 rfl rfl rfl (vs := [_]) rfl rfl rfl) rfl (Zj rfl rfl (Zt rfl rfl ?_)))))
      refine Zu (caps := []) trivial rfl rfl Tryz.c39 rfl (FnP.mono (line4_fn t (by omega) u) ?_)
      rintro v u1 hle1 ⟨b1, rfl, hb10⟩
      refine Zj rfl rfl (Zg (Zbu rfl rfl) rfl (Zg (Zo rfl rfl rfl) rfl ?_))
      exact Zaf rfl ⟨rfl, rfl, trivial⟩ (by (first | exact fun h => absurd h (by decide) | exact fun h => ⟨of_decide_eq_false hg7_3, hb10 (by simpa using h)⟩))
    refine Zf (ρ' := [(1, _), (4, _), (26, _)]) ⟨rfl, rfl, rfl, trivial⟩ ?_
    refine Zc ?_
    refine Zr rfl (fun hb7 => ?_) (fun hb7 => ?_)
    ·
     refine Zd (Za (ya rfl rfl (Zf (ρ' := [(8, _)]) ⟨rfl, trivial⟩ ?_)))
     refine Zc (Zx (Zh (Zq (Zh (Zau (.tmp rfl) ?_)))))
     first
     | exact ⟨_, rfl, fun h => absurd h (by decide)⟩
     | exact ⟨_, rfl, fun _ => ⟨hF, fun hk => hm7_8 hb7 , fun hk => hm9_8 hb9 hk⟩⟩
     | (refine ⟨_, rfl, fun _ => ⟨hF, fun hk => ?_, fun hk => ?_⟩⟩ <;> (exfalso; simp only [decide_eq_true_eq, decide_eq_false_iff_not] at *; omega))
    ·
     refine Zs (Zc (Zd (Za ?_)))
     refine Zbb 9 35 (fun b => b = false → k = 1 → bf ≠ 1) (ρk := []) trivial ?_ fun mb9_8 hm9_8 => ?_
     ·
      refine Zg (Zi rfl Tryz.f49' rfl (by decide) rfl) rfl (Zg (Zl rfl Tryz.k3 rfl rfl rfl (vs := [_]) rfl rfl rfl) rfl (Zg (y_neq rfl rfl rfl) rfl (ym rfl rfl ?_)))
      refine Zab 30 rfl (fun hg9_3 => ?_) (fun hg9_3 => ?_)
      ·
       refine Zj rfl rfl (ym rfl rfl (Zj rfl rfl (Zg (Zi rfl Tryz.f49' rfl (by decide) rfl) rfl (Zj rfl rfl (Zg (Zl rfl Tryz.k3 rfl rfl rfl (vs := [_]) rfl rfl rfl) rfl (Zj rfl rfl (Zg (Zay rfl rfl rfl) rfl ?_)))))))
       refine Zg (Zk rfl rfl rfl) rfl ?_
       exact Zaf rfl trivial (by (intro h hk; simp only [decide_eq_true_eq, decide_eq_false_iff_not] at *; omega))
      ·
       iterate 4 refine Zp rfl rfl rfl rfl ?_
       refine Zg (Zo rfl rfl rfl) rfl ?_
       exact Zaf rfl trivial (by (intro h hk; simp only [decide_eq_true_eq, decide_eq_false_iff_not] at *; omega))
     refine Zf (ρ' := [(35, _)]) ⟨rfl, trivial⟩ ?_
     refine Zc ?_
     refine Zr rfl (fun hb9 => ?_) (fun hb9 => ?_)
     ·
      refine Zd (Za (ya rfl rfl (Zf (ρ' := [(8, _)]) ⟨rfl, trivial⟩ ?_)))
      refine Zc (Zx (Zq (Zh (Zau (.tmp rfl) ?_))))
      first
      | exact ⟨_, rfl, fun h => absurd h (by decide)⟩
      | exact ⟨_, rfl, fun _ => ⟨hF, fun hk => hm7_8 hb7 , fun hk => hm9_8 hb9 hk⟩⟩
      | (refine ⟨_, rfl, fun _ => ⟨hF, fun hk => ?_, fun hk => ?_⟩⟩ <;> (exfalso; simp only [decide_eq_true_eq, decide_eq_false_iff_not] at *; omega))
     ·
      refine Zs (Zaj (Zc (Zd (Za (ya rfl rfl (Zf (ρ' := [(8, _)]) ⟨rfl, trivial⟩ ?_))))))
      refine Zc (Zx (Zau (.tmp rfl) ?_))
      first
      | exact ⟨_, rfl, fun h => absurd h (by decide)⟩
      | exact ⟨_, rfl, fun _ => ⟨hF, fun hk => hm7_8 hb7 , fun hk => hm9_8 hb9 hk⟩⟩
      | (refine ⟨_, rfl, fun _ => ⟨hF, fun hk => ?_, fun hk => ?_⟩⟩ <;> (exfalso; simp only [decide_eq_true_eq, decide_eq_false_iff_not] at *; omega))
   ·
    refine Zd (Za (Zg (Zay rfl rfl rfl) rfl (ya rfl rfl (Zf (ρ' := [(1, _), (2, _), (3, _), (4, _), (13, _), (36, _)]) ⟨rfl, rfl, rfl, rfl, rfl, rfl, trivial⟩ ?_))))
    refine Zc ?_
    refine Zr rfl (fun hb11 => ?_) (fun hb11 => ?_)
    ·
     refine Zd (Za ?_)
     refine Zbb 12 49 (fun _ => True) (ρk := []) trivial ?_ fun mb12_11 hm12_11 => ?_
     ·
      refine ym rfl rfl (Zg (Zay rfl rfl rfl) rfl (ym rfl rfl ?_))
      refine Zab 40 rfl (fun hg12_2 => ?_) (fun hg12_2 => ?_)
      ·
       refine Zp rfl rfl rfl rfl (Zp rfl rfl rfl rfl (Zg (Zk rfl rfl rfl) rfl (ym rfl rfl (Zp rfl rfl rfl rfl (Zg (Zk rfl rfl rfl) rfl (ym rfl rfl (Zp rfl rfl rfl rfl ?_)))))))
       refine Zg (Zk rfl rfl rfl) rfl ?_
       exact Zaf rfl trivial (trivial)
      ·
       refine Zj rfl rfl (ym rfl rfl (Zj rfl rfl (Zg (Zay rfl rfl rfl) rfl (Zg (Zo rfl rfl rfl) rfl (ym rfl rfl ?_)))))
       refine Zab 44 rfl (fun hg12_6 => ?_) (fun hg12_6 => ?_)
       ·
        refine Zp rfl rfl rfl rfl (Zg (Zk rfl rfl rfl) rfl (ym rfl rfl (Zp rfl rfl rfl rfl (Zg (Zk rfl rfl rfl) rfl ?_))))
        exact Zaf rfl trivial (trivial)
       ·
        refine Zj rfl rfl (ym rfl rfl (Zg (Zo rfl rfl rfl) rfl (ym rfl rfl ?_)))
        refine Zab 47 rfl (fun hg12_9 => ?_) (fun hg12_9 => ?_)
        ·
         refine Zp rfl rfl rfl rfl (Zg (Zk rfl rfl rfl) rfl ?_)
         exact Zaf rfl trivial (trivial)
        ·
         refine Zj rfl rfl (ym rfl rfl (Zg (Zo rfl rfl rfl) rfl ?_))
         exact Zaf rfl trivial (trivial)
     refine Zf (ρ' := [(49, _)]) ⟨rfl, trivial⟩ ?_
     refine Zc ?_
     refine Zr rfl (fun hb12 => ?_) (fun hb12 => ?_)
     ·
      refine Zd (Za (ya rfl rfl (Zf (ρ' := [(8, _)]) ⟨rfl, trivial⟩ ?_)))
      refine Zc (Zx (Zq (Zh (Zau (.tmp rfl) ?_))))
      first
      | exact ⟨_, rfl, fun h => absurd h (by decide)⟩
      | exact ⟨_, rfl, fun _ => ⟨hF, fun hk => hm7_8 hb7 , fun hk => hm9_8 hb9 hk⟩⟩
      | (refine ⟨_, rfl, fun _ => ⟨hF, fun hk => ?_, fun hk => ?_⟩⟩ <;> (exfalso; simp only [decide_eq_true_eq, decide_eq_false_iff_not] at *; omega))
     ·
      refine Zs (Zaj (Zc (Zd (Za (ya rfl rfl (Zf (ρ' := [(8, _)]) ⟨rfl, trivial⟩ ?_))))))
      refine Zc (Zx (Zau (.tmp rfl) ?_))
      first
      | exact ⟨_, rfl, fun h => absurd h (by decide)⟩
      | exact ⟨_, rfl, fun _ => ⟨hF, fun hk => hm7_8 hb7 , fun hk => hm9_8 hb9 hk⟩⟩
      | (refine ⟨_, rfl, fun _ => ⟨hF, fun hk => ?_, fun hk => ?_⟩⟩ <;> (exfalso; simp only [decide_eq_true_eq, decide_eq_false_iff_not] at *; omega))
    ·
     refine Zd (Za (Zg (Zay rfl rfl rfl) rfl (ya rfl rfl (Zf (ρ' := [(3, _), (4, _), (13, _), (50, _)]) ⟨rfl, rfl, rfl, rfl, trivial⟩ ?_))))
     refine Zc ?_
     refine Zr rfl (fun hb14 => ?_) (fun hb14 => ?_)
     ·
      refine Zd (Za (ym rfl rfl (Zf (ρ' := [(52, _)]) ⟨rfl, trivial⟩ ?_)))
      refine Zc ?_
      refine Zr rfl (fun hb15 => ?_) (fun hb15 => ?_)
      ·
       refine Zd (Za (ya rfl rfl (Zf (ρ' := [(8, _)]) ⟨rfl, trivial⟩ ?_)))
       refine Zc (Zx (Zq (Zh (Zau (.tmp rfl) ?_))))
       first
       | exact ⟨_, rfl, fun h => absurd h (by decide)⟩
       | exact ⟨_, rfl, fun _ => ⟨hF, fun hk => hm7_8 hb7 , fun hk => hm9_8 hb9 hk⟩⟩
       | (refine ⟨_, rfl, fun _ => ⟨hF, fun hk => ?_, fun hk => ?_⟩⟩ <;> (exfalso; simp only [decide_eq_true_eq, decide_eq_false_iff_not] at *; omega))
      ·
       refine Zs (Zaj (Zc (Zd (Za (ya rfl rfl (Zf (ρ' := [(8, _)]) ⟨rfl, trivial⟩ ?_))))))
       refine Zc (Zx (Zau (.tmp rfl) ?_))
       first
       | exact ⟨_, rfl, fun h => absurd h (by decide)⟩
       | exact ⟨_, rfl, fun _ => ⟨hF, fun hk => hm7_8 hb7 , fun hk => hm9_8 hb9 hk⟩⟩
       | (refine ⟨_, rfl, fun _ => ⟨hF, fun hk => ?_, fun hk => ?_⟩⟩ <;> (exfalso; simp only [decide_eq_true_eq, decide_eq_false_iff_not] at *; omega))
     ·
      refine Zbr (fun ρ σ uci20 => VLe u uci20 ∧ σ = [(4, (none, .box (inlV k t d ti a.id vc vp va (.slice ad4 cites.length cap4) (.slice ad5 kids.length cap5))))] ∧ ρ = [(4, .p 4 0), (13, .v (.int .i64 k)), (53, .v (.bool (decide (6 ≤ k ∧ k ≤ 8))))] ∧ (u = uci20)) ?_ ?_
      ·
       refine Zd (Za (Zg (Zay rfl rfl rfl) rfl (ya rfl rfl (Zf (ρ' := [(4, _), (13, _), (53, _)]) ⟨rfl, rfl, rfl, trivial⟩ ?_))))
       refine Zc ?_
       refine Zr rfl (fun hb17 => ?_) (fun hb17 => ?_)
       ·
        refine Zs (Zae ?_)
        refine ⟨[(4, _), (13, _), (53, _)], [(4, _)], ⟨rfl, rfl, rfl, trivial⟩, ⟨rfl, trivial⟩, (VLe.refl _), rfl, (by first | rfl | (simp only [List.cons.injEq, Prod.mk.injEq, SV.v.injEq, Value.bool.injEq, eq_self, true_and, and_true]; exact decide_eq_decide.2 (by simp only [decide_eq_true_eq, decide_eq_false_iff_not] at *; omega))), ?_⟩
        rfl
       ·
        refine Zd (Za (Zg (Zay rfl rfl rfl) rfl (ya rfl rfl (Zf (ρ' := [(4, _), (13, _), (53, _)]) ⟨rfl, rfl, rfl, trivial⟩ ?_))))
        refine Zc ?_
        refine Zr rfl (fun hb18 => ?_) (fun hb18 => ?_)
        ·
         refine Zs (Zae ?_)
         refine ⟨[(4, _), (13, _), (53, _)], [(4, _)], ⟨rfl, rfl, rfl, trivial⟩, ⟨rfl, trivial⟩, (VLe.refl _), rfl, (by first | rfl | (simp only [List.cons.injEq, Prod.mk.injEq, SV.v.injEq, Value.bool.injEq, eq_self, true_and, and_true]; exact decide_eq_decide.2 (by simp only [decide_eq_true_eq, decide_eq_false_iff_not] at *; omega))), ?_⟩
         rfl
        ·
         refine Za (Zg (Zay rfl rfl rfl) rfl (ya rfl rfl (Zf (ρ' := [(4, _), (13, _), (53, _)]) ⟨rfl, rfl, rfl, trivial⟩ ?_)))
         refine Zae ?_
         refine ⟨[(4, _), (13, _), (53, _)], [(4, _)], ⟨rfl, rfl, rfl, trivial⟩, ⟨rfl, trivial⟩, (VLe.refl _), rfl, (by first | rfl | (simp only [List.cons.injEq, Prod.mk.injEq, SV.v.injEq, Value.bool.injEq, eq_self, true_and, and_true]; exact decide_eq_decide.2 (by simp only [decide_eq_true_eq, decide_eq_false_iff_not] at *; omega))), ?_⟩
         rfl
      ·
       rintro ρ σ uci20 ⟨hlci20, rfl, rfl, rfl⟩
       refine Zr rfl (fun hb19 => ?_) (fun hb19 => ?_)
       ·
        refine Zd (Za (Zg (Zi rfl Tryz.f49' rfl (by decide) rfl) rfl (Zg (Zl rfl Tryz.k22 rfl rfl rfl (vs := [_]) rfl rfl rfl) rfl (Zg (Zah rfl rfl Tryz.s22 rfl) rfl (Zg (Zay rfl rfl rfl) rfl (Zf (ρ' := [(60, _)]) ⟨rfl, trivial⟩ ?_))))))
        refine Zc ?_
        refine Zr rfl (fun hb20 => ?_) (fun hb20 => ?_)
        ·
         refine Zd (Za (ya rfl rfl (Zf (ρ' := [(8, _)]) ⟨rfl, trivial⟩ ?_)))
         refine Zc (Zx (Zq (Zh (Zau (.tmp rfl) ?_))))
         first
         | exact ⟨_, rfl, fun h => absurd h (by decide)⟩
         | exact ⟨_, rfl, fun _ => ⟨hF, fun hk => hm7_8 hb7 , fun hk => hm9_8 hb9 hk⟩⟩
         | (refine ⟨_, rfl, fun _ => ⟨hF, fun hk => ?_, fun hk => ?_⟩⟩ <;> (exfalso; simp only [decide_eq_true_eq, decide_eq_false_iff_not] at *; omega))
        ·
         refine Zs (Zaj (Zc (Zd (Za (ya rfl rfl (Zf (ρ' := [(8, _)]) ⟨rfl, trivial⟩ ?_))))))
         refine Zc (Zx (Zau (.tmp rfl) ?_))
         first
         | exact ⟨_, rfl, fun h => absurd h (by decide)⟩
         | exact ⟨_, rfl, fun _ => ⟨hF, fun hk => hm7_8 hb7 , fun hk => hm9_8 hb9 hk⟩⟩
         | (refine ⟨_, rfl, fun _ => ⟨hF, fun hk => ?_, fun hk => ?_⟩⟩ <;> (exfalso; simp only [decide_eq_true_eq, decide_eq_false_iff_not] at *; omega))
       ·
        refine Zbr (fun ρ σ uci24 => VLe u uci24 ∧ σ = [(4, (none, .box (inlV k t d ti a.id vc vp va (.slice ad4 cites.length cap4) (.slice ad5 kids.length cap5))))] ∧ ρ = [(4, .p 4 0), (13, .v (.int .i64 k)), (61, .v (.bool (decide (k = 9 ∨ k = 10))))] ∧ (u = uci24)) ?_ ?_
        ·
         refine Zd (Za (Zg (Zay rfl rfl rfl) rfl (ya rfl rfl (Zf (ρ' := [(4, _), (13, _), (61, _)]) ⟨rfl, rfl, rfl, trivial⟩ ?_))))
         refine Zc ?_
         refine Zr rfl (fun hb22 => ?_) (fun hb22 => ?_)
         ·
          refine Zs (Zae ?_)
          refine ⟨[(4, _), (13, _), (61, _)], [(4, _)], ⟨rfl, rfl, rfl, trivial⟩, ⟨rfl, trivial⟩, (VLe.refl _), rfl, (by first | rfl | (simp only [List.cons.injEq, Prod.mk.injEq, SV.v.injEq, Value.bool.injEq, eq_self, true_and, and_true]; exact decide_eq_decide.2 (by simp only [decide_eq_true_eq, decide_eq_false_iff_not] at *; omega))), ?_⟩
          rfl
         ·
          refine Za (Zg (Zay rfl rfl rfl) rfl (ya rfl rfl (Zf (ρ' := [(4, _), (13, _), (61, _)]) ⟨rfl, rfl, rfl, trivial⟩ ?_)))
          refine Zae ?_
          refine ⟨[(4, _), (13, _), (61, _)], [(4, _)], ⟨rfl, rfl, rfl, trivial⟩, ⟨rfl, trivial⟩, (VLe.refl _), rfl, (by first | rfl | (simp only [List.cons.injEq, Prod.mk.injEq, SV.v.injEq, Value.bool.injEq, eq_self, true_and, and_true]; exact decide_eq_decide.2 (by simp only [decide_eq_true_eq, decide_eq_false_iff_not] at *; omega))), ?_⟩
          rfl
        ·
         rintro ρ σ uci24 ⟨hlci24, rfl, rfl, rfl⟩
         refine Zr rfl (fun hb23 => ?_) (fun hb23 => ?_)
         ·
          refine Zd (Za (Zg (Zl rfl Tryz.k49 rfl rfl rfl (vs := [_, _, _, _, _, _, _, _, _, _]) rfl rfl rfl) rfl (Zt rfl rfl ?_)))
          refine Zu (caps := []) trivial rfl rfl Tryz.c40 rfl (FnP.mono (ktarget_fn k t d ti a args cites kids vc vp va (.slice ad4 cites.length cap4) (.slice ad5 kids.length cap5) u h0) ?_)
          rintro v u1 hle1 ⟨e1, rfl⟩
          refine ya rfl rfl (Zf (ρ' := [(8, _)]) ⟨rfl, trivial⟩ ?_)
          refine Zc (Zx (Zq (Zh (Zau (.tmp rfl) ?_))))
          first
          | exact ⟨_, rfl, fun h => absurd h (by decide)⟩
          | exact ⟨_, rfl, fun _ => ⟨hF, fun hk => hm7_8 hb7 , fun hk => hm9_8 hb9 hk⟩⟩
          | (refine ⟨_, rfl, fun _ => ⟨hF, fun hk => ?_, fun hk => ?_⟩⟩ <;> (exfalso; simp only [decide_eq_true_eq, decide_eq_false_iff_not] at *; omega))
         ·
          refine Zd (Za (Zg (Zay rfl rfl rfl) rfl (ya rfl rfl (Zf (ρ' := [(4, _), (13, _), (66, _)]) ⟨rfl, rfl, rfl, trivial⟩ ?_))))
          refine Zc ?_
          refine Zr rfl (fun hb25 => ?_) (fun hb25 => ?_)
          ·
           refine Zd (Zd (Za (Zg (Zi rfl Tryz.f49' rfl (by decide) rfl) rfl (Zg (Zl rfl Tryz.k27 rfl rfl rfl (vs := [_, _, _]) rfl rfl rfl) rfl (Zt rfl rfl ?_)))))
           refine Zu (caps := []) trivial rfl rfl Tryz.c41 rfl (FnP.mono (noAttr_fn a vc vp u s1 s2) ?_)
           rintro v u1 hle1 rfl
           refine Zf (ρ' := [(4, _), (70, _)]) ⟨rfl, rfl, trivial⟩ ?_
           refine Zc ?_
           refine Zr rfl (fun hb26 => ?_) (fun hb26 => ?_)
           ·
            refine Zd (Za (ya rfl rfl (Zf (ρ' := [(8, _)]) ⟨rfl, trivial⟩ ?_)))
            refine Zc (Zx (Zh (Zq (Zh (Zau (.tmp rfl) ?_)))))
            first
            | exact ⟨_, rfl, fun h => absurd h (by decide)⟩
            | exact ⟨_, rfl, fun _ => ⟨hF, fun hk => hm7_8 hb7 , fun hk => hm9_8 hb9 hk⟩⟩
            | (refine ⟨_, rfl, fun _ => ⟨hF, fun hk => ?_, fun hk => ?_⟩⟩ <;> (exfalso; simp only [decide_eq_true_eq, decide_eq_false_iff_not] at *; omega))
           ·
            refine Zs (Zc (Zd (Za (Zg (Zi rfl Tryz.f49' rfl (by decide) rfl) rfl (Zg (Zl rfl Tryz.k27 rfl rfl rfl (vs := [_, _, _]) rfl rfl rfl) rfl (Zt rfl rfl ?_))))))
            refine Zu (caps := []) trivial rfl rfl Tryz.c42 rfl (FnP.mono (attrCheck_fn a vc vp ⟨by omega, q2, q3⟩ u s1 s2) ?_)
            rintro v u1 hle1 ⟨e2, rfl⟩
            refine ya rfl rfl (Zf (ρ' := [(8, _)]) ⟨rfl, trivial⟩ ?_)
            refine Zc (Zx (Zq (Zh (Zau (.tmp rfl) ?_))))
            first
            | exact ⟨_, rfl, fun h => absurd h (by decide)⟩
            | exact ⟨_, rfl, fun _ => ⟨hF, fun hk => hm7_8 hb7 , fun hk => hm9_8 hb9 hk⟩⟩
            | (refine ⟨_, rfl, fun _ => ⟨hF, fun hk => ?_, fun hk => ?_⟩⟩ <;> (exfalso; simp only [decide_eq_true_eq, decide_eq_false_iff_not] at *; omega))
          ·
           refine Zbr (fun ρ σ uci32 => VLe u uci32 ∧ σ = [(4, (none, .box (inlV k t d ti a.id vc vp va (.slice ad4 cites.length cap4) (.slice ad5 kids.length cap5))))] ∧ ρ = [(4, .p 4 0), (13, .v (.int .i64 k)), (74, .v (.bool (decide (k = 12 ∨ k = 14 ∨ k = 15))))] ∧ (u = uci32)) ?_ ?_
           ·
            refine Zd (Za (Zg (Zay rfl rfl rfl) rfl (ya rfl rfl (Zf (ρ' := [(4, _), (13, _), (74, _)]) ⟨rfl, rfl, rfl, trivial⟩ ?_))))
            refine Zc ?_
            refine Zr rfl (fun hb29 => ?_) (fun hb29 => ?_)
            ·
             refine Zs (Zae ?_)
             refine ⟨[(4, _), (13, _), (74, _)], [(4, _)], ⟨rfl, rfl, rfl, trivial⟩, ⟨rfl, trivial⟩, (VLe.refl _), rfl, (by first | rfl | (simp only [List.cons.injEq, Prod.mk.injEq, SV.v.injEq, Value.bool.injEq, eq_self, true_and, and_true]; exact decide_eq_decide.2 (by simp only [decide_eq_true_eq, decide_eq_false_iff_not] at *; omega))), ?_⟩
             rfl
            ·
             refine Zd (Za (Zg (Zay rfl rfl rfl) rfl (ya rfl rfl (Zf (ρ' := [(4, _), (13, _), (74, _)]) ⟨rfl, rfl, rfl, trivial⟩ ?_))))
             refine Zc ?_
             refine Zr rfl (fun hb30 => ?_) (fun hb30 => ?_)
             ·
              refine Zs (Zae ?_)
              refine ⟨[(4, _), (13, _), (74, _)], [(4, _)], ⟨rfl, rfl, rfl, trivial⟩, ⟨rfl, trivial⟩, (VLe.refl _), rfl, (by first | rfl | (simp only [List.cons.injEq, Prod.mk.injEq, SV.v.injEq, Value.bool.injEq, eq_self, true_and, and_true]; exact decide_eq_decide.2 (by simp only [decide_eq_true_eq, decide_eq_false_iff_not] at *; omega))), ?_⟩
              rfl
             ·
              refine Za (Zg (Zay rfl rfl rfl) rfl (ya rfl rfl (Zf (ρ' := [(4, _), (13, _), (74, _)]) ⟨rfl, rfl, rfl, trivial⟩ ?_)))
              refine Zae ?_
              refine ⟨[(4, _), (13, _), (74, _)], [(4, _)], ⟨rfl, rfl, rfl, trivial⟩, ⟨rfl, trivial⟩, (VLe.refl _), rfl, (by first | rfl | (simp only [List.cons.injEq, Prod.mk.injEq, SV.v.injEq, Value.bool.injEq, eq_self, true_and, and_true]; exact decide_eq_decide.2 (by simp only [decide_eq_true_eq, decide_eq_false_iff_not] at *; omega))), ?_⟩
              rfl
           ·
            rintro ρ σ uci32 ⟨hlci32, rfl, rfl, rfl⟩
            refine Zr rfl (fun hb31 => ?_) (fun hb31 => ?_)
            ·
             refine Zd (Za (Zg (Zl rfl Tryz.k49 rfl rfl rfl (vs := [_, _, _, _, _, _, _, _, _, _]) rfl rfl rfl) rfl (Zt rfl rfl ?_)))
             refine Zu (caps := []) trivial rfl rfl Tryz.c43 rfl (FnP.mono (named_fn k t d ti a args cites kids vc vp va (.slice ad4 cites.length cap4) (.slice ad5 kids.length cap5) u h0) ?_)
             rintro v u1 hle1 ⟨e3, rfl⟩
             refine ya rfl rfl (Zf (ρ' := [(8, _)]) ⟨rfl, trivial⟩ ?_)
             refine Zc (Zx (Zq (Zh (Zau (.tmp rfl) ?_))))
             first
             | exact ⟨_, rfl, fun h => absurd h (by decide)⟩
             | exact ⟨_, rfl, fun _ => ⟨hF, fun hk => hm7_8 hb7 , fun hk => hm9_8 hb9 hk⟩⟩
             | (refine ⟨_, rfl, fun _ => ⟨hF, fun hk => ?_, fun hk => ?_⟩⟩ <;> (exfalso; simp only [decide_eq_true_eq, decide_eq_false_iff_not] at *; omega))
            ·
             refine Zd (Za (Zg (Zay rfl rfl rfl) rfl (ya rfl rfl (Zf (ρ' := [(4, _), (13, _), (80, _)]) ⟨rfl, rfl, rfl, trivial⟩ ?_))))
             refine Zc ?_
             refine Zr rfl (fun hb33 => ?_) (fun hb33 => ?_)
             ·
              refine Zd (Za (Zg (Zi rfl Tryz.f49' rfl (by decide) rfl) rfl (Zg (Zl rfl Tryz.k47 rfl rfl rfl (vs := [_]) rfl rfl rfl) rfl (Zt rfl rfl ?_))))
              refine Zu (caps := []) trivial rfl rfl Tryz.c44 rfl (FnP.mono (cites_fn (.slice ad4 cites.length cap4) cites q6 q8 u ⟨_, _, rfl, s4⟩) ?_)
              rintro v u1 hle1 ⟨e4, rfl⟩
              refine ya rfl rfl (Zf (ρ' := [(8, _)]) ⟨rfl, trivial⟩ ?_)
              refine Zc (Zx (Zq (Zh (Zau (.tmp rfl) ?_))))
              first
              | exact ⟨_, rfl, fun h => absurd h (by decide)⟩
              | exact ⟨_, rfl, fun _ => ⟨hF, fun hk => hm7_8 hb7 , fun hk => hm9_8 hb9 hk⟩⟩
              | (refine ⟨_, rfl, fun _ => ⟨hF, fun hk => ?_, fun hk => ?_⟩⟩ <;> (exfalso; simp only [decide_eq_true_eq, decide_eq_false_iff_not] at *; omega))
             ·
              refine Zd (Za (Zg (Zay rfl rfl rfl) rfl (ya rfl rfl (Zf (ρ' := [(4, _), (85, _)]) ⟨rfl, rfl, trivial⟩ ?_))))
              refine Zc ?_
              refine Zr rfl (fun hb35 => ?_) (fun hb35 => ?_)
              ·
               refine Zd (Za (Zg (Zi rfl Tryz.f49' rfl (by decide) rfl) rfl (Zg (Zl rfl Tryz.k9 rfl rfl rfl (vs := [_]) rfl rfl rfl) rfl (Zt rfl rfl ?_))))
               refine Zu (caps := []) trivial rfl rfl Tryz.c45 rfl (FnP.mono (auto_fn d (by omega) u) ?_)
               rintro v u1 hle1 ⟨b5, rfl⟩
               refine Zg (Zbu rfl rfl) rfl (Zf (ρ' := [(90, _)]) ⟨rfl, trivial⟩ ?_)
               refine Zc ?_
               refine Zr rfl (fun hb36 => ?_) (fun hb36 => ?_)
               ·
                refine Zd (Za (ya rfl rfl (Zf (ρ' := [(8, _)]) ⟨rfl, trivial⟩ ?_)))
                refine Zc (Zx (Zq (Zh (Zau (.tmp rfl) ?_))))
                first
                | exact ⟨_, rfl, fun h => absurd h (by decide)⟩
                | exact ⟨_, rfl, fun _ => ⟨hF, fun hk => hm7_8 hb7 , fun hk => hm9_8 hb9 hk⟩⟩
                | (refine ⟨_, rfl, fun _ => ⟨hF, fun hk => ?_, fun hk => ?_⟩⟩ <;> (exfalso; simp only [decide_eq_true_eq, decide_eq_false_iff_not] at *; omega))
               ·
                refine Zs (Zaj (Zc (Zd (Za (ya rfl rfl (Zf (ρ' := [(8, _)]) ⟨rfl, trivial⟩ ?_))))))
                refine Zc (Zx (Zau (.tmp rfl) ?_))
                first
                | exact ⟨_, rfl, fun h => absurd h (by decide)⟩
                | exact ⟨_, rfl, fun _ => ⟨hF, fun hk => hm7_8 hb7 , fun hk => hm9_8 hb9 hk⟩⟩
                | (refine ⟨_, rfl, fun _ => ⟨hF, fun hk => ?_, fun hk => ?_⟩⟩ <;> (exfalso; simp only [decide_eq_true_eq, decide_eq_false_iff_not] at *; omega))
              ·
               refine Zs (Zaj (Zc (Zd (Za (ya rfl rfl (Zf (ρ' := [(8, _)]) ⟨rfl, trivial⟩ ?_))))))
               refine Zc (Zx (Zau (.tmp rfl) ?_))
               first
               | exact ⟨_, rfl, fun h => absurd h (by decide)⟩
               | exact ⟨_, rfl, fun _ => ⟨hF, fun hk => hm7_8 hb7 , fun hk => hm9_8 hb9 hk⟩⟩
               | (refine ⟨_, rfl, fun _ => ⟨hF, fun hk => ?_, fun hk => ?_⟩⟩ <;> (exfalso; simp only [decide_eq_true_eq, decide_eq_false_iff_not] at *; omega))
set_option maxHeartbeats 1000000 in
theorem lineList_fn (n : Nat) : ∀ (v : Value) (xs : List Inl) (dp : Int) (u : View), szI xs ≤ n → szI xs ≤ 100000 → smI xs → 0 ≤ dp → dp ≤ 16 → InlS u v xs →
  FnP Tryz.prog 11 [v, .int .i64 dp] u fun r _ => ∃ e : Int, r = .int .i64 e ∧ (e = 0 → okL 0 xs) := by
 induction n using Nat.strongRecOn with
 | _ n ih =>
 intro v xs dp u hsz hbig hsm hd0 hd1 ha
 have hlx := len_szI xs
 obtain ⟨cs, ⟨ad, cap, rfl, h1⟩, hc1⟩ := ha
 refine FnP.intro [.tmp 4] Tryz.func11 rfl rfl rfl ?_
 intro w0 D hw0
 refine Zd (Za (ya rfl rfl (Zf (ρ' := [(0, _), (1, _)]) ⟨rfl, rfl, trivial⟩ ?_)))
 refine Zc (Zd (Za (ya rfl rfl (Zf (ρ' := [(0, _), (1, _), (5, _)]) ⟨rfl, rfl, rfl, trivial⟩ ?_))))
 refine Zc (Zd (Zd (Za (ya rfl rfl (Zf (ρ' := [(0, _), (1, _), (5, _), (6, _)]) ⟨rfl, rfl, rfl, rfl, trivial⟩ ?_)))))
 refine Zc (Zv ?_)
 refine Zas (fun m_0 ρ σ u' => ∃ i : Nat, i + m_0 = xs.length ∧ VLe u u' ∧ ∃ (bf : Int), σ = [] ∧ ρ = [(0, .v (.slice ad xs.length cap)), (1, .v (.int .i64 dp)), (5, .v (.int .i64 bf)), (6, .v (.int .i64 i))] ∧ (u = u' ∧ (okL bf (xs.drop i) → okL 0 xs))) (xs.length) ?_ ?_
 ·
  refine ⟨[(0, _), (1, _), (5, _), (6, _)], [], ⟨rfl, rfl, rfl, rfl, trivial⟩, trivial, 0, by omega, VLe.refl _, 0, (by first | rfl | simp), (by first | rfl | (simp only [List.cons.injEq, Prod.mk.injEq, SV.v.injEq, Value.int.injEq, true_and, and_true]; omega) | simp), ?_⟩
  exact ⟨rfl, fun h => h⟩
 ·
  rintro m ρ σ u' ⟨i, hi3, hle3, bf, rfl, rfl, ⟨rfl, hinv⟩⟩
  refine Zd (Zd (Za (ym rfl rfl (ym rfl rfl (Zg (Zah rfl rfl Tryz.s22 rfl) rfl (Zg (Zaz rfl rfl rfl) rfl (Zf (ρ' := [(0, _), (1, _), (5, _), (6, _), (11, _)]) ⟨rfl, rfl, rfl, rfl, rfl, trivial⟩ ?_)))))))
  refine Zc ?_
  refine Zr rfl (fun hb3 => ?_) (fun hb3 => ?_)
  ·
   have hlt : i < xs.length := by have := of_decide_eq_true hb3; omega
   obtain ⟨k, t, d, ti, a, args, cites, kids, vc, vp, va, vt, vk, hg, hcut1, s1, s2, s3, s4, s5, hok⟩ := hc1.at hlt
   have oneAll := (hc1.get i _ hg).one
   rw [hcut1] at oneAll
   have hszk := szI_kids hg
   have hsmx := smI_get hsm hg
   have hK : InlK u a args cites kids vc vp va vt vk t d ti := ⟨s1, s2, s3, s4, s5, hsmx.1, by omega⟩
   refine Zs (Zc (Zd (Zv (Zd (Zd (Za (ym rfl rfl ?_)))))))
   refine Zg (y_gtr rfl rfl rfl) rfl (Zf (ρ' := [(0, _), (1, _), (5, _), (6, _), (15, _)]) ⟨rfl, rfl, rfl, rfl, rfl, trivial⟩ ?_)
   refine Zc ?_
   refine Zr rfl (fun hb5 => ?_) (fun hb5 => ?_)
   ·
    skip
    refine Zd (Za (ya rfl rfl (Zf (ρ' := [(4, _)]) ⟨rfl, trivial⟩ ?_)))
    refine Zc (Zx (Zh (Zq (Zh (Zh (Zq (Zh ?_)))))))
    refine Zau (.tmp rfl) ?_
    first
    | exact ⟨_, rfl, fun h => absurd h (by decide)⟩
    | exact ⟨_, rfl, fun h => absurd h (of_decide_eq_true hb11)⟩
    | exact ⟨_, rfl, fun h => absurd h (of_decide_eq_true hb8)⟩
    | exact ⟨_, rfl, fun h => hinv (by unfold okL; trivial)⟩
   ·
    have hd15 := of_decide_eq_false hb5
    refine Zs (Zc (Zd (Za (ym rfl rfl (ym rfl rfl (Zg (Zad rfl Tryz.s22 rfl rfl (by assumption) (by first | rfl | omega) (by omega)) rfl (Zg (Zac rfl Tryz.k49 rfl (by assumption) (by omega) (by assumption) (vs := [_, _, _, _, _, _, _, _, _, _]) rfl rfl rfl rfl) rfl ?_)))))))
    refine ym rfl rfl ?_
    refine Zbb 6 26 (fun _ => True) (ρk := [(0, _), (1, _), (6, _), (19, _), (20, _)]) ⟨rfl, rfl, rfl, rfl, rfl, trivial⟩ ?_ fun mb7_10 hm7_10 => ?_
    ·
     refine ym rfl rfl (Zg (Zay rfl rfl rfl) rfl (ym rfl rfl ?_))
     refine Zab 23 rfl (fun hg7_7 => ?_) (fun hg7_7 => ?_)
     ·
      refine Zj rfl rfl (ym rfl rfl (Zj rfl rfl (Zg (Zay rfl rfl rfl) rfl (Zg (Zk rfl rfl rfl) rfl ?_))))
      exact Zaf rfl ⟨rfl, rfl, rfl, rfl, rfl, trivial⟩ (trivial)
     ·
      refine Zp rfl rfl rfl rfl (Zp rfl rfl rfl rfl (Zg (Zo rfl rfl rfl) rfl ?_))
      exact Zaf rfl ⟨rfl, rfl, rfl, rfl, rfl, trivial⟩ (trivial)
    refine Zbb 9 35 (fun _ => True) (ρk := [(0, _), (1, _), (6, _), (19, _), (20, _), (26, _)]) ⟨rfl, rfl, rfl, rfl, rfl, rfl, trivial⟩ ?_ fun mb7_19 hm7_19 => ?_
    ·
     refine ym rfl rfl (Zg (Zay rfl rfl rfl) rfl (ym rfl rfl ?_))
     refine Zab 29 rfl (fun hg7_13 => ?_) (fun hg7_13 => ?_)
     ·
      refine Zj rfl rfl (ym rfl rfl (Zj rfl rfl (ym rfl rfl (Zj rfl rfl (Zg (Zah rfl rfl Tryz.s22 rfl) rfl (Zj rfl rfl (Zg (y_sub rfl rfl rfl (Zn (by omega))) rfl ?_)))))))
      refine Zj rfl rfl (Zg (Zay rfl rfl rfl) rfl (Zg (Zk rfl rfl rfl) rfl ?_))
      exact Zaf rfl ⟨rfl, rfl, rfl, rfl, rfl, rfl, trivial⟩ (trivial)
     ·
      iterate 5 refine Zp rfl rfl rfl rfl ?_
      refine Zg (Zo rfl rfl rfl) rfl ?_
      exact Zaf rfl ⟨rfl, rfl, rfl, rfl, rfl, rfl, trivial⟩ (trivial)
    refine Zt rfl rfl ?_
    refine Zu (caps := []) trivial rfl rfl Tryz.c24 rfl (FnP.mono (kone_fn k t d ti a args cites kids vc vp va vt vk bf _ _ u hK) ?_)
    rintro v u1 hle1 ⟨e1, rfl, he1⟩
    refine ya rfl rfl (Zf (ρ' := [(0, _), (1, _), (6, _), (7, _)]) ⟨rfl, rfl, rfl, rfl, trivial⟩ ?_)
    refine Zc (Zd (Zd (Za (ym rfl rfl (Zg (y_neq rfl rfl rfl) rfl (Zf (ρ' := [(0, _), (1, _), (6, _), (7, _), (38, _)]) ⟨rfl, rfl, rfl, rfl, rfl, trivial⟩ ?_))))))
    refine Zc ?_
    refine Zr rfl (fun hb8 => ?_) (fun hb8 => ?_)
    ·
     refine Zd (Za (ym rfl rfl (ya rfl rfl (Zf (ρ' := [(4, _)]) ⟨rfl, trivial⟩ ?_))))
     refine Zc (Zx (Zh (Zq (Zh (Zh (Zq (Zh ?_)))))))
     refine Zau (.tmp rfl) ?_
     first
     | exact ⟨_, rfl, fun h => absurd h (by decide)⟩
     | exact ⟨_, rfl, fun h => absurd h (of_decide_eq_true hb11)⟩
     | exact ⟨_, rfl, fun h => absurd h (of_decide_eq_true hb8)⟩
     | exact ⟨_, rfl, fun h => hinv (by unfold okL; trivial)⟩
    ·
     refine Zs (Zc (Zd (Za (ym rfl rfl (ym rfl rfl (Zg (Zad rfl Tryz.s22 rfl rfl (by assumption) (by first | rfl | omega) (by omega)) rfl (Zg (Zbe rfl Tryz.f49' rfl (by decide) rfl) rfl ?_)))))))
     refine Zg (Zac rfl Tryz.k22 rfl (by assumption) (by omega) (by assumption) (vs := [_]) rfl rfl rfl rfl) rfl (ym rfl rfl (Zg (Zap rfl rfl rfl (Zn (by omega))) rfl ?_))
     refine Zt rfl rfl ?_
     refine Zu (caps := []) trivial rfl rfl Tryz.c11 rfl (FnP.mono (ih (szI kids) (by omega) vk kids (dp + 1) u (Nat.le_refl _) (by omega) hsmx.2 (by omega) (by omega) s5) ?_)
     rintro v u1 hle1 ⟨e2, rfl, he2⟩
     refine ya rfl rfl (Zf (ρ' := [(0, _), (1, _), (6, _), (7, _)]) ⟨rfl, rfl, rfl, rfl, trivial⟩ ?_)
     refine Zc (Zd (Zd (Za (ym rfl rfl (Zg (y_neq rfl rfl rfl) rfl (Zf (ρ' := [(0, _), (1, _), (6, _), (7, _), (49, _)]) ⟨rfl, rfl, rfl, rfl, rfl, trivial⟩ ?_))))))
     refine Zc ?_
     refine Zr rfl (fun hb11 => ?_) (fun hb11 => ?_)
     ·
      refine Zd (Za (ym rfl rfl (ya rfl rfl (Zf (ρ' := [(4, _)]) ⟨rfl, trivial⟩ ?_))))
      refine Zc (Zx (Zh (Zq (Zh (Zh (Zq (Zh ?_)))))))
      refine Zau (.tmp rfl) ?_
      first
      | exact ⟨_, rfl, fun h => absurd h (by decide)⟩
      | exact ⟨_, rfl, fun h => absurd h (of_decide_eq_true hb11)⟩
      | exact ⟨_, rfl, fun h => absurd h (of_decide_eq_true hb8)⟩
      | exact ⟨_, rfl, fun h => hinv (by unfold okL; trivial)⟩
     ·
      refine Zs (Zc (Za (ym rfl rfl (ym rfl rfl (Zg (Zad rfl Tryz.s22 rfl rfl (by assumption) (by first | rfl | omega) (by omega)) rfl (Zg (Zbe rfl Tryz.f49' rfl (by decide) rfl) rfl (Zg (Zac rfl Tryz.k3 rfl (by assumption) (by omega) (by assumption) (vs := [_]) rfl rfl rfl rfl) rfl ?_)))))))
      refine ya rfl rfl (Zf (ρ' := [(0, _), (1, _), (5, _), (6, _)]) ⟨rfl, rfl, rfl, rfl, trivial⟩ ?_)
      refine Zaj (Zc (Za (ym rfl rfl (Zg (Zap rfl rfl rfl (Zn (by omega))) rfl ?_))))
      refine ya rfl rfl (Zf (ρ' := [(0, _), (1, _), (5, _), (6, _)]) ⟨rfl, rfl, rfl, rfl, trivial⟩ ?_)
      refine Zae ?_
      refine ⟨m - 1, [(0, _), (1, _), (5, _), (6, _)], [], by omega, ⟨rfl, rfl, rfl, rfl, trivial⟩, trivial, i + 1, by omega, hle3, k, (by first | rfl | simp), (by first | rfl | (simp only [List.cons.injEq, Prod.mk.injEq, SV.v.injEq, Value.int.injEq, true_and, and_true]; omega) | simp), ?_⟩
      have z1 : e1 = 0 := Decidable.of_not_not (of_decide_eq_false hb8)
      have z2 : e2 = 0 := Decidable.of_not_not (of_decide_eq_false hb11)
      obtain ⟨w1, w2, w3⟩ := he1 z1
      exact ⟨rfl, fun h => hinv (okL_step hg (by unfold okI1; exact ⟨w1, w2, he2 z2⟩) w3 h)⟩
  ·
   have hge := of_decide_eq_false hb3
   rw [List.drop_eq_nil_of_le (by omega)] at hinv
   refine Zao ?_
   refine Zm (Zm ?_)
   refine Zaa ?_
   refine Zc (Zd (Za (ya rfl rfl (Zf (ρ' := [(4, _)]) ⟨rfl, trivial⟩ ?_))))
   refine Zc (Zx (Zau (.tmp rfl) ?_))
   first
   | exact ⟨_, rfl, fun h => absurd h (by decide)⟩
   | exact ⟨_, rfl, fun h => absurd h (of_decide_eq_true hb11)⟩
   | exact ⟨_, rfl, fun h => absurd h (of_decide_eq_true hb8)⟩
   | exact ⟨_, rfl, fun h => hinv (by unfold okL; trivial)⟩
theorem kline_fn (v : Value) (xs : List Inl) (u : View) (hbig : szI xs ≤ 100000) (hsm : smI xs) (ha : InlS u v xs) :
  FnP Tryz.prog 5 [v] u fun r _ => ∃ e : Int, r = .int .i64 e ∧ (e = 0 → okL 0 xs) := by
 refine FnP.intro [.tmp 2] Tryz.func5 rfl rfl rfl ?_
 intro w0 D hw0
 refine Zd (Za (ya rfl rfl (Zf (ρ' := [(0, _)]) ⟨rfl, trivial⟩ ?_)))
 refine Zc (Zd (Za (ym rfl rfl (Zt rfl rfl ?_))))
 refine Zu (caps := []) trivial rfl rfl Tryz.c11 rfl (FnP.mono (lineList_fn (szI xs) v xs 0 u (Nat.le_refl _) hbig hsm (by omega) (by omega) ha) ?_)
 rintro v u1 hle1 ⟨e, rfl, he⟩
 refine ya rfl rfl (Zf (ρ' := [(2, _)]) ⟨rfl, trivial⟩ ?_)
 refine Zc (Zx (Zau (.tmp rfl) ?_))
 exact ⟨_, rfl, he⟩
set_option linter.unusedSimpArgs false
set_option linter.unusedVariables false
set_option maxRecDepth 4000
theorem okL_wf : ∀ (xs : List Inl) (bf : Int), okL bf xs → WfL xs
 | [], bf, h => trivial
 | x :: xs, bf, h => by
  unfold okL at h
  obtain ⟨h1, h2, h3⟩ := h
  obtain ⟨k, t, d, ti, a, args, cites, kids⟩ := x
  unfold okI1 at h1
  obtain ⟨hf, htx, -⟩ := h1
  refine ⟨fun hk => ?_, fun hk y hy => ?_, okL_wf xs _ h3⟩
  ·
   have hk' : k = 1 := hk
   subst hk'
   obtain ⟨t1, t2⟩ : t ≠ [] ∧ (10 : UInt8) ∉ t := htx rfl
   refine ⟨t, ?_, t1, t2⟩
   have hf2 : fF8 1 t d ti a kids.length args.length cites.length = true := hf
   simp [fF8, fF7, fF6, fF5, fF4, fF3, fF2, fF1, inB, noA] at hf2
   obtain ⟨⟨⟨⟨⟨e1, e2⟩, e3⟩, e4⟩, e5⟩, e6⟩ := hf2
   obtain ⟨i, c, p⟩ := a
   simp_all [tI]
  ·
   intro hy1
   cases xs with
   | nil => simp at hy
   | cons z zs =>
    rw [List.head?_cons, Option.some.injEq] at hy
    subst hy
    unfold okL at h3
    obtain ⟨k2, t2, d2, ti2, a2, args2, cites2, kids2⟩ := z
    exact h3.2.1 hy1 hk
theorem two_sm {a b : List Inl} (h : DSm ⟨[], [lineB a, lineB b]⟩) : (szI a ≤ 120 ∧ smI a) ∧ szI b ≤ 120 ∧ smI b := by
 obtain ⟨-, -, h1, h2⟩ := h
 simp [lineB, szB, szb] at h1
 simp [lineB, smB, smB1] at h2
 exact ⟨⟨by omega, h2.1.2.2.2⟩, by omega, h2.2.2.2.2⟩
theorem BlksC.two {u : View} {x y : Blk} {c d : List Value} (h : BlkC u x c) (k : BlkC u y d) : BlksC u [x, y] (c ++ d) := (BlksC.one h).append (BlksC.one k)
set_option maxHeartbeats 8000000 in
theorem diffSame_fn (a b : List Inl) (hal : a.length ≤ 140737488351232) (hbl : b.length ≤ 140737488351232) (va vb : Value) (u : View) (hT : TabU u) (ha : InlS u va a) (hb : InlS u vb b) :
  FnP Tryz.prog 3 [va, vb] u fun r _ => r = .bool true := by
 have ha2 := ha
 have hb2 := hb
 obtain ⟨csA, ⟨aA, cA, rfl, -⟩, -⟩ := ha2
 obtain ⟨csB, ⟨aB, cB, rfl, -⟩, -⟩ := hb2
 refine FnP.intro [.tmp 4] Tryz.func3 rfl rfl rfl ?_
 intro w0 D hw0
 refine Zd (Za (ya rfl rfl (Zf (ρ' := [(0, _), (1, _)]) ⟨rfl, rfl, trivial⟩ ?_)))
 refine Zc (Zd (Zd (Za (ym rfl rfl (Zg (Zav rfl Tryz.f30' Tryz.z30 (ps := [(_, _)]) rfl (vs := [_, _, _, _, _, _, _, _, _, _, _]) rfl) rfl ?_)))))
 refine ym rfl rfl (Zg (Zav rfl Tryz.f30' Tryz.z30 (ps := [(_, _)]) rfl (vs := [_, _, _, _, _, _, _, _, _, _, _]) rfl) rfl ?_)
 refine Zt rfl rfl ?_
 refine Zag trivial Tryz.s28 Tryz.z30 (ps := [(_, _), (_, _)]) rfl (xs := [_, _, _, _, _, _, _, _, _, _, _, _, _, _, _, _, _, _, _, _, _, _]) rfl rfl rfl rfl rfl rfl rfl ?_
 refine Zba 9 rfl ?_
 intro ad9 cap9 u9 hle9z hsl9
 refine Zg (Zav rfl Tryz.f32' Tryz.z32 (ps := [(_, _)]) rfl (vs := [_, _]) rfl) rfl ?_
 refine Zt rfl rfl ?_
 refine Zu (caps := []) trivial rfl rfl Tryz.c4 rfl (FnP.mono (small_fn ⟨[], [lineB a, lineB b]⟩ _ _ u9 (nilPr _) ⟨_, ⟨_, _, rfl, hsl9⟩, BlksC.two (lineB_C hal (ha.mono hle9z)) (lineB_C hbl (hb.mono hle9z))⟩ ⟨⟨by simp, by simp⟩, by simp⟩) ?_)
 rintro v u1 hle1 ⟨bs, rfl, hbs⟩
 refine Zg (Zbu rfl rfl) rfl (ym rfl rfl ?_)
 refine Zab 13 rfl (fun hg1_8 => ?_) (fun hg1_8 => ?_)
 ·
  iterate 3 refine Zp rfl rfl rfl rfl ?_
  refine Zg (Zk rfl rfl rfl) rfl (ym rfl rfl ?_)
  iterate 3 refine Zp rfl rfl rfl rfl ?_
  refine Zg (Zk rfl rfl rfl) rfl (Zf (ρ' := [(0, _), (1, _), (22, _)]) ⟨rfl, rfl, rfl, trivial⟩ ?_)
  refine Zc (Zbc rfl (rfl) (Zd (Za (Zt rfl rfl ?_))))
  refine Zu (caps := []) trivial rfl rfl Tryz.c6 rfl (FnP.mono (awake_fn u9 (hT.mono hle9z)) ?_)
  rintro v u1 hle1 rfl
  refine ya rfl rfl (Zf (ρ' := [(4, _)]) ⟨rfl, trivial⟩ ?_)
  refine Zc (Zx (Zh (Zau (.tmp rfl) ?_)))
  rfl
 ·
  refine Zj rfl rfl (ym rfl rfl ?_)
  have hS := two_sm (hbs (by cases bs; cases hg1_8; rfl))
  refine Zj rfl rfl (Zt rfl rfl ?_)
  refine Zu (caps := []) trivial rfl rfl Tryz.c5 rfl (FnP.mono (kline_fn _ a u9 (by omega) hS.1.2 (ha.mono hle9z)) ?_)
  rintro v u1 hle1 ⟨e1, rfl, he1⟩
  refine Zj rfl rfl (Zg (y_neq rfl rfl rfl) rfl (Zg (Zo rfl rfl rfl) rfl (ym rfl rfl ?_)))
  refine Zab 18 rfl (fun hg1_13 => ?_) (fun hg1_13 => ?_)
  ·
   iterate 3 refine Zp rfl rfl rfl rfl ?_
   refine Zg (Zk rfl rfl rfl) rfl (Zf (ρ' := [(0, _), (1, _), (22, _)]) ⟨rfl, rfl, rfl, trivial⟩ ?_)
   refine Zc (Zbc rfl (rfl) (Zd (Za (Zt rfl rfl ?_))))
   refine Zu (caps := []) trivial rfl rfl Tryz.c6 rfl (FnP.mono (awake_fn u9 (hT.mono hle9z)) ?_)
   rintro v u1 hle1 rfl
   refine ya rfl rfl (Zf (ρ' := [(4, _)]) ⟨rfl, trivial⟩ ?_)
   refine Zc (Zx (Zh (Zau (.tmp rfl) ?_)))
   rfl
  ·
   refine Zj rfl rfl (ym rfl rfl (Zj rfl rfl (Zt rfl rfl ?_)))
   refine Zu (caps := []) trivial rfl rfl Tryz.c5 rfl (FnP.mono (kline_fn _ b u9 (by omega) hS.2.2 (hb.mono hle9z)) ?_)
   rintro v u1 hle1 ⟨e2, rfl, he2⟩
   refine Zj rfl rfl (Zg (y_neq rfl rfl rfl) rfl (Zg (Zo rfl rfl rfl) rfl (Zf (ρ' := [(0, _), (1, _), (22, _)]) ⟨rfl, rfl, rfl, trivial⟩ ?_)))
   refine Zc ?_
   refine Zr rfl (fun hb1 => ?_) (fun hb1 => ?_)
   ·
    refine Zd (Za (Zt rfl rfl ?_))
    refine Zu (caps := []) trivial rfl rfl Tryz.c6 rfl (FnP.mono (awake_fn u9 (hT.mono hle9z)) ?_)
    rintro v u1 hle1 rfl
    refine ya rfl rfl (Zf (ρ' := [(4, _)]) ⟨rfl, trivial⟩ ?_)
    refine Zc (Zx (Zh (Zau (.tmp rfl) ?_)))
    rfl
   ·
    refine Zs (Zc (Zd (Za ?_)))
    have hW1 := okL_wf a 0 (he1 (Decidable.of_not_not (of_decide_eq_false hg1_13)))
    have hW2 := okL_wf b 0 (he2 (Decidable.of_not_not (of_decide_eq_false hb1)))
    have hla := len_szI a
    have hlb := len_szI b
    have hwa := words_len hS.1.2
    have hwb := words_len hS.2.2
    refine ym rfl rfl (Zt rfl rfl ?_)
    refine Zbl (caps := []) trivial rfl rfl Tryz.c8 rfl (FnP.mono (words_fn a (by omega) hS.1.2 (eI_bound hS.1.1 hS.1.2 ha) _ u9 (hT.mono hle9z) (ha.mono hle9z)) ?_)
    rintro v uA hle0 h1 hleA
    refine ym rfl rfl (Zt rfl rfl ?_)
    refine Zbl (caps := []) trivial rfl rfl Tryz.c8 rfl (FnP.mono (words_fn b (by omega) hS.2.2 (eI_bound hS.2.1 hS.2.2 hb) _ uA (hT.mono (hle9z.trans hleA)) (hb.mono (hle9z.trans hleA))) ?_)
    rintro v uB hle0 h2 hleB
    refine Zt rfl rfl ?_
    refine Zu (caps := []) trivial rfl rfl Tryz.c7 rfl (FnP.mono (lawTexts_fn (wordsL a) (wordsL b) (by omega) (by omega) _ _ uB (h1.mono hleB) h2) ?_)
    rintro v u1 hle1 rfl
    refine ym rfl rfl (ym rfl rfl (Zt rfl rfl ?_))
    refine Zu (caps := []) trivial rfl rfl Tryz.c9 rfl (FnP.mono (sameLine_dec (szI a) _ _ a b (Nat.le_refl _) hal uB (ha.mono (hle9z.trans (hleA.trans hleB))) (hb.mono (hle9z.trans (hleA.trans hleB)))) ?_)
    rintro v u1 hle1 ⟨sb, rfl, hsb⟩
    refine Zg (y_bool_eql rfl rfl rfl Tryz.b4) rfl ?_
    have hbool : (decide (wordsL a = wordsL b) == sb) = true := by
     have : decide (wordsL a = wordsL b) = sb := by
      rw [Bool.eq_iff_iff, hsb]
      simp only [decide_eq_true_eq]
      exact ⟨words_inj a b hW1 hW2, fun e => by rw [e]⟩
     rw [this]; simp
    rw [hbool]
    refine ym rfl rfl (Zj rfl rfl (Zt rfl rfl ?_))
    refine Zu (caps := []) trivial rfl rfl Tryz.c6 rfl (FnP.mono (awake_fn uB (hT.mono (hle9z.trans (hleA.trans hleB)))) ?_)
    rintro v u1 hle1 rfl
    refine Zg (Zk rfl rfl rfl) rfl (ya rfl rfl (Zf (ρ' := [(4, _)]) ⟨rfl, trivial⟩ ?_))
    refine Zc (Zx (Zau (.tmp rfl) ?_))
    rfl
end Go.Proofs.Ytekkhlepbacapaa
