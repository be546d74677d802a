/- Texts for a law, part 7: they walk the functions that the law reaches, and state what holds of them; without conditions beyond each theorem's own. -/
import Derived.Test.YthkgcakpjknlbaaGreatDoorSartF
import Derived.Lib.LaidTab
import Derived.ChangeMaps5
namespace Go.Proofs.Ythkgcakpjknlbaa
open Go Go.Eng
set_option linter.unusedSimpArgs false
set_option linter.unusedVariables false
set_option maxRecDepth 4000
theorem cites_fn (v : Value) (l : List DCite) (hl : l.length ≤ 9) (hb : ∀ c ∈ l, c.key.length + c.pre.length + c.suf.length ≤ 50000) (u : View) (h : CiS u v l) : FnP Tryz.prog 168 [v] u fun r _ => ∃ e : Int, r = .int .i64 e := by
 obtain ⟨ad, cap, rfl, h1⟩ := h
 refine FnP.intro [.tmp 2] Tryz.func168 rfl rfl rfl ?_
 intro w0 D hw0
 refine Zd (Za (ya rfl rfl (Zf (ρ' := [(0, _)]) ⟨rfl, trivial⟩ ?_)))
 refine Zc (Zd (Zd (Za (ym rfl rfl (Zg (Zaq rfl rfl Tryz.s40 rfl) rfl (Zg (Zaw rfl rfl rfl) rfl (Zf (ρ' := [(0, _), (7, _)]) ⟨rfl, rfl, trivial⟩ ?_)))))))
 refine Zc ?_
 refine Zo rfl (fun hb1 => ?_) (fun hb1 => ?_)
 ·
  refine Zd (Za (ya rfl rfl (Zf (ρ' := [(2, _)]) ⟨rfl, trivial⟩ ?_)))
  refine Zc (Zw (Zj (Zbe (.tmp rfl) ?_)))
  exact ⟨_, rfl⟩
 ·
  refine Zr (Zc (Zd (Zd (Za (ya rfl rfl (Zf (ρ' := [(0, _), (3, _)]) ⟨rfl, rfl, trivial⟩ ?_))))))
  refine Zc (Zad ?_)
  refine Zbc (fun m ρ σ u' => ∃ i : Nat, i + m = l.length ∧ VLe u u' ∧ σ = [] ∧ ρ = [(0, .v (.slice ad l.length cap)), (3, .v (.int .i64 i))] ∧ (u = u')) (l.length) ?_ ?_
  ·
   refine ⟨[(0, _), (3, _)], [], ⟨rfl, rfl, trivial⟩, trivial, 0, by omega, VLe.refl _, (by first | rfl | simp), (by first | rfl | (simp only [List.cons.injEq, Prod.mk.injEq, SV.v.injEq, Value.int.injEq, true_and, and_true]; omega) | simp), ?_⟩
   rfl
  ·
   rintro m ρ σ u' ⟨i, hi4, hle4, rfl, rfl, rfl⟩
   refine Zd (Zd (Za (ym rfl rfl (ym rfl rfl (Zg (Zaq rfl rfl Tryz.s40 rfl) rfl (Zg (Zbn rfl rfl rfl) rfl (Zf (ρ' := [(0, _), (3, _), (11, _)]) ⟨rfl, rfl, rfl, trivial⟩ ?_)))))))
   refine Zc ?_
   refine Zo rfl (fun hb4 => ?_) (fun hb4 => ?_)
   ·
    have hlt : i < l.length := by have := of_decide_eq_true hb4; omega
    have hg := List.getElem?_eq_getElem hlt
    have hcc := cut_citesC hg
    have hsl := hb _ (List.mem_of_getElem? hg)
    refine Zr (Zc (Zd (Zad (Zd (Za (ym rfl rfl (ym rfl rfl ?_)))))))
    refine Zg (Zai rfl Tryz.s40 rfl rfl (by assumption) (by first | rfl | omega) (by omega)) rfl (Zg (Zag rfl Tryz.k124 rfl (by assumption) (by omega) (by assumption) (vs := [_, _, _, _]) rfl rfl rfl rfl) rfl (Zv rfl rfl ?_))
    refine Zas trivial Tryz.z124 rfl rfl rfl ?_
    refine Zv rfl rfl ?_
    refine Zm trivial rfl Tryz.k124 rfl rfl rfl (vs := [_, _, _, _]) rfl rfl (by first | rfl | assumption | simp [Value.oneCell', str]) (Nat.le_of_ble_eq_true rfl) rfl ?_
    refine Zf (ρ' := [(0, _), (3, _), (4, _)]) ⟨rfl, rfl, rfl, trivial⟩ ?_
    refine Zc (Zd (Zd (Za (Zg (Zh rfl Tryz.f124' rfl (by decide) rfl) rfl (Zg (Zi rfl Tryz.k9 rfl rfl rfl (vs := [_]) rfl rfl rfl) rfl (Zv rfl rfl ?_))))))
    refine Zaa (caps := []) trivial rfl rfl Tryz.c34 rfl (FnP.mono (name_fn _ (by omega) u) ?_)
    rintro v u1 hle1 ⟨b1, rfl, _⟩
    refine Zg (Zbr rfl rfl) rfl (Zf (ρ' := [(0, _), (3, _), (4, _), (21, _)]) ⟨rfl, rfl, rfl, rfl, trivial⟩ ?_)
    refine Zc ?_
    refine Zo rfl (fun hb7 => ?_) (fun hb7 => ?_)
    ·
     refine Zd (Za (ya rfl rfl (Zf (ρ' := [(2, _)]) ⟨rfl, trivial⟩ ?_)))
     refine Zc (Zw (Zj (Zu (Zj (Zj (Zu (Zj ?_)))))))
     refine Zbe (.tmp rfl) ?_
     exact ⟨_, rfl⟩
    ·
     refine Zr (Zc (Zd (Za ?_)))
     refine Zbh 32 53 (fun _ => True) (ρk := [(0, _), (3, _)]) ⟨rfl, rfl, trivial⟩ ?_ fun mb9_31 hm9_31 => ?_
     ·
      refine Zg (Zh rfl Tryz.f124' rfl (by decide) rfl) rfl (Zg (Zi rfl Tryz.k9 rfl rfl rfl (vs := [_]) rfl rfl rfl) rfl (Zv rfl rfl ?_))
      refine Zaa (caps := []) trivial rfl rfl Tryz.c35 rfl (FnP.mono (line4_fn _ (by omega) u) ?_)
      rintro v u1 hle1 ⟨b2, rfl, _⟩
      refine Zg (Zbr rfl rfl) rfl (ym rfl rfl ?_)
      refine Zae 26 rfl (fun hg9_4 => ?_) (fun hg9_4 => ?_)
      ·
       iterate 4 refine Zt rfl rfl rfl rfl ?_
       refine Zg (Zl rfl rfl rfl) rfl (ym rfl rfl ?_)
       iterate 3 refine Zt rfl rfl rfl rfl ?_
       refine Zg (Zl rfl rfl rfl) rfl (ym rfl rfl ?_)
       iterate 4 refine Zt rfl rfl rfl rfl ?_
       refine Zg (Zl rfl rfl rfl) rfl (ym rfl rfl ?_)
       iterate 4 refine Zt rfl rfl rfl rfl ?_
       refine Zg (Zl rfl rfl rfl) rfl (ym rfl rfl ?_)
       iterate 3 refine Zt rfl rfl rfl rfl ?_
       refine Zg (Zl rfl rfl rfl) rfl ?_
       exact Zac rfl ⟨rfl, rfl, trivial⟩ (trivial)
      ·
       refine Zk rfl rfl (Zg (Zh rfl Tryz.f124' rfl (by decide) rfl) rfl (Zk rfl rfl (Zg (Zi rfl Tryz.k9 rfl rfl rfl (vs := [_]) rfl rfl rfl) rfl (Zk rfl rfl (Zv rfl rfl ?_)))))
       refine Zaa (caps := []) trivial rfl rfl Tryz.c36 rfl (FnP.mono (trimmed4_fn _ (by omega) u) ?_)
       rintro v u1 hle1 ⟨b3, rfl⟩
       refine Zk rfl rfl (Zg (Zbr rfl rfl) rfl (Zg (Zn rfl rfl rfl) rfl (ym rfl rfl ?_)))
       refine Zae 32 rfl (fun hg9_10 => ?_) (fun hg9_10 => ?_)
       ·
        iterate 3 refine Zt rfl rfl rfl rfl ?_
        refine Zg (Zl rfl rfl rfl) rfl (ym rfl rfl ?_)
        iterate 4 refine Zt rfl rfl rfl rfl ?_
        refine Zg (Zl rfl rfl rfl) rfl (ym rfl rfl ?_)
        iterate 4 refine Zt rfl rfl rfl rfl ?_
        refine Zg (Zl rfl rfl rfl) rfl (ym rfl rfl ?_)
        iterate 3 refine Zt rfl rfl rfl rfl ?_
        refine Zg (Zl rfl rfl rfl) rfl ?_
        exact Zac rfl ⟨rfl, rfl, trivial⟩ (trivial)
       ·
        refine Zk rfl rfl (Zg (Zh rfl Tryz.f124' rfl (by decide) rfl) rfl (Zk rfl rfl (Zg (Zi rfl Tryz.k9 rfl rfl rfl (vs := [_]) rfl rfl rfl) rfl (Zk rfl rfl (Zv rfl rfl ?_)))))
        refine Zaa (caps := []) trivial rfl rfl Tryz.c141 rfl (FnP.mono (khas_fn _ _ (by omega) (by decide) u) ?_)
        rintro v u1 hle1 ⟨b4, rfl⟩
        refine Zg (Zn rfl rfl rfl) rfl (ym rfl rfl ?_)
        refine Zae 37 rfl (fun hg9_15 => ?_) (fun hg9_15 => ?_)
        ·
         iterate 4 refine Zt rfl rfl rfl rfl ?_
         refine Zg (Zl rfl rfl rfl) rfl (ym rfl rfl ?_)
         iterate 4 refine Zt rfl rfl rfl rfl ?_
         refine Zg (Zl rfl rfl rfl) rfl (ym rfl rfl ?_)
         iterate 3 refine Zt rfl rfl rfl rfl ?_
         refine Zg (Zl rfl rfl rfl) rfl ?_
         exact Zac rfl ⟨rfl, rfl, trivial⟩ (trivial)
        ·
         refine Zk rfl rfl (Zg (Zh rfl Tryz.f124' rfl (by decide) rfl) rfl (Zk rfl rfl (Zg (Zi rfl Tryz.k9 rfl rfl rfl (vs := [_]) rfl rfl rfl) rfl (Zk rfl rfl (Zv rfl rfl ?_)))))
         refine Zaa (caps := []) trivial rfl rfl Tryz.c35 rfl (FnP.mono (line4_fn _ (by omega) u) ?_)
         rintro v u1 hle1 ⟨b5, rfl, _⟩
         refine Zk rfl rfl (Zg (Zbr rfl rfl) rfl (Zg (Zn rfl rfl rfl) rfl (ym rfl rfl ?_)))
         refine Zae 43 rfl (fun hg9_21 => ?_) (fun hg9_21 => ?_)
         ·
          iterate 4 refine Zt rfl rfl rfl rfl ?_
          refine Zg (Zl rfl rfl rfl) rfl (ym rfl rfl ?_)
          iterate 3 refine Zt rfl rfl rfl rfl ?_
          refine Zg (Zl rfl rfl rfl) rfl ?_
          exact Zac rfl ⟨rfl, rfl, trivial⟩ (trivial)
         ·
          refine Zk rfl rfl (Zg (Zh rfl Tryz.f124' rfl (by decide) rfl) rfl (Zk rfl rfl (Zg (Zi rfl Tryz.k9 rfl rfl rfl (vs := [_]) rfl rfl rfl) rfl (Zk rfl rfl (Zv rfl rfl ?_)))))
          refine Zaa (caps := []) trivial rfl rfl Tryz.c36 rfl (FnP.mono (trimmed4_fn _ (by omega) u) ?_)
          rintro v u1 hle1 ⟨b6, rfl⟩
          refine Zk rfl rfl (Zg (Zbr rfl rfl) rfl (Zg (Zn rfl rfl rfl) rfl (ym rfl rfl ?_)))
          refine Zae 49 rfl (fun hg9_27 => ?_) (fun hg9_27 => ?_)
          ·
           iterate 3 refine Zt rfl rfl rfl rfl ?_
           refine Zg (Zl rfl rfl rfl) rfl ?_
           exact Zac rfl ⟨rfl, rfl, trivial⟩ (trivial)
          ·
           refine Zk rfl rfl (Zg (Zh rfl Tryz.f124' rfl (by decide) rfl) rfl (Zk rfl rfl (Zg (Zi rfl Tryz.k9 rfl rfl rfl (vs := [_]) rfl rfl rfl) rfl (Zk rfl rfl (Zv rfl rfl ?_)))))
           refine Zaa (caps := []) trivial rfl rfl Tryz.c141 rfl (FnP.mono (khas_fn _ _ (by omega) (by decide) u) ?_)
           rintro v u1 hle1 ⟨b7, rfl⟩
           refine Zg (Zn rfl rfl rfl) rfl ?_
           exact Zac rfl ⟨rfl, rfl, trivial⟩ (trivial)
     refine Zf (ρ' := [(0, _), (3, _), (53, _)]) ⟨rfl, rfl, rfl, trivial⟩ ?_
     refine Zc ?_
     refine Zo rfl (fun hb9 => ?_) (fun hb9 => ?_)
     ·
      refine Zd (Za (ya rfl rfl (Zf (ρ' := [(2, _)]) ⟨rfl, trivial⟩ ?_)))
      refine Zc (Zw (Zu (Zj (Zj (Zu (Zj (Zbe (.tmp rfl) ?_)))))))
      exact ⟨_, rfl⟩
     ·
      refine Zr (Zah (Zc (Za (ym rfl rfl (Zg (Zav rfl rfl rfl (Zs (by omega))) rfl ?_)))))
      refine ya rfl rfl (Zf (ρ' := [(0, _), (3, _)]) ⟨rfl, rfl, trivial⟩ ?_)
      refine Zab ?_
      refine ⟨m - 1, [(0, _), (3, _)], [], by omega, ⟨rfl, rfl, trivial⟩, trivial, i + 1, by omega, hle4, (by first | rfl | simp), (by first | rfl | (simp only [List.cons.injEq, Prod.mk.injEq, SV.v.injEq, Value.int.injEq, true_and, and_true]; omega) | simp), ?_⟩
      rfl
   ·
    skip
    refine Zax ?_
    refine Zq (Zq ?_)
    refine Zaf ?_
    refine Zc (Zd (Za (ya rfl rfl (Zf (ρ' := [(2, _)]) ⟨rfl, trivial⟩ ?_))))
    refine Zc (Zw (Zbe (.tmp rfl) ?_))
    exact ⟨_, rfl⟩
structure InlK (u : View) (a : DAttr) (args : List Bs) (cites : List DCite) (kids : List Inl) (vc vp va vt vk : Value) (t d ti : Bs) : Prop where
 s1 : StrS u vc a.classes
 s2 : PrS u vp a.pairs
 s3 : StrS u va args
 s4 : CiS u vt cites
 s5 : InlS u vk kids
 sm : NodeSm t d ti a args cites
 sz : szI kids ≤ 100000
theorem ktarget_fn (k : Int) (t d ti : Bs) (a : DAttr) (args : List Bs) (cites : List DCite) (kids : List Inl) (vc vp va vt vk : Value) (u : View) (h : InlK u a args cites kids vc vp va vt vk t d ti) :
  FnP Tryz.prog 166 [.agg (inlV k t d ti a.id vc vp va vt vk).toArray] u fun r _ => ∃ e : Int, r = .int .i64 e := by
 obtain ⟨s1, s2, s3, s4, s5, ⟨q1, q2, q3, q4, q5, q6, q7, q8⟩, hsz⟩ := h
 refine FnP.intro [.tmp 2] Tryz.func166 rfl rfl rfl ?_
 intro w0 D hw0
 refine Zd (Za (Zv rfl rfl ?_))
 refine Zbx trivial rfl (cs := [_, _, _, _, _, _, _, _, _, _]) rfl rfl rfl rfl ?_
 refine ya rfl rfl (Zf (ρ' := [(1, _)]) ⟨rfl, trivial⟩ ?_)
 refine Zc (Zd (Zd (Za ?_)))
 refine Zbh 13 15 (fun _ => True) (ρk := [(1, _)]) ⟨rfl, trivial⟩ ?_ fun mb1_12 hm1_12 => ?_
 ·
  refine Zg (Zh rfl Tryz.f42' rfl (by decide) rfl) rfl (Zg (Zi rfl Tryz.k9 rfl rfl rfl (vs := [_]) rfl rfl rfl) rfl (Zg (Zbv rfl rfl rfl) rfl (ym rfl rfl ?_)))
  refine Zae 6 rfl (fun hg1_3 => ?_) (fun hg1_3 => ?_)
  ·
   refine Zk rfl rfl (Zg (Zh rfl Tryz.f42' rfl (by decide) rfl) rfl (Zk rfl rfl (Zg (Zi rfl Tryz.k9 rfl rfl rfl (vs := [_]) rfl rfl rfl) rfl (Zk rfl rfl (Zg (Zbv rfl rfl rfl) rfl (Zk rfl rfl (ym rfl rfl ?_)))))))
   refine Zae 10 rfl (fun hg1_7 => ?_) (fun hg1_7 => ?_)
   ·
    iterate 3 refine Zt rfl rfl rfl rfl ?_
    refine Zk rfl rfl (Zg (Zl rfl rfl rfl) rfl (Zg (Zl rfl rfl rfl) rfl ?_))
    exact Zac rfl ⟨rfl, trivial⟩ (trivial)
   ·
    refine Zk rfl rfl (Zg (Zh rfl Tryz.f42' rfl (by decide) rfl) rfl (Zk rfl rfl (Zg (Zi rfl Tryz.k9 rfl rfl rfl (vs := [_]) rfl rfl rfl) rfl (Zk rfl rfl (Zg (Zbv rfl rfl rfl) rfl (Zk rfl rfl (Zg (Zn rfl rfl rfl) rfl ?_)))))))
    refine Zg (Zl rfl rfl rfl) rfl ?_
    exact Zac rfl ⟨rfl, trivial⟩ (trivial)
  ·
   iterate 4 refine Zt rfl rfl rfl rfl ?_
   iterate 3 refine Zbg rfl rfl rfl ?_
   refine Zt rfl rfl rfl rfl (Zg (Zn rfl rfl rfl) rfl ?_)
   exact Zac rfl ⟨rfl, trivial⟩ (trivial)
 refine Zf (ρ' := [(1, _), (15, _)]) ⟨rfl, rfl, trivial⟩ ?_
 refine Zc ?_
 refine Zo rfl (fun hb1 => ?_) (fun hb1 => ?_)
 ·
  refine Zd (Za (ya rfl rfl (Zf (ρ' := [(2, _)]) ⟨rfl, trivial⟩ ?_)))
  refine Zc (Zw (Zj (Zbe (.tmp rfl) ?_)))
  exact ⟨_, rfl⟩
 ·
  refine Zr (Zc (Zd (Zd (Za ?_))))
  refine Zbh 9 24 (fun _ => True) (ρk := [(1, _)]) ⟨rfl, trivial⟩ ?_ fun mb3_8 hm3_8 => ?_
  ·
   refine Zg (Zh rfl Tryz.f42' rfl (by decide) rfl) rfl (Zg (Zi rfl Tryz.k9 rfl rfl rfl (vs := [_]) rfl rfl rfl) rfl (Zg (Zbv rfl rfl rfl) rfl (ym rfl rfl ?_)))
   refine Zae 19 rfl (fun hg3_3 => ?_) (fun hg3_3 => ?_)
   ·
    refine Zk rfl rfl (Zg (Zh rfl Tryz.f42' rfl (by decide) rfl) rfl (Zk rfl rfl (Zg (Zi rfl Tryz.k9 rfl rfl rfl (vs := [_]) rfl rfl rfl) rfl (Zk rfl rfl (Zv rfl rfl ?_)))))
    refine Zaa (caps := []) trivial rfl rfl Tryz.c123 rfl (FnP.mono (label_fn t (by omega) u) ?_)
    rintro v u1 hle1 ⟨b1, rfl⟩
    refine Zk rfl rfl (Zg (Zbr rfl rfl) rfl (Zg (Zl rfl rfl rfl) rfl ?_))
    exact Zac rfl ⟨rfl, trivial⟩ (trivial)
   ·
    iterate 4 refine Zt rfl rfl rfl rfl ?_
    refine Zg (Zn rfl rfl rfl) rfl ?_
    exact Zac rfl ⟨rfl, trivial⟩ (trivial)
  refine Zf (ρ' := [(1, _), (24, _)]) ⟨rfl, rfl, trivial⟩ ?_
  refine Zc ?_
  refine Zo rfl (fun hb3 => ?_) (fun hb3 => ?_)
  ·
   refine Zd (Za (ya rfl rfl (Zf (ρ' := [(2, _)]) ⟨rfl, trivial⟩ ?_)))
   refine Zc (Zw (Zj (Zbe (.tmp rfl) ?_)))
   exact ⟨_, rfl⟩
  ·
   refine Zr (Zc (Zd (Zd (Za ?_))))
   refine Zbh 10 34 (fun _ => True) (ρk := [(1, _)]) ⟨rfl, trivial⟩ ?_ fun mb5_9 hm5_9 => ?_
   ·
    refine Zg (Zh rfl Tryz.f42' rfl (by decide) rfl) rfl (Zg (Zi rfl Tryz.k9 rfl rfl rfl (vs := [_]) rfl rfl rfl) rfl (Zv rfl rfl ?_))
    refine Zaa (caps := []) trivial rfl rfl Tryz.c35 rfl (FnP.mono (line4_fn d (by omega) u) ?_)
    rintro v u1 hle1 ⟨b2, rfl, _⟩
    refine Zg (Zbr rfl rfl) rfl (ym rfl rfl ?_)
    refine Zae 29 rfl (fun hg5_4 => ?_) (fun hg5_4 => ?_)
    ·
     iterate 4 refine Zt rfl rfl rfl rfl ?_
     refine Zg (Zl rfl rfl rfl) rfl ?_
     exact Zac rfl ⟨rfl, trivial⟩ (trivial)
    ·
     refine Zk rfl rfl (Zg (Zh rfl Tryz.f42' rfl (by decide) rfl) rfl (Zk rfl rfl (Zg (Zi rfl Tryz.k9 rfl rfl rfl (vs := [_]) rfl rfl rfl) rfl (Zk rfl rfl (Zv rfl rfl ?_)))))
     refine Zaa (caps := []) trivial rfl rfl Tryz.c35 rfl (FnP.mono (line4_fn ti (by omega) u) ?_)
     rintro v u1 hle1 ⟨b3, rfl, _⟩
     refine Zk rfl rfl (Zg (Zbr rfl rfl) rfl (Zg (Zn rfl rfl rfl) rfl ?_))
     exact Zac rfl ⟨rfl, trivial⟩ (trivial)
   refine Zf (ρ' := [(1, _), (34, _)]) ⟨rfl, rfl, trivial⟩ ?_
   refine Zc ?_
   refine Zo rfl (fun hb5 => ?_) (fun hb5 => ?_)
   ·
    refine Zd (Za (ya rfl rfl (Zf (ρ' := [(2, _)]) ⟨rfl, trivial⟩ ?_)))
    refine Zc (Zw (Zj (Zbe (.tmp rfl) ?_)))
    exact ⟨_, rfl⟩
   ·
    refine Zr (Zc (Zd (Zd (Za ?_))))
    refine Zbh 8 42 (fun _ => True) (ρk := [(1, _)]) ⟨rfl, trivial⟩ ?_ fun mb7_7 hm7_7 => ?_
    ·
     refine Zg (Zh rfl Tryz.f42' rfl (by decide) rfl) rfl (Zg (Zi rfl Tryz.k3 rfl rfl rfl (vs := [_]) rfl rfl rfl) rfl (Zg (Zaw rfl rfl rfl) rfl (ym rfl rfl ?_)))
     refine Zae 38 rfl (fun hg7_3 => ?_) (fun hg7_3 => ?_)
     ·
      refine Zk rfl rfl (Zg (Zh rfl Tryz.f42' rfl (by decide) rfl) rfl (Zk rfl rfl (Zg (Zi rfl Tryz.k35 rfl rfl rfl (vs := [_]) rfl rfl rfl) rfl (Zk rfl rfl (Zv rfl rfl ?_)))))
      refine Zaa (caps := []) trivial rfl rfl Tryz.c135 rfl (FnP.mono (anyOf_fn (szI kids) vk kids false u (Nat.le_refl _) (by omega) s5) ?_)
      rintro v u1 hle1 ⟨b4, rfl⟩
      refine Zg (Zl rfl rfl rfl) rfl ?_
      exact Zac rfl ⟨rfl, trivial⟩ (trivial)
     ·
      iterate 3 refine Zt rfl rfl rfl rfl ?_
      refine Zg (Zn rfl rfl rfl) rfl ?_
      exact Zac rfl ⟨rfl, trivial⟩ (trivial)
    refine Zf (ρ' := [(1, _), (42, _)]) ⟨rfl, rfl, trivial⟩ ?_
    refine Zc ?_
    refine Zo rfl (fun hb7 => ?_) (fun hb7 => ?_)
    ·
     refine Zd (Za (ya rfl rfl (Zf (ρ' := [(2, _)]) ⟨rfl, trivial⟩ ?_)))
     refine Zc (Zw (Zj (Zbe (.tmp rfl) ?_)))
     exact ⟨_, rfl⟩
    ·
     refine Zr (Zc (Zd (Zd (Za (Zg (Zh rfl Tryz.f42' rfl (by decide) rfl) rfl (Zg (Zi rfl Tryz.k3 rfl rfl rfl (vs := [_]) rfl rfl rfl) rfl (Zg (Zaw rfl rfl rfl) rfl (Zf (ρ' := [(1, _), (45, _)]) ⟨rfl, rfl, trivial⟩ ?_))))))))
     refine Zc ?_
     refine Zo rfl (fun hb9 => ?_) (fun hb9 => ?_)
     ·
      refine Zd (Za (Zg (Zh rfl Tryz.f42' rfl (by decide) rfl) rfl (Zg (Zi rfl Tryz.k39 rfl rfl rfl (vs := [_, _, _]) rfl rfl rfl) rfl (Zv rfl rfl ?_))))
      refine Zaa (caps := []) trivial rfl rfl Tryz.c121 rfl (FnP.mono (attrCheck_fn a vc vp ⟨by omega, q2, q3⟩ u s1 s2) ?_)
      rintro v u1 hle1 ⟨e, rfl⟩
      refine ya rfl rfl (Zf (ρ' := [(2, _)]) ⟨rfl, trivial⟩ ?_)
      refine Zc (Zw (Zj (Zbe (.tmp rfl) ?_)))
      exact ⟨_, rfl⟩
     ·
      refine Zr (Zc (Zd (Za (ya rfl rfl (Zf (ρ' := [(2, _)]) ⟨rfl, trivial⟩ ?_)))))
      refine Zc (Zw (Zbe (.tmp rfl) ?_))
      exact ⟨_, rfl⟩
theorem named_fn (k : Int) (t d ti : Bs) (a : DAttr) (args : List Bs) (cites : List DCite) (kids : List Inl) (vc vp va vt vk : Value) (u : View) (h : InlK u a args cites kids vc vp va vt vk t d ti) :
  FnP Tryz.prog 167 [.agg (inlV k t d ti a.id vc vp va vt vk).toArray] u fun r _ => ∃ e : Int, r = .int .i64 e := by
 obtain ⟨s1, s2, s3, s4, s5, ⟨q1, q2, q3, q4, q5, q6, q7, q8⟩, hsz⟩ := h
 obtain ⟨ad, cap, rfl, h3⟩ := s3
 refine FnP.intro [.tmp 2] Tryz.func167 rfl rfl rfl ?_
 intro w0 D hw0
 refine Zd (Za (Zv rfl rfl ?_))
 refine Zbx trivial rfl (cs := [_, _, _, _, _, _, _, _, _, _]) rfl rfl rfl rfl ?_
 refine ya rfl rfl (Zf (ρ' := [(1, _)]) ⟨rfl, trivial⟩ ?_)
 refine Zc (Zd (Zd (Za (Zg (Zh rfl Tryz.f42' rfl (by decide) rfl) rfl (Zg (Zi rfl Tryz.k9 rfl rfl rfl (vs := [_]) rfl rfl rfl) rfl (Zv rfl rfl ?_))))))
 refine Zaa (caps := []) trivial rfl rfl Tryz.c34 rfl (FnP.mono (name_fn t (by omega) u) ?_)
 rintro v u1 hle1 ⟨b1, rfl, _⟩
 refine Zg (Zbr rfl rfl) rfl (Zf (ρ' := [(1, _), (7, _)]) ⟨rfl, rfl, trivial⟩ ?_)
 refine Zc ?_
 refine Zo rfl (fun hb1 => ?_) (fun hb1 => ?_)
 ·
  refine Zd (Za (ya rfl rfl (Zf (ρ' := [(2, _)]) ⟨rfl, trivial⟩ ?_)))
  refine Zc (Zw (Zj (Zbe (.tmp rfl) ?_)))
  exact ⟨_, rfl⟩
 ·
  refine Zr (Zc (Zd (Zd (Za ?_))))
  refine Zbh 13 20 (fun _ => True) (ρk := [(1, _)]) ⟨rfl, trivial⟩ ?_ fun mb3_12 hm3_12 => ?_
  ·
   refine Zg (Zh rfl Tryz.f42' rfl (by decide) rfl) rfl (Zg (Zi rfl Tryz.k3 rfl rfl rfl (vs := [_]) rfl rfl rfl) rfl (Zg (Zaw rfl rfl rfl) rfl (ym rfl rfl ?_)))
   refine Zae 11 rfl (fun hg3_3 => ?_) (fun hg3_3 => ?_)
   ·
    refine Zk rfl rfl (Zg (Zh rfl Tryz.f42' rfl (by decide) rfl) rfl (Zk rfl rfl (Zg (Zi rfl Tryz.k9 rfl rfl rfl (vs := [_]) rfl rfl rfl) rfl (Zk rfl rfl (Zg (Zbv rfl rfl rfl) rfl (Zg (Zl rfl rfl rfl) rfl (ym rfl rfl ?_)))))))
    refine Zae 16 rfl (fun hg3_8 => ?_) (fun hg3_8 => ?_)
    ·
     refine Zk rfl rfl (Zg (Zh rfl Tryz.f42' rfl (by decide) rfl) rfl (Zk rfl rfl (Zg (Zi rfl Tryz.k9 rfl rfl rfl (vs := [_]) rfl rfl rfl) rfl (Zk rfl rfl (Zg (Zbv rfl rfl rfl) rfl (Zg (Zl rfl rfl rfl) rfl ?_))))))
     exact Zac rfl ⟨rfl, trivial⟩ (trivial)
    ·
     iterate 3 refine Zt rfl rfl rfl rfl ?_
     refine Zg (Zn rfl rfl rfl) rfl ?_
     exact Zac rfl ⟨rfl, trivial⟩ (trivial)
   ·
    iterate 3 refine Zt rfl rfl rfl rfl ?_
    refine Zg (Zn rfl rfl rfl) rfl (ym rfl rfl ?_)
    iterate 3 refine Zt rfl rfl rfl rfl ?_
    refine Zg (Zn rfl rfl rfl) rfl ?_
    exact Zac rfl ⟨rfl, trivial⟩ (trivial)
  refine Zf (ρ' := [(1, _), (20, _)]) ⟨rfl, rfl, trivial⟩ ?_
  refine Zc ?_
  refine Zo rfl (fun hb3 => ?_) (fun hb3 => ?_)
  ·
   refine Zd (Za (ya rfl rfl (Zf (ρ' := [(2, _)]) ⟨rfl, trivial⟩ ?_)))
   refine Zc (Zw (Zj (Zbe (.tmp rfl) ?_)))
   exact ⟨_, rfl⟩
  ·
   refine Zr (Zc (Zd (Zd (Za (Zg (Zh rfl Tryz.f42' rfl (by decide) rfl) rfl (Zg (Zi rfl Tryz.k37 rfl rfl rfl (vs := [_]) rfl rfl rfl) rfl (Zg (Zaq rfl rfl Tryz.s37 rfl) rfl ?_)))))))
   refine Zg (Zcn rfl rfl rfl) rfl (Zf (ρ' := [(1, _), (24, _)]) ⟨rfl, rfl, trivial⟩ ?_)
   refine Zc ?_
   refine Zo rfl (fun hb5 => ?_) (fun hb5 => ?_)
   ·
    refine Zd (Za (ya rfl rfl (Zf (ρ' := [(2, _)]) ⟨rfl, trivial⟩ ?_)))
    refine Zc (Zw (Zj (Zbe (.tmp rfl) ?_)))
    exact ⟨_, rfl⟩
   ·
    refine Zr (Zc (Zd (Zd (Za (ya rfl rfl (Zf (ρ' := [(1, _), (3, _)]) ⟨rfl, rfl, trivial⟩ ?_))))))
    refine Zc (Zad ?_)
    refine Zbc (fun m ρ σ u' => ∃ i : Nat, i + m = args.length ∧ VLe u u' ∧ σ = [(1, (none, .box (inlV k t d ti a.id vc vp (.slice ad args.length cap) vt vk)))] ∧ ρ = [(1, .p 1 0), (3, .v (.int .i64 i))] ∧ (u = u')) (args.length) ?_ ?_
    ·
     refine ⟨[(1, _), (3, _)], [(1, _)], ⟨rfl, rfl, trivial⟩, ⟨rfl, trivial⟩, 0, by omega, VLe.refl _, (by first | rfl | simp), (by first | rfl | (simp only [List.cons.injEq, Prod.mk.injEq, SV.v.injEq, Value.int.injEq, true_and, and_true]; omega) | simp), ?_⟩
     rfl
    ·
     rintro m ρ σ u' ⟨i, hi8, hle8, rfl, rfl, rfl⟩
     refine Zd (Zd (Za (ym rfl rfl (Zg (Zh rfl Tryz.f42' rfl (by decide) rfl) rfl (Zg (Zi rfl Tryz.k37 rfl rfl rfl (vs := [_]) rfl rfl rfl) rfl (Zg (Zaq rfl rfl Tryz.s37 rfl) rfl (Zg (Zbn rfl rfl rfl) rfl (Zf (ρ' := [(1, _), (3, _), (29, _)]) ⟨rfl, rfl, rfl, trivial⟩ ?_))))))))
     refine Zc ?_
     refine Zo rfl (fun hb8 => ?_) (fun hb8 => ?_)
     ·
      have hlt : i < args.length := by have := of_decide_eq_true hb8; omega
      have hg := List.getElem?_eq_getElem hlt
      have hcc := cut_strsC hg
      have hsl := q7 _ (List.mem_of_getElem? hg)
      refine Zr (Zc (Zd (Zad (Zd (Za ?_)))))
      refine Zbh 15 46 (fun _ => True) (ρk := [(1, _), (3, _)]) ⟨rfl, rfl, trivial⟩ ?_ fun mb10_14 hm10_14 => ?_
      ·
       refine Zg (Zh rfl Tryz.f42' rfl (by decide) rfl) rfl (Zg (Zi rfl Tryz.k37 rfl rfl rfl (vs := [_]) rfl rfl rfl) rfl (ym rfl rfl (Zg (Zai rfl Tryz.s37 rfl rfl (by assumption) (by first | rfl | omega) (by omega)) rfl (Zg (Zag rfl Tryz.k9 rfl (by assumption) (by omega) (by assumption) (vs := [_]) rfl rfl rfl rfl) rfl (Zv rfl rfl ?_)))))
       refine Zaa (caps := []) trivial rfl rfl Tryz.c35 rfl (FnP.mono (line4_fn _ (by omega) u) ?_)
       rintro v u1 hle1 ⟨b2, rfl, _⟩
       refine Zg (Zbr rfl rfl) rfl (ym rfl rfl ?_)
       refine Zae 39 rfl (fun hg10_7 => ?_) (fun hg10_7 => ?_)
       ·
        iterate 6 refine Zt rfl rfl rfl rfl ?_
        refine Zg (Zl rfl rfl rfl) rfl ?_
        exact Zac rfl ⟨rfl, rfl, trivial⟩ (trivial)
       ·
        refine Zk rfl rfl (Zg (Zh rfl Tryz.f42' rfl (by decide) rfl) rfl (Zk rfl rfl (Zg (Zi rfl Tryz.k37 rfl rfl rfl (vs := [_]) rfl rfl rfl) rfl (Zk rfl rfl (ym rfl rfl (Zk rfl rfl (Zg (Zai rfl Tryz.s37 rfl rfl (by assumption) (by first | rfl | omega) (by omega)) rfl ?_)))))))
        refine Zk rfl rfl (Zg (Zag rfl Tryz.k9 rfl (by assumption) (by omega) (by assumption) (vs := [_]) rfl rfl rfl rfl) rfl (Zk rfl rfl (Zv rfl rfl ?_)))
        refine Zaa (caps := []) trivial rfl rfl Tryz.c141 rfl (FnP.mono (khas_fn _ _ (by omega) (by decide) u) ?_)
        rintro v u1 hle1 ⟨b3, rfl⟩
        refine Zg (Zn rfl rfl rfl) rfl ?_
        exact Zac rfl ⟨rfl, rfl, trivial⟩ (trivial)
      refine Zf (ρ' := [(1, _), (3, _), (46, _)]) ⟨rfl, rfl, rfl, trivial⟩ ?_
      refine Zc ?_
      refine Zo rfl (fun hb10 => ?_) (fun hb10 => ?_)
      ·
       refine Zd (Za (ya rfl rfl (Zf (ρ' := [(2, _)]) ⟨rfl, trivial⟩ ?_)))
       refine Zc (Zw (Zu (Zj (Zj (Zu (Zj (Zbe (.tmp rfl) ?_)))))))
       exact ⟨_, rfl⟩
      ·
       refine Zr (Zah (Zc (Za (ym rfl rfl (Zg (Zav rfl rfl rfl (Zs (by omega))) rfl ?_)))))
       refine ya rfl rfl (Zf (ρ' := [(1, _), (3, _)]) ⟨rfl, rfl, trivial⟩ ?_)
       refine Zab ?_
       refine ⟨m - 1, [(1, _), (3, _)], [(1, _)], by omega, ⟨rfl, rfl, trivial⟩, ⟨rfl, trivial⟩, i + 1, by omega, hle8, (by first | rfl | simp), (by first | rfl | (simp only [List.cons.injEq, Prod.mk.injEq, SV.v.injEq, Value.int.injEq, true_and, and_true]; omega) | simp), ?_⟩
       rfl
     ·
      skip
      refine Zax ?_
      refine Zq (Zq ?_)
      refine Zaf ?_
      refine Zc (Zd (Za (ya rfl rfl (Zf (ρ' := [(2, _)]) ⟨rfl, trivial⟩ ?_))))
      refine Zc (Zw (Zbe (.tmp rfl) ?_))
      exact ⟨_, rfl⟩
def fF1 (k : Int) : Bool := decide (1 ≤ k) && decide (k ≤ 16)
def fF2 (k : Int) (t : Bs) : Bool := fF1 k && (inB k [1, 4, 5, 9, 10, 12, 14, 15] || decide (t = []))
def fF3 (k : Int) (t d : Bs) : Bool := fF2 k t && (inB k [9, 10, 16] || decide (d = []))
def fF4 (k : Int) (t d ti : Bs) : Bool := fF3 k t d && (inB k [9, 10, 14] || decide (ti = []))
def fF5 (k : Int) (t d ti : Bs) (a : DAttr) : Bool := fF4 k t d ti && (inB k [10, 11] || noA a)
def fF6 (k : Int) (t d ti : Bs) (a : DAttr) (n : Nat) : Bool := fF5 k t d ti a && (inB k [6, 7, 8, 9, 10, 11] || decide ((n : Int) = 0))
def fF7 (k : Int) (t d ti : Bs) (a : DAttr) (n m : Nat) : Bool := fF6 k t d ti a n && (decide (k = 15) || decide ((m : Int) = 0))
def fF8 (k : Int) (t d ti : Bs) (a : DAttr) (n m q : Nat) : Bool := fF7 k t d ti a n m && (decide (k = 13) || decide ((q : Int) = 0))
theorem inlineFields_fn (k : Int) (t d ti : Bs) (a : DAttr) (args : List Bs) (cites : List DCite) (kids : List Inl) (vc vp va vt vk : Value) (u : View) (h : InlK u a args cites kids vc vp va vt vk t d ti) :
  FnP Tryz.prog 165 [.agg (inlV k t d ti a.id vc vp va vt vk).toArray] u fun r _ => r = .bool (fF8 k t d ti a kids.length args.length cites.length) := by
 obtain ⟨s1, s2, s3, s4, s5, -, hsz⟩ := h
 have o1 := s1.one
 have o2 := s2.one
 obtain ⟨ad3, cap3, rfl, -⟩ := s3
 obtain ⟨ad4, cap4, rfl, -⟩ := s4
 obtain ⟨cs5, ⟨ad5, cap5, rfl, -⟩, -⟩ := s5
 refine FnP.intro [.tmp 2] Tryz.func165 rfl rfl rfl ?_
 intro w0 D hw0
 refine Zd (Za (Zv rfl rfl ?_))
 refine Zbx trivial rfl (cs := [_, _, _, _, _, _, _, _, _, _]) rfl rfl rfl rfl ?_
 refine ya rfl rfl (Zf (ρ' := [(1, _)]) ⟨rfl, trivial⟩ ?_)
 refine Zc (Zd (Za (Zg (Zh rfl Tryz.f42' rfl (by decide) rfl) rfl (Zg (Zi rfl Tryz.k3 rfl rfl rfl (vs := [_]) rfl rfl rfl) rfl (Zv rfl rfl ?_)))))
 refine Zak trivial Tryz.s158 Tryz.z3 (ps := [(_, _), (_, _), (_, _), (_, _), (_, _), (_, _), (_, _), (_, _)]) rfl (xs := [_, _, _, _, _, _, _, _]) rfl rfl rfl rfl rfl rfl rfl ?_
 refine Zv rfl rfl ?_
 refine Zcg (caps := []) 10 trivial rfl rfl Tryz.c116 rfl ?_
 intro adb capb ub hleb hslb
 refine ⟨_, rfl, FnP.mono (in4_fn k _ [1, 4, 5, 9, 10, 12, 14, 15] (by decide) ub ⟨_, _, rfl, hslb⟩) ?_⟩
 rintro v u1 hle1 rfl
 refine ya rfl rfl (Zf (ρ' := [(1, _), (3, _)]) ⟨rfl, rfl, trivial⟩ ?_)
 refine Zc (Zd (Za (Zg (Zh rfl Tryz.f42' rfl (by decide) rfl) rfl (Zg (Zi rfl Tryz.k3 rfl rfl rfl (vs := [_]) rfl rfl rfl) rfl (Zv rfl rfl ?_)))))
 refine Zak trivial Tryz.s158 Tryz.z3 (ps := [(_, _), (_, _), (_, _)]) rfl (xs := [_, _, _]) rfl rfl rfl rfl rfl rfl rfl ?_
 refine Zv rfl rfl ?_
 refine Zcg (caps := []) 14 trivial rfl rfl Tryz.c116 rfl ?_
 intro adb capb ub hleb hslb
 refine ⟨_, rfl, FnP.mono (in4_fn k _ [9, 10, 16] (by decide) ub ⟨_, _, rfl, hslb⟩) ?_⟩
 rintro v u1 hle1 rfl
 refine ya rfl rfl (Zf (ρ' := [(1, _), (3, _), (4, _)]) ⟨rfl, rfl, rfl, trivial⟩ ?_)
 refine Zc (Zd (Za (Zg (Zh rfl Tryz.f42' rfl (by decide) rfl) rfl (Zg (Zi rfl Tryz.k3 rfl rfl rfl (vs := [_]) rfl rfl rfl) rfl (Zv rfl rfl ?_)))))
 refine Zak trivial Tryz.s158 Tryz.z3 (ps := [(_, _), (_, _), (_, _)]) rfl (xs := [_, _, _]) rfl rfl rfl rfl rfl rfl rfl ?_
 refine Zv rfl rfl ?_
 refine Zcg (caps := []) 18 trivial rfl rfl Tryz.c116 rfl ?_
 intro adb capb ub hleb hslb
 refine ⟨_, rfl, FnP.mono (in4_fn k _ [9, 10, 14] (by decide) ub ⟨_, _, rfl, hslb⟩) ?_⟩
 rintro v u1 hle1 rfl
 refine ya rfl rfl (Zf (ρ' := [(1, _), (3, _), (4, _), (5, _)]) ⟨rfl, rfl, rfl, rfl, trivial⟩ ?_)
 refine Zc (Zd (Za (Zg (Zh rfl Tryz.f42' rfl (by decide) rfl) rfl (Zg (Zi rfl Tryz.k3 rfl rfl rfl (vs := [_]) rfl rfl rfl) rfl (Zv rfl rfl ?_)))))
 refine Zak trivial Tryz.s158 Tryz.z3 (ps := [(_, _), (_, _)]) rfl (xs := [_, _]) rfl rfl rfl rfl rfl rfl rfl ?_
 refine Zv rfl rfl ?_
 refine Zcg (caps := []) 22 trivial rfl rfl Tryz.c116 rfl ?_
 intro adb capb ub hleb hslb
 refine ⟨_, rfl, FnP.mono (in4_fn k _ [10, 11] (by decide) ub ⟨_, _, rfl, hslb⟩) ?_⟩
 rintro v u1 hle1 rfl
 refine ya rfl rfl (Zf (ρ' := [(1, _), (3, _), (4, _), (5, _), (6, _)]) ⟨rfl, rfl, rfl, rfl, rfl, trivial⟩ ?_)
 refine Zc (Zd (Za (Zg (Zh rfl Tryz.f42' rfl (by decide) rfl) rfl (Zg (Zi rfl Tryz.k3 rfl rfl rfl (vs := [_]) rfl rfl rfl) rfl (Zv rfl rfl ?_)))))
 refine Zak trivial Tryz.s158 Tryz.z3 (ps := [(_, _), (_, _), (_, _), (_, _), (_, _), (_, _)]) rfl (xs := [_, _, _, _, _, _]) rfl rfl rfl rfl rfl rfl rfl ?_
 refine Zv rfl rfl ?_
 refine Zcg (caps := []) 26 trivial rfl rfl Tryz.c116 rfl ?_
 intro adb capb ub hleb hslb
 refine ⟨_, rfl, FnP.mono (in4_fn k _ [6, 7, 8, 9, 10, 11] (by decide) ub ⟨_, _, rfl, hslb⟩) ?_⟩
 rintro v u1 hle1 rfl
 refine ya rfl rfl (Zf (ρ' := [(1, _), (3, _), (4, _), (5, _), (6, _), (7, _)]) ⟨rfl, rfl, rfl, rfl, rfl, rfl, trivial⟩ ?_)
 refine Zc (Zd (Za ?_))
 refine Zcm 9 36 (fF1 k) (ρk := [(1, _), (3, _), (4, _), (5, _), (6, _), (7, _)]) ⟨rfl, rfl, rfl, rfl, rfl, rfl, trivial⟩ ?_ ?_
 ·
  refine Zg (Zh rfl Tryz.f42' rfl (by decide) rfl) rfl (Zg (Zi rfl Tryz.k3 rfl rfl rfl (vs := [_]) rfl rfl rfl) rfl (Zg (Zci rfl rfl rfl) rfl (ym rfl rfl ?_)))
  refine Zae 31 rfl (fun hg6_3 => ?_) (fun hg6_3 => ?_)
  ·
   refine Zk rfl rfl (Zg (Zh rfl Tryz.f42' rfl (by decide) rfl) rfl (Zk rfl rfl (Zg (Zi rfl Tryz.k3 rfl rfl rfl (vs := [_]) rfl rfl rfl) rfl (Zk rfl rfl (Zg (y_leq rfl rfl rfl) rfl (Zg (Zl rfl rfl rfl) rfl (ym rfl rfl ?_)))))))
   exact Zam rfl ⟨rfl, rfl, rfl, rfl, rfl, rfl, trivial⟩ (by (unfold fF1; first | (rw [hg6_3]; rfl) | (rw [hg6_3]; simp)))
  ·
   iterate 3 refine Zt rfl rfl rfl rfl ?_
   refine Zg (Zn rfl rfl rfl) rfl (ym rfl rfl ?_)
   exact Zam rfl ⟨rfl, rfl, rfl, rfl, rfl, rfl, trivial⟩ (by (unfold fF1; first | (rw [hg6_3]; rfl) | (rw [hg6_3]; simp)))
 refine Zcm 8 44 (fF2 k t) (ρk := [(1, _), (4, _), (5, _), (6, _), (7, _)]) ⟨rfl, rfl, rfl, rfl, rfl, trivial⟩ ?_ ?_
 ·
  refine Zae 36 rfl (fun hg6_8 => ?_) (fun hg6_8 => ?_)
  ·
   refine Zk rfl rfl (ym rfl rfl (Zk rfl rfl (ym rfl rfl ?_)))
   refine Zae 38 rfl (fun hg6_10 => ?_) (fun hg6_10 => ?_)
   ·
    iterate 3 refine Zt rfl rfl rfl rfl ?_
    refine Zk rfl rfl (Zg (Zl rfl rfl rfl) rfl (Zg (Zl rfl rfl rfl) rfl (ym rfl rfl ?_)))
    exact Zam rfl ⟨rfl, rfl, rfl, rfl, rfl, trivial⟩ (by (unfold fF2; first | (rw [hg6_8]; rfl) | (rw [hg6_8, hg6_10]; simp)))
   ·
    refine Zk rfl rfl (Zg (Zh rfl Tryz.f42' rfl (by decide) rfl) rfl (Zk rfl rfl (Zg (Zi rfl Tryz.k9 rfl rfl rfl (vs := [_]) rfl rfl rfl) rfl (Zk rfl rfl (Zg (Zba rfl rfl rfl) rfl (Zk rfl rfl (Zg (Zn rfl rfl rfl) rfl ?_)))))))
    refine Zg (Zl rfl rfl rfl) rfl (ym rfl rfl ?_)
    exact Zam rfl ⟨rfl, rfl, rfl, rfl, rfl, trivial⟩ (by (unfold fF2; first | (rw [hg6_8]; rfl) | (rw [hg6_8, hg6_10]; simp)))
  ·
   refine Zt rfl rfl rfl rfl (Zt rfl rfl rfl rfl ?_)
   iterate 3 refine Zbg rfl rfl rfl ?_
   refine Zt rfl rfl rfl rfl (Zg (Zn rfl rfl rfl) rfl (ym rfl rfl ?_))
   exact Zam rfl ⟨rfl, rfl, rfl, rfl, rfl, trivial⟩ (by (unfold fF2; first | (rw [hg6_8]; rfl) | (rw [hg6_8, hg6_10]; simp)))
 refine Zcm 8 52 (fF3 k t d) (ρk := [(1, _), (5, _), (6, _), (7, _)]) ⟨rfl, rfl, rfl, rfl, trivial⟩ ?_ ?_
 ·
  refine Zae 44 rfl (fun hg6_16 => ?_) (fun hg6_16 => ?_)
  ·
   refine Zk rfl rfl (ym rfl rfl (Zk rfl rfl (ym rfl rfl ?_)))
   refine Zae 46 rfl (fun hg6_18 => ?_) (fun hg6_18 => ?_)
   ·
    iterate 3 refine Zt rfl rfl rfl rfl ?_
    refine Zk rfl rfl (Zg (Zl rfl rfl rfl) rfl (Zg (Zl rfl rfl rfl) rfl (ym rfl rfl ?_)))
    exact Zam rfl ⟨rfl, rfl, rfl, rfl, trivial⟩ (by (unfold fF3; first | (rw [hg6_16]; rfl) | (rw [hg6_16, hg6_18]; simp)))
   ·
    refine Zk rfl rfl (Zg (Zh rfl Tryz.f42' rfl (by decide) rfl) rfl (Zk rfl rfl (Zg (Zi rfl Tryz.k9 rfl rfl rfl (vs := [_]) rfl rfl rfl) rfl (Zk rfl rfl (Zg (Zba rfl rfl rfl) rfl (Zk rfl rfl (Zg (Zn rfl rfl rfl) rfl ?_)))))))
    refine Zg (Zl rfl rfl rfl) rfl (ym rfl rfl ?_)
    exact Zam rfl ⟨rfl, rfl, rfl, rfl, trivial⟩ (by (unfold fF3; first | (rw [hg6_16]; rfl) | (rw [hg6_16, hg6_18]; simp)))
  ·
   refine Zt rfl rfl rfl rfl (Zt rfl rfl rfl rfl ?_)
   iterate 3 refine Zbg rfl rfl rfl ?_
   refine Zt rfl rfl rfl rfl (Zg (Zn rfl rfl rfl) rfl (ym rfl rfl ?_))
   exact Zam rfl ⟨rfl, rfl, rfl, rfl, trivial⟩ (by (unfold fF3; first | (rw [hg6_16]; rfl) | (rw [hg6_16, hg6_18]; simp)))
 refine Zcm 8 60 (fF4 k t d ti) (ρk := [(1, _), (6, _), (7, _)]) ⟨rfl, rfl, rfl, trivial⟩ ?_ ?_
 ·
  refine Zae 52 rfl (fun hg6_24 => ?_) (fun hg6_24 => ?_)
  ·
   refine Zk rfl rfl (ym rfl rfl (Zk rfl rfl (ym rfl rfl ?_)))
   refine Zae 54 rfl (fun hg6_26 => ?_) (fun hg6_26 => ?_)
   ·
    iterate 3 refine Zt rfl rfl rfl rfl ?_
    refine Zk rfl rfl (Zg (Zl rfl rfl rfl) rfl (Zg (Zl rfl rfl rfl) rfl (ym rfl rfl ?_)))
    exact Zam rfl ⟨rfl, rfl, rfl, trivial⟩ (by (unfold fF4; first | (rw [hg6_24]; rfl) | (rw [hg6_24, hg6_26]; simp)))
   ·
    refine Zk rfl rfl (Zg (Zh rfl Tryz.f42' rfl (by decide) rfl) rfl (Zk rfl rfl (Zg (Zi rfl Tryz.k9 rfl rfl rfl (vs := [_]) rfl rfl rfl) rfl (Zk rfl rfl (Zg (Zba rfl rfl rfl) rfl (Zk rfl rfl (Zg (Zn rfl rfl rfl) rfl ?_)))))))
    refine Zg (Zl rfl rfl rfl) rfl (ym rfl rfl ?_)
    exact Zam rfl ⟨rfl, rfl, rfl, trivial⟩ (by (unfold fF4; first | (rw [hg6_24]; rfl) | (rw [hg6_24, hg6_26]; simp)))
  ·
   refine Zt rfl rfl rfl rfl (Zt rfl rfl rfl rfl ?_)
   iterate 3 refine Zbg rfl rfl rfl ?_
   refine Zt rfl rfl rfl rfl (Zg (Zn rfl rfl rfl) rfl (ym rfl rfl ?_))
   exact Zam rfl ⟨rfl, rfl, rfl, trivial⟩ (by (unfold fF4; first | (rw [hg6_24]; rfl) | (rw [hg6_24, hg6_26]; simp)))
 refine Zcm 8 68 (fF5 k t d ti a) (ρk := [(1, _), (7, _)]) ⟨rfl, rfl, trivial⟩ ?_ ?_
 ·
  refine Zae 60 rfl (fun hg6_32 => ?_) (fun hg6_32 => ?_)
  ·
   refine Zk rfl rfl (ym rfl rfl (Zk rfl rfl (ym rfl rfl ?_)))
   refine Zae 62 rfl (fun hg6_34 => ?_) (fun hg6_34 => ?_)
   ·
    iterate 3 refine Zt rfl rfl rfl rfl ?_
    refine Zk rfl rfl (Zg (Zl rfl rfl rfl) rfl (Zg (Zl rfl rfl rfl) rfl (ym rfl rfl ?_)))
    exact Zam rfl ⟨rfl, rfl, trivial⟩ (by (unfold fF5; first | (rw [hg6_32]; rfl) | (rw [hg6_32, hg6_34]; simp)))
   ·
    refine Zk rfl rfl (Zg (Zh rfl Tryz.f42' rfl (by decide) rfl) rfl (Zk rfl rfl (Zg (Zi rfl Tryz.k39 rfl rfl rfl (vs := [_, _, _]) rfl rfl rfl) rfl (Zk rfl rfl (Zv rfl rfl ?_)))))
    refine Zaa (caps := []) trivial rfl rfl Tryz.c117 rfl (FnP.mono (noAttr_fn a vc vp u s1 s2) ?_)
    rintro v u1 hle1 rfl
    refine Zk rfl rfl (Zg (Zn rfl rfl rfl) rfl (Zg (Zl rfl rfl rfl) rfl (ym rfl rfl ?_)))
    exact Zam rfl ⟨rfl, rfl, trivial⟩ (by (unfold fF5; first | (rw [hg6_32]; rfl) | (rw [hg6_32, hg6_34]; simp)))
  ·
   refine Zt rfl rfl rfl rfl (Zt rfl rfl rfl rfl ?_)
   iterate 3 refine Zbg rfl rfl rfl ?_
   refine Zt rfl rfl rfl rfl (Zg (Zn rfl rfl rfl) rfl (ym rfl rfl ?_))
   exact Zam rfl ⟨rfl, rfl, trivial⟩ (by (unfold fF5; first | (rw [hg6_32]; rfl) | (rw [hg6_32, hg6_34]; simp)))
 refine Zcm 9 77 (fF6 k t d ti a kids.length) (ρk := [(1, _)]) ⟨rfl, trivial⟩ ?_ ?_
 ·
  refine Zae 68 rfl (fun hg6_40 => ?_) (fun hg6_40 => ?_)
  ·
   refine Zk rfl rfl (ym rfl rfl (Zk rfl rfl (ym rfl rfl ?_)))
   refine Zae 70 rfl (fun hg6_42 => ?_) (fun hg6_42 => ?_)
   ·
    iterate 4 refine Zt rfl rfl rfl rfl ?_
    refine Zk rfl rfl (Zg (Zl rfl rfl rfl) rfl (Zg (Zl rfl rfl rfl) rfl (ym rfl rfl ?_)))
    exact Zam rfl ⟨rfl, trivial⟩ (by (unfold fF6; first | (rw [hg6_40]; rfl) | (rw [hg6_40, hg6_42]; simp)))
   ·
    refine Zk rfl rfl (Zg (Zh rfl Tryz.f42' rfl (by decide) rfl) rfl (Zk rfl rfl (Zg (Zi rfl Tryz.k35 rfl rfl rfl (vs := [_]) rfl rfl rfl) rfl (Zk rfl rfl (Zg (Zaq rfl rfl Tryz.s35 rfl) rfl (Zk rfl rfl (Zg (Zaw rfl rfl rfl) rfl ?_)))))))
    refine Zk rfl rfl (Zg (Zn rfl rfl rfl) rfl (Zg (Zl rfl rfl rfl) rfl (ym rfl rfl ?_)))
    exact Zam rfl ⟨rfl, trivial⟩ (by (unfold fF6; first | (rw [hg6_40]; rfl) | (rw [hg6_40, hg6_42]; simp)))
  ·
   refine Zt rfl rfl rfl rfl (Zt rfl rfl rfl rfl ?_)
   iterate 4 refine Zbg rfl rfl rfl ?_
   refine Zt rfl rfl rfl rfl (Zg (Zn rfl rfl rfl) rfl (ym rfl rfl ?_))
   exact Zam rfl ⟨rfl, trivial⟩ (by (unfold fF6; first | (rw [hg6_40]; rfl) | (rw [hg6_40, hg6_42]; simp)))
 refine Zcm 11 88 (fF7 k t d ti a kids.length args.length) (ρk := [(1, _)]) ⟨rfl, trivial⟩ ?_ ?_
 ·
  refine Zae 77 rfl (fun hg6_49 => ?_) (fun hg6_49 => ?_)
  ·
   refine Zk rfl rfl (Zg (Zh rfl Tryz.f42' rfl (by decide) rfl) rfl (Zk rfl rfl (Zg (Zi rfl Tryz.k3 rfl rfl rfl (vs := [_]) rfl rfl rfl) rfl (Zk rfl rfl (Zg (Zaw rfl rfl rfl) rfl (Zk rfl rfl (ym rfl rfl ?_)))))))
   refine Zae 81 rfl (fun hg6_53 => ?_) (fun hg6_53 => ?_)
   ·
    iterate 4 refine Zt rfl rfl rfl rfl ?_
    refine Zk rfl rfl (Zg (Zl rfl rfl rfl) rfl (Zg (Zl rfl rfl rfl) rfl (ym rfl rfl ?_)))
    exact Zam rfl ⟨rfl, trivial⟩ (by (unfold fF7; first | (rw [hg6_49]; rfl) | (rw [hg6_49, hg6_53]; simp)))
   ·
    refine Zk rfl rfl (Zg (Zh rfl Tryz.f42' rfl (by decide) rfl) rfl (Zk rfl rfl (Zg (Zi rfl Tryz.k37 rfl rfl rfl (vs := [_]) rfl rfl rfl) rfl (Zk rfl rfl (Zg (Zaq rfl rfl Tryz.s37 rfl) rfl (Zk rfl rfl (Zg (Zaw rfl rfl rfl) rfl ?_)))))))
    refine Zk rfl rfl (Zg (Zn rfl rfl rfl) rfl (Zg (Zl rfl rfl rfl) rfl (ym rfl rfl ?_)))
    exact Zam rfl ⟨rfl, trivial⟩ (by (unfold fF7; first | (rw [hg6_49]; rfl) | (rw [hg6_49, hg6_53]; simp)))
  ·
   iterate 4 refine Zt rfl rfl rfl rfl ?_
   iterate 4 refine Zbg rfl rfl rfl ?_
   refine Zt rfl rfl rfl rfl (Zg (Zn rfl rfl rfl) rfl (ym rfl rfl ?_))
   exact Zam rfl ⟨rfl, trivial⟩ (by (unfold fF7; first | (rw [hg6_49]; rfl) | (rw [hg6_49, hg6_53]; simp)))
 refine Zcm 10 98 (fF8 k t d ti a kids.length args.length cites.length) (ρk := []) trivial ?_ ?_
 ·
  refine Zae 88 rfl (fun hg6_60 => ?_) (fun hg6_60 => ?_)
  ·
   refine Zk rfl rfl (Zg (Zh rfl Tryz.f42' rfl (by decide) rfl) rfl (Zk rfl rfl (Zg (Zi rfl Tryz.k3 rfl rfl rfl (vs := [_]) rfl rfl rfl) rfl (Zk rfl rfl (Zg (Zaw rfl rfl rfl) rfl (Zk rfl rfl (ym rfl rfl ?_)))))))
   refine Zae 92 rfl (fun hg6_64 => ?_) (fun hg6_64 => ?_)
   ·
    iterate 4 refine Zt rfl rfl rfl rfl ?_
    refine Zk rfl rfl (Zg (Zl rfl rfl rfl) rfl (Zg (Zl rfl rfl rfl) rfl ?_))
    exact Zam rfl trivial (by (unfold fF8; first | (rw [hg6_60]; rfl) | (rw [hg6_60, hg6_64]; simp)))
   ·
    refine Zk rfl rfl (Zg (Zh rfl Tryz.f42' rfl (by decide) rfl) rfl (Zk rfl rfl (Zg (Zi rfl Tryz.k40 rfl rfl rfl (vs := [_]) rfl rfl rfl) rfl (Zk rfl rfl (Zg (Zaq rfl rfl Tryz.s40 rfl) rfl (Zk rfl rfl (Zg (Zaw rfl rfl rfl) rfl ?_)))))))
    refine Zk rfl rfl (Zg (Zn rfl rfl rfl) rfl (Zg (Zl rfl rfl rfl) rfl ?_))
    exact Zam rfl trivial (by (unfold fF8; first | (rw [hg6_60]; rfl) | (rw [hg6_60, hg6_64]; simp)))
  ·
   iterate 4 refine Zt rfl rfl rfl rfl ?_
   iterate 4 refine Zbg rfl rfl rfl ?_
   refine Zt rfl rfl rfl rfl (Zg (Zn rfl rfl rfl) rfl ?_)
   exact Zam rfl trivial (by (unfold fF8; first | (rw [hg6_60]; rfl) | (rw [hg6_60, hg6_64]; simp)))
 refine ya rfl rfl (Zf (ρ' := [(2, _)]) ⟨rfl, trivial⟩ ?_)
 refine Zc (Zw (Zbe (.tmp rfl) ?_))
 rfl
def fldI : Inl → Bool
 | .mk k t d ti a args cites kids => fF8 k t d ti a kids.length args.length cites.length
def kdI : Inl → Int
 | .mk k _ _ _ _ _ _ _ => k
def txtK : Inl → Prop
 | .mk k t _ _ _ _ _ _ => k = 1 → t ≠ [] ∧ (10 : UInt8) ∉ t
mutual
def okI1 : Inl → Prop
 | .mk k t d ti a args cites kids => fldI (.mk k t d ti a args cites kids) = true ∧ txtK (.mk k t d ti a args cites kids) ∧ okL 0 kids
def okL : Int → List Inl → Prop
 | _, [] => True
 | bf, x :: xs => okI1 x ∧ (kdI x = 1 → bf ≠ 1) ∧ okL (kdI x) xs
end
theorem okL_step {xs : List Inl} {i : Nat} {x : Inl} {bf : Int} (hg : xs[i]? = some x) (h1 : okI1 x) (h2 : kdI x = 1 → bf ≠ 1) (h : okL (kdI x) (xs.drop (i + 1))) : okL bf (xs.drop i) := by
 obtain ⟨hlt, rfl⟩ := List.getElem?_eq_some_iff.1 hg
 rw [List.drop_eq_getElem_cons hlt]
 unfold okL
 exact ⟨h1, h2, h⟩
set_option maxHeartbeats 1000000 in
theorem kone_fn (k : Int) (t d ti : Bs) (a : DAttr) (args : List Bs) (cites : List DCite) (kids : List Inl) (vc vp va vt vk : Value) (bf : Int) (f l : Bool) (u : View) (h : InlK u a args cites kids vc vp va vt vk t d ti) :
  FnP Tryz.prog 162 [.agg (inlV k t d ti a.id vc vp va vt vk).toArray, .int .i64 bf, .bool f, .bool l] u fun r _ => ∃ e : Int, r = .int .i64 e ∧ (e = 0 → fldI (.mk k t d ti a args cites kids) = true ∧ txtK (.mk k t d ti a args cites kids) ∧ (k = 1 → bf ≠ 1)) := by
 have h0 := h
 obtain ⟨s1, s2, s3, s4, s5, ⟨q1, q2, q3, q4, q5, q6, q7, q8⟩, hsz⟩ := h
 have oneAll : (inlV k t d ti a.id vc vp va vt vk).all Value.oneCell' = true := by
  have o1 := s1.one
  have o2 := s2.one
  have o3 := s3.one
  have o4 := s4.one
  obtain ⟨cs5, h5, -⟩ := s5
  have o5 := h5.one
  simp only [inlV, List.all_cons, List.all_nil, o1, o2, o3, o4, o5]
  rfl
 obtain ⟨cs5, ⟨ad5, cap5, rfl, -⟩, -⟩ := s5
 obtain ⟨ad4, cap4, rfl, s4⟩ := s4
 refine FnP.intro [.tmp 8] Tryz.func162 rfl rfl rfl ?_
 intro w0 D hw0
 refine Zd (Za (Zv rfl rfl ?_))
 refine Zbx trivial rfl (cs := [_, _, _, _, _, _, _, _, _, _]) rfl rfl rfl rfl ?_
 refine ya rfl rfl (Zf (ρ' := [(1, _), (2, _), (3, _), (4, _)]) ⟨rfl, rfl, rfl, rfl, trivial⟩ ?_)
 refine Zc (Zd (Zd (Za (Zg (Zi rfl Tryz.k42 rfl rfl rfl (vs := [_, _, _, _, _, _, _, _, _, _]) rfl rfl rfl) rfl (Zv rfl rfl ?_)))))
 refine Zaa (caps := []) trivial rfl rfl Tryz.c165 rfl (FnP.mono (inlineFields_fn k t d ti a args cites kids vc vp va (.slice ad4 cites.length cap4) (.slice ad5 kids.length cap5) u h0) ?_)
 rintro v u1 hle1 rfl
 refine Zg (Zbr rfl rfl) rfl (Zf (ρ' := [(1, _), (2, _), (3, _), (4, _), (11, _)]) ⟨rfl, rfl, rfl, rfl, rfl, trivial⟩ ?_)
 refine Zc ?_
 refine Zo rfl (fun hb1 => ?_) (fun hb1 => ?_)
 ·
  skip
  refine Zd (Za (ya rfl rfl (Zf (ρ' := [(8, _)]) ⟨rfl, trivial⟩ ?_)))
  refine Zc (Zw (Zj (Zbe (.tmp rfl) ?_)))
  first
  | exact ⟨_, rfl, fun h => absurd h (by decide)⟩
  | exact ⟨_, rfl, fun _ => ⟨hF, fun hk => hm7_8 hb7 , fun hk => hm9_8 hb9 hk⟩⟩
  | (refine ⟨_, rfl, fun _ => ⟨hF, fun hk => ?_, fun hk => ?_⟩⟩ <;> (exfalso; simp only [decide_eq_true_eq, decide_eq_false_iff_not] at *; omega))
 ·
  have hF : fldI (.mk k t d ti a args cites kids) = true := by simpa [fldI] using hb1
  refine Zr (Zc (Zd (Zd (Za (Zg (Zh rfl Tryz.f42' rfl (by decide) rfl) rfl (Zg (Zi rfl Tryz.k3 rfl rfl rfl (vs := [_]) rfl rfl rfl) rfl (Zf (ρ' := [(1, _), (2, _), (3, _), (4, _), (13, _)]) ⟨rfl, rfl, rfl, rfl, rfl, trivial⟩ ?_)))))))
  refine Zc (Zad ?_)
  refine Zbu (fun ρ σ uci7 => VLe u uci7 ∧ σ = [(4, (none, .box (inlV k t d ti a.id vc vp va (.slice ad4 cites.length cap4) (.slice ad5 kids.length cap5))))] ∧ ρ = [(1, .v (.int .i64 bf)), (2, .v (.bool f)), (3, .v (.bool l)), (4, .p 4 0), (13, .v (.int .i64 k)), (14, .v (.bool (decide (k = 1 ∨ k = 4 ∨ k = 5))))] ∧ (u = uci7)) ?_ ?_
  ·
   refine Zd (Za (Zg (Zaw rfl rfl rfl) rfl (ya rfl rfl (Zf (ρ' := [(1, _), (2, _), (3, _), (4, _), (13, _), (14, _)]) ⟨rfl, rfl, rfl, rfl, rfl, rfl, trivial⟩ ?_))))
   refine Zc ?_
   refine Zo rfl (fun hb4 => ?_) (fun hb4 => ?_)
   ·
    refine Zr (Zab ?_)
    refine ⟨[(1, _), (2, _), (3, _), (4, _), (13, _), (14, _)], [(4, _)], ⟨rfl, rfl, rfl, rfl, rfl, rfl, trivial⟩, ⟨rfl, trivial⟩, (VLe.refl _), rfl, (by first | rfl | (simp only [List.cons.injEq, Prod.mk.injEq, SV.v.injEq, Value.bool.injEq, eq_self, true_and, and_true]; exact decide_eq_decide.2 (by simp only [decide_eq_true_eq, decide_eq_false_iff_not] at *; omega))), ?_⟩
    rfl
   ·
    refine Zd (Za (Zg (Zaw rfl rfl rfl) rfl (ya rfl rfl (Zf (ρ' := [(1, _), (2, _), (3, _), (4, _), (13, _), (14, _)]) ⟨rfl, rfl, rfl, rfl, rfl, rfl, trivial⟩ ?_))))
    refine Zc ?_
    refine Zo rfl (fun hb5 => ?_) (fun hb5 => ?_)
    ·
     refine Zr (Zab ?_)
     refine ⟨[(1, _), (2, _), (3, _), (4, _), (13, _), (14, _)], [(4, _)], ⟨rfl, rfl, rfl, rfl, rfl, rfl, trivial⟩, ⟨rfl, trivial⟩, (VLe.refl _), rfl, (by first | rfl | (simp only [List.cons.injEq, Prod.mk.injEq, SV.v.injEq, Value.bool.injEq, eq_self, true_and, and_true]; exact decide_eq_decide.2 (by simp only [decide_eq_true_eq, decide_eq_false_iff_not] at *; omega))), ?_⟩
     rfl
    ·
     refine Za (Zg (Zaw rfl rfl rfl) rfl (ya rfl rfl (Zf (ρ' := [(1, _), (2, _), (3, _), (4, _), (13, _), (14, _)]) ⟨rfl, rfl, rfl, rfl, rfl, rfl, trivial⟩ ?_)))
     refine Zab ?_
     refine ⟨[(1, _), (2, _), (3, _), (4, _), (13, _), (14, _)], [(4, _)], ⟨rfl, rfl, rfl, rfl, rfl, rfl, trivial⟩, ⟨rfl, trivial⟩, (VLe.refl _), rfl, (by first | rfl | (simp only [List.cons.injEq, Prod.mk.injEq, SV.v.injEq, Value.bool.injEq, eq_self, true_and, and_true]; exact decide_eq_decide.2 (by simp only [decide_eq_true_eq, decide_eq_false_iff_not] at *; omega))), ?_⟩
     rfl
  ·
   rintro ρ σ uci7 ⟨hlci7, rfl, rfl, rfl⟩
   refine Zo rfl (fun hb6 => ?_) (fun hb6 => ?_)
   ·
    refine Zd (Zd (Za ?_))
    refine Zbh 9 26 (fun b => b = false → t ≠ [] ∧ (10 : UInt8) ∉ t) (ρk := [(1, _), (4, _)]) ⟨rfl, rfl, trivial⟩ ?_ fun mb7_8 hm7_8 => ?_
    ·
     refine Zg (Zh rfl Tryz.f42' rfl (by decide) rfl) rfl (Zg (Zi rfl Tryz.k9 rfl rfl rfl (vs := [_]) rfl rfl rfl) rfl (Zg (Zba rfl rfl rfl) rfl (ym rfl rfl ?_)))
     refine Zae 21 rfl (fun hg7_3 => ?_) (fun hg7_3 => ?_)
     ·
      iterate 4 refine Zt rfl rfl rfl rfl ?_
      refine Zg (Zl rfl rfl rfl) rfl ?_
      exact Zac rfl ⟨rfl, rfl, trivial⟩ (by (first | exact fun h => absurd h (by decide) | exact fun h => ⟨of_decide_eq_false hg7_3, hb10 (by simpa using h)⟩))
     ·
      refine Zk rfl rfl (Zg (Zh rfl Tryz.f42' rfl (by decide) rfl) rfl (Zk rfl rfl (Zg (Zi rfl Tryz.k9 rfl rfl rfl (vs := [_]) rfl rfl rfl) rfl (Zk rfl rfl (Zv rfl rfl ?_)))))
      refine Zaa (caps := []) trivial rfl rfl Tryz.c35 rfl (FnP.mono (line4_fn t (by omega) u) ?_)
      rintro v u1 hle1 ⟨b1, rfl, hb10⟩
      refine Zk rfl rfl (Zg (Zbr rfl rfl) rfl (Zg (Zn rfl rfl rfl) rfl ?_))
      exact Zac rfl ⟨rfl, rfl, trivial⟩ (by (first | exact fun h => absurd h (by decide) | exact fun h => ⟨of_decide_eq_false hg7_3, hb10 (by simpa using h)⟩))
    refine Zf (ρ' := [(1, _), (4, _), (26, _)]) ⟨rfl, rfl, rfl, trivial⟩ ?_
    refine Zc ?_
    refine Zo rfl (fun hb7 => ?_) (fun hb7 => ?_)
    ·
     refine Zd (Za (ya rfl rfl (Zf (ρ' := [(8, _)]) ⟨rfl, trivial⟩ ?_)))
     refine Zc (Zw (Zj (Zu (Zj (Zbe (.tmp rfl) ?_)))))
     first
     | exact ⟨_, rfl, fun h => absurd h (by decide)⟩
     | exact ⟨_, rfl, fun _ => ⟨hF, fun hk => hm7_8 hb7 , fun hk => hm9_8 hb9 hk⟩⟩
     | (refine ⟨_, rfl, fun _ => ⟨hF, fun hk => ?_, fun hk => ?_⟩⟩ <;> (exfalso; simp only [decide_eq_true_eq, decide_eq_false_iff_not] at *; omega))
    ·
     refine Zr (Zc (Zd (Za ?_)))
     refine Zbh 9 35 (fun b => b = false → k = 1 → bf ≠ 1) (ρk := []) trivial ?_ fun mb9_8 hm9_8 => ?_
     ·
      refine Zg (Zh rfl Tryz.f42' rfl (by decide) rfl) rfl (Zg (Zi rfl Tryz.k3 rfl rfl rfl (vs := [_]) rfl rfl rfl) rfl (Zg (Zck rfl rfl rfl) rfl (ym rfl rfl ?_)))
      refine Zae 30 rfl (fun hg9_3 => ?_) (fun hg9_3 => ?_)
      ·
       refine Zk rfl rfl (ym rfl rfl (Zk rfl rfl (Zg (Zh rfl Tryz.f42' rfl (by decide) rfl) rfl (Zk rfl rfl (Zg (Zi rfl Tryz.k3 rfl rfl rfl (vs := [_]) rfl rfl rfl) rfl (Zk rfl rfl (Zg (Zaw rfl rfl rfl) rfl ?_)))))))
       refine Zg (Zl rfl rfl rfl) rfl ?_
       exact Zac rfl trivial (by (intro h hk; simp only [decide_eq_true_eq, decide_eq_false_iff_not] at *; omega))
      ·
       iterate 4 refine Zt rfl rfl rfl rfl ?_
       refine Zg (Zn rfl rfl rfl) rfl ?_
       exact Zac rfl trivial (by (intro h hk; simp only [decide_eq_true_eq, decide_eq_false_iff_not] at *; omega))
     refine Zf (ρ' := [(35, _)]) ⟨rfl, trivial⟩ ?_
     refine Zc ?_
     refine Zo rfl (fun hb9 => ?_) (fun hb9 => ?_)
     ·
      refine Zd (Za (ya rfl rfl (Zf (ρ' := [(8, _)]) ⟨rfl, trivial⟩ ?_)))
      refine Zc (Zw (Zu (Zj (Zbe (.tmp rfl) ?_))))
      first
      | exact ⟨_, rfl, fun h => absurd h (by decide)⟩
      | exact ⟨_, rfl, fun _ => ⟨hF, fun hk => hm7_8 hb7 , fun hk => hm9_8 hb9 hk⟩⟩
      | (refine ⟨_, rfl, fun _ => ⟨hF, fun hk => ?_, fun hk => ?_⟩⟩ <;> (exfalso; simp only [decide_eq_true_eq, decide_eq_false_iff_not] at *; omega))
     ·
      refine Zr (Zah (Zc (Zd (Za (ya rfl rfl (Zf (ρ' := [(8, _)]) ⟨rfl, trivial⟩ ?_))))))
      refine Zc (Zw (Zbe (.tmp rfl) ?_))
      first
      | exact ⟨_, rfl, fun h => absurd h (by decide)⟩
      | exact ⟨_, rfl, fun _ => ⟨hF, fun hk => hm7_8 hb7 , fun hk => hm9_8 hb9 hk⟩⟩
      | (refine ⟨_, rfl, fun _ => ⟨hF, fun hk => ?_, fun hk => ?_⟩⟩ <;> (exfalso; simp only [decide_eq_true_eq, decide_eq_false_iff_not] at *; omega))
   ·
    refine Zd (Za (Zg (Zaw rfl rfl rfl) rfl (ya rfl rfl (Zf (ρ' := [(1, _), (2, _), (3, _), (4, _), (13, _), (36, _)]) ⟨rfl, rfl, rfl, rfl, rfl, rfl, trivial⟩ ?_))))
    refine Zc ?_
    refine Zo rfl (fun hb11 => ?_) (fun hb11 => ?_)
    ·
     refine Zd (Za ?_)
     refine Zbh 12 49 (fun _ => True) (ρk := []) trivial ?_ fun mb12_11 hm12_11 => ?_
     ·
      refine ym rfl rfl (Zg (Zaw rfl rfl rfl) rfl (ym rfl rfl ?_))
      refine Zae 40 rfl (fun hg12_2 => ?_) (fun hg12_2 => ?_)
      ·
       refine Zt rfl rfl rfl rfl (Zt rfl rfl rfl rfl (Zg (Zl rfl rfl rfl) rfl (ym rfl rfl (Zt rfl rfl rfl rfl (Zg (Zl rfl rfl rfl) rfl (ym rfl rfl (Zt rfl rfl rfl rfl ?_)))))))
       refine Zg (Zl rfl rfl rfl) rfl ?_
       exact Zac rfl trivial (trivial)
      ·
       refine Zk rfl rfl (ym rfl rfl (Zk rfl rfl (Zg (Zaw rfl rfl rfl) rfl (Zg (Zn rfl rfl rfl) rfl (ym rfl rfl ?_)))))
       refine Zae 44 rfl (fun hg12_6 => ?_) (fun hg12_6 => ?_)
       ·
        refine Zt rfl rfl rfl rfl (Zg (Zl rfl rfl rfl) rfl (ym rfl rfl (Zt rfl rfl rfl rfl (Zg (Zl rfl rfl rfl) rfl ?_))))
        exact Zac rfl trivial (trivial)
       ·
        refine Zk rfl rfl (ym rfl rfl (Zg (Zn rfl rfl rfl) rfl (ym rfl rfl ?_)))
        refine Zae 47 rfl (fun hg12_9 => ?_) (fun hg12_9 => ?_)
        ·
         refine Zt rfl rfl rfl rfl (Zg (Zl rfl rfl rfl) rfl ?_)
         exact Zac rfl trivial (trivial)
        ·
         refine Zk rfl rfl (ym rfl rfl (Zg (Zn rfl rfl rfl) rfl ?_))
         exact Zac rfl trivial (trivial)
     refine Zf (ρ' := [(49, _)]) ⟨rfl, trivial⟩ ?_
     refine Zc ?_
     refine Zo rfl (fun hb12 => ?_) (fun hb12 => ?_)
     ·
      refine Zd (Za (ya rfl rfl (Zf (ρ' := [(8, _)]) ⟨rfl, trivial⟩ ?_)))
      refine Zc (Zw (Zu (Zj (Zbe (.tmp rfl) ?_))))
      first
      | exact ⟨_, rfl, fun h => absurd h (by decide)⟩
      | exact ⟨_, rfl, fun _ => ⟨hF, fun hk => hm7_8 hb7 , fun hk => hm9_8 hb9 hk⟩⟩
      | (refine ⟨_, rfl, fun _ => ⟨hF, fun hk => ?_, fun hk => ?_⟩⟩ <;> (exfalso; simp only [decide_eq_true_eq, decide_eq_false_iff_not] at *; omega))
     ·
      refine Zr (Zah (Zc (Zd (Za (ya rfl rfl (Zf (ρ' := [(8, _)]) ⟨rfl, trivial⟩ ?_))))))
      refine Zc (Zw (Zbe (.tmp rfl) ?_))
      first
      | exact ⟨_, rfl, fun h => absurd h (by decide)⟩
      | exact ⟨_, rfl, fun _ => ⟨hF, fun hk => hm7_8 hb7 , fun hk => hm9_8 hb9 hk⟩⟩
      | (refine ⟨_, rfl, fun _ => ⟨hF, fun hk => ?_, fun hk => ?_⟩⟩ <;> (exfalso; simp only [decide_eq_true_eq, decide_eq_false_iff_not] at *; omega))
    ·
     refine Zd (Za (Zg (Zaw rfl rfl rfl) rfl (ya rfl rfl (Zf (ρ' := [(3, _), (4, _), (13, _), (50, _)]) ⟨rfl, rfl, rfl, rfl, trivial⟩ ?_))))
     refine Zc ?_
     refine Zo rfl (fun hb14 => ?_) (fun hb14 => ?_)
     ·
      refine Zd (Za (ym rfl rfl (Zf (ρ' := [(52, _)]) ⟨rfl, trivial⟩ ?_)))
      refine Zc ?_
      refine Zo rfl (fun hb15 => ?_) (fun hb15 => ?_)
      ·
       refine Zd (Za (ya rfl rfl (Zf (ρ' := [(8, _)]) ⟨rfl, trivial⟩ ?_)))
       refine Zc (Zw (Zu (Zj (Zbe (.tmp rfl) ?_))))
       first
       | exact ⟨_, rfl, fun h => absurd h (by decide)⟩
       | exact ⟨_, rfl, fun _ => ⟨hF, fun hk => hm7_8 hb7 , fun hk => hm9_8 hb9 hk⟩⟩
       | (refine ⟨_, rfl, fun _ => ⟨hF, fun hk => ?_, fun hk => ?_⟩⟩ <;> (exfalso; simp only [decide_eq_true_eq, decide_eq_false_iff_not] at *; omega))
      ·
       refine Zr (Zah (Zc (Zd (Za (ya rfl rfl (Zf (ρ' := [(8, _)]) ⟨rfl, trivial⟩ ?_))))))
       refine Zc (Zw (Zbe (.tmp rfl) ?_))
       first
       | exact ⟨_, rfl, fun h => absurd h (by decide)⟩
       | exact ⟨_, rfl, fun _ => ⟨hF, fun hk => hm7_8 hb7 , fun hk => hm9_8 hb9 hk⟩⟩
       | (refine ⟨_, rfl, fun _ => ⟨hF, fun hk => ?_, fun hk => ?_⟩⟩ <;> (exfalso; simp only [decide_eq_true_eq, decide_eq_false_iff_not] at *; omega))
     ·
      refine Zbu (fun ρ σ uci20 => VLe u uci20 ∧ σ = [(4, (none, .box (inlV k t d ti a.id vc vp va (.slice ad4 cites.length cap4) (.slice ad5 kids.length cap5))))] ∧ ρ = [(4, .p 4 0), (13, .v (.int .i64 k)), (53, .v (.bool (decide (6 ≤ k ∧ k ≤ 8))))] ∧ (u = uci20)) ?_ ?_
      ·
       refine Zd (Za (Zg (Zaw rfl rfl rfl) rfl (ya rfl rfl (Zf (ρ' := [(4, _), (13, _), (53, _)]) ⟨rfl, rfl, rfl, trivial⟩ ?_))))
       refine Zc ?_
       refine Zo rfl (fun hb17 => ?_) (fun hb17 => ?_)
       ·
        refine Zr (Zab ?_)
        refine ⟨[(4, _), (13, _), (53, _)], [(4, _)], ⟨rfl, rfl, rfl, trivial⟩, ⟨rfl, trivial⟩, (VLe.refl _), rfl, (by first | rfl | (simp only [List.cons.injEq, Prod.mk.injEq, SV.v.injEq, Value.bool.injEq, eq_self, true_and, and_true]; exact decide_eq_decide.2 (by simp only [decide_eq_true_eq, decide_eq_false_iff_not] at *; omega))), ?_⟩
        rfl
       ·
        refine Zd (Za (Zg (Zaw rfl rfl rfl) rfl (ya rfl rfl (Zf (ρ' := [(4, _), (13, _), (53, _)]) ⟨rfl, rfl, rfl, trivial⟩ ?_))))
        refine Zc ?_
        refine Zo rfl (fun hb18 => ?_) (fun hb18 => ?_)
        ·
         refine Zr (Zab ?_)
         refine ⟨[(4, _), (13, _), (53, _)], [(4, _)], ⟨rfl, rfl, rfl, trivial⟩, ⟨rfl, trivial⟩, (VLe.refl _), rfl, (by first | rfl | (simp only [List.cons.injEq, Prod.mk.injEq, SV.v.injEq, Value.bool.injEq, eq_self, true_and, and_true]; exact decide_eq_decide.2 (by simp only [decide_eq_true_eq, decide_eq_false_iff_not] at *; omega))), ?_⟩
         rfl
        ·
         refine Za (Zg (Zaw rfl rfl rfl) rfl (ya rfl rfl (Zf (ρ' := [(4, _), (13, _), (53, _)]) ⟨rfl, rfl, rfl, trivial⟩ ?_)))
         refine Zab ?_
         refine ⟨[(4, _), (13, _), (53, _)], [(4, _)], ⟨rfl, rfl, rfl, trivial⟩, ⟨rfl, trivial⟩, (VLe.refl _), rfl, (by first | rfl | (simp only [List.cons.injEq, Prod.mk.injEq, SV.v.injEq, Value.bool.injEq, eq_self, true_and, and_true]; exact decide_eq_decide.2 (by simp only [decide_eq_true_eq, decide_eq_false_iff_not] at *; omega))), ?_⟩
         rfl
      ·
       rintro ρ σ uci20 ⟨hlci20, rfl, rfl, rfl⟩
       refine Zo rfl (fun hb19 => ?_) (fun hb19 => ?_)
       ·
        refine Zd (Za (Zg (Zh rfl Tryz.f42' rfl (by decide) rfl) rfl (Zg (Zi rfl Tryz.k35 rfl rfl rfl (vs := [_]) rfl rfl rfl) rfl (Zg (Zaq rfl rfl Tryz.s35 rfl) rfl (Zg (Zaw rfl rfl rfl) rfl (Zf (ρ' := [(60, _)]) ⟨rfl, trivial⟩ ?_))))))
        refine Zc ?_
        refine Zo rfl (fun hb20 => ?_) (fun hb20 => ?_)
        ·
         refine Zd (Za (ya rfl rfl (Zf (ρ' := [(8, _)]) ⟨rfl, trivial⟩ ?_)))
         refine Zc (Zw (Zu (Zj (Zbe (.tmp rfl) ?_))))
         first
         | exact ⟨_, rfl, fun h => absurd h (by decide)⟩
         | exact ⟨_, rfl, fun _ => ⟨hF, fun hk => hm7_8 hb7 , fun hk => hm9_8 hb9 hk⟩⟩
         | (refine ⟨_, rfl, fun _ => ⟨hF, fun hk => ?_, fun hk => ?_⟩⟩ <;> (exfalso; simp only [decide_eq_true_eq, decide_eq_false_iff_not] at *; omega))
        ·
         refine Zr (Zah (Zc (Zd (Za (ya rfl rfl (Zf (ρ' := [(8, _)]) ⟨rfl, trivial⟩ ?_))))))
         refine Zc (Zw (Zbe (.tmp rfl) ?_))
         first
         | exact ⟨_, rfl, fun h => absurd h (by decide)⟩
         | exact ⟨_, rfl, fun _ => ⟨hF, fun hk => hm7_8 hb7 , fun hk => hm9_8 hb9 hk⟩⟩
         | (refine ⟨_, rfl, fun _ => ⟨hF, fun hk => ?_, fun hk => ?_⟩⟩ <;> (exfalso; simp only [decide_eq_true_eq, decide_eq_false_iff_not] at *; omega))
       ·
        refine Zbu (fun ρ σ uci24 => VLe u uci24 ∧ σ = [(4, (none, .box (inlV k t d ti a.id vc vp va (.slice ad4 cites.length cap4) (.slice ad5 kids.length cap5))))] ∧ ρ = [(4, .p 4 0), (13, .v (.int .i64 k)), (61, .v (.bool (decide (k = 9 ∨ k = 10))))] ∧ (u = uci24)) ?_ ?_
        ·
         refine Zd (Za (Zg (Zaw rfl rfl rfl) rfl (ya rfl rfl (Zf (ρ' := [(4, _), (13, _), (61, _)]) ⟨rfl, rfl, rfl, trivial⟩ ?_))))
         refine Zc ?_
         refine Zo rfl (fun hb22 => ?_) (fun hb22 => ?_)
         ·
          refine Zr (Zab ?_)
          refine ⟨[(4, _), (13, _), (61, _)], [(4, _)], ⟨rfl, rfl, rfl, trivial⟩, ⟨rfl, trivial⟩, (VLe.refl _), rfl, (by first | rfl | (simp only [List.cons.injEq, Prod.mk.injEq, SV.v.injEq, Value.bool.injEq, eq_self, true_and, and_true]; exact decide_eq_decide.2 (by simp only [decide_eq_true_eq, decide_eq_false_iff_not] at *; omega))), ?_⟩
          rfl
         ·
          refine Za (Zg (Zaw rfl rfl rfl) rfl (ya rfl rfl (Zf (ρ' := [(4, _), (13, _), (61, _)]) ⟨rfl, rfl, rfl, trivial⟩ ?_)))
          refine Zab ?_
          refine ⟨[(4, _), (13, _), (61, _)], [(4, _)], ⟨rfl, rfl, rfl, trivial⟩, ⟨rfl, trivial⟩, (VLe.refl _), rfl, (by first | rfl | (simp only [List.cons.injEq, Prod.mk.injEq, SV.v.injEq, Value.bool.injEq, eq_self, true_and, and_true]; exact decide_eq_decide.2 (by simp only [decide_eq_true_eq, decide_eq_false_iff_not] at *; omega))), ?_⟩
          rfl
        ·
         rintro ρ σ uci24 ⟨hlci24, rfl, rfl, rfl⟩
         refine Zo rfl (fun hb23 => ?_) (fun hb23 => ?_)
         ·
          refine Zd (Za (Zg (Zi rfl Tryz.k42 rfl rfl rfl (vs := [_, _, _, _, _, _, _, _, _, _]) rfl rfl rfl) rfl (Zv rfl rfl ?_)))
          refine Zaa (caps := []) trivial rfl rfl Tryz.c166 rfl (FnP.mono (ktarget_fn k t d ti a args cites kids vc vp va (.slice ad4 cites.length cap4) (.slice ad5 kids.length cap5) u h0) ?_)
          rintro v u1 hle1 ⟨e1, rfl⟩
          refine ya rfl rfl (Zf (ρ' := [(8, _)]) ⟨rfl, trivial⟩ ?_)
          refine Zc (Zw (Zu (Zj (Zbe (.tmp rfl) ?_))))
          first
          | exact ⟨_, rfl, fun h => absurd h (by decide)⟩
          | exact ⟨_, rfl, fun _ => ⟨hF, fun hk => hm7_8 hb7 , fun hk => hm9_8 hb9 hk⟩⟩
          | (refine ⟨_, rfl, fun _ => ⟨hF, fun hk => ?_, fun hk => ?_⟩⟩ <;> (exfalso; simp only [decide_eq_true_eq, decide_eq_false_iff_not] at *; omega))
         ·
          refine Zd (Za (Zg (Zaw rfl rfl rfl) rfl (ya rfl rfl (Zf (ρ' := [(4, _), (13, _), (66, _)]) ⟨rfl, rfl, rfl, trivial⟩ ?_))))
          refine Zc ?_
          refine Zo rfl (fun hb25 => ?_) (fun hb25 => ?_)
          ·
           refine Zd (Zd (Za (Zg (Zh rfl Tryz.f42' rfl (by decide) rfl) rfl (Zg (Zi rfl Tryz.k39 rfl rfl rfl (vs := [_, _, _]) rfl rfl rfl) rfl (Zv rfl rfl ?_)))))
           refine Zaa (caps := []) trivial rfl rfl Tryz.c117 rfl (FnP.mono (noAttr_fn a vc vp u s1 s2) ?_)
           rintro v u1 hle1 rfl
           refine Zf (ρ' := [(4, _), (70, _)]) ⟨rfl, rfl, trivial⟩ ?_
           refine Zc ?_
           refine Zo rfl (fun hb26 => ?_) (fun hb26 => ?_)
           ·
            refine Zd (Za (ya rfl rfl (Zf (ρ' := [(8, _)]) ⟨rfl, trivial⟩ ?_)))
            refine Zc (Zw (Zj (Zu (Zj (Zbe (.tmp rfl) ?_)))))
            first
            | exact ⟨_, rfl, fun h => absurd h (by decide)⟩
            | exact ⟨_, rfl, fun _ => ⟨hF, fun hk => hm7_8 hb7 , fun hk => hm9_8 hb9 hk⟩⟩
            | (refine ⟨_, rfl, fun _ => ⟨hF, fun hk => ?_, fun hk => ?_⟩⟩ <;> (exfalso; simp only [decide_eq_true_eq, decide_eq_false_iff_not] at *; omega))
           ·
            refine Zr (Zc (Zd (Za (Zg (Zh rfl Tryz.f42' rfl (by decide) rfl) rfl (Zg (Zi rfl Tryz.k39 rfl rfl rfl (vs := [_, _, _]) rfl rfl rfl) rfl (Zv rfl rfl ?_))))))
            refine Zaa (caps := []) trivial rfl rfl Tryz.c121 rfl (FnP.mono (attrCheck_fn a vc vp ⟨by omega, q2, q3⟩ u s1 s2) ?_)
            rintro v u1 hle1 ⟨e2, rfl⟩
            refine ya rfl rfl (Zf (ρ' := [(8, _)]) ⟨rfl, trivial⟩ ?_)
            refine Zc (Zw (Zu (Zj (Zbe (.tmp rfl) ?_))))
            first
            | exact ⟨_, rfl, fun h => absurd h (by decide)⟩
            | exact ⟨_, rfl, fun _ => ⟨hF, fun hk => hm7_8 hb7 , fun hk => hm9_8 hb9 hk⟩⟩
            | (refine ⟨_, rfl, fun _ => ⟨hF, fun hk => ?_, fun hk => ?_⟩⟩ <;> (exfalso; simp only [decide_eq_true_eq, decide_eq_false_iff_not] at *; omega))
          ·
           refine Zbu (fun ρ σ uci32 => VLe u uci32 ∧ σ = [(4, (none, .box (inlV k t d ti a.id vc vp va (.slice ad4 cites.length cap4) (.slice ad5 kids.length cap5))))] ∧ ρ = [(4, .p 4 0), (13, .v (.int .i64 k)), (74, .v (.bool (decide (k = 12 ∨ k = 14 ∨ k = 15))))] ∧ (u = uci32)) ?_ ?_
           ·
            refine Zd (Za (Zg (Zaw rfl rfl rfl) rfl (ya rfl rfl (Zf (ρ' := [(4, _), (13, _), (74, _)]) ⟨rfl, rfl, rfl, trivial⟩ ?_))))
            refine Zc ?_
            refine Zo rfl (fun hb29 => ?_) (fun hb29 => ?_)
            ·
             refine Zr (Zab ?_)
             refine ⟨[(4, _), (13, _), (74, _)], [(4, _)], ⟨rfl, rfl, rfl, trivial⟩, ⟨rfl, trivial⟩, (VLe.refl _), rfl, (by first | rfl | (simp only [List.cons.injEq, Prod.mk.injEq, SV.v.injEq, Value.bool.injEq, eq_self, true_and, and_true]; exact decide_eq_decide.2 (by simp only [decide_eq_true_eq, decide_eq_false_iff_not] at *; omega))), ?_⟩
             rfl
            ·
             refine Zd (Za (Zg (Zaw rfl rfl rfl) rfl (ya rfl rfl (Zf (ρ' := [(4, _), (13, _), (74, _)]) ⟨rfl, rfl, rfl, trivial⟩ ?_))))
             refine Zc ?_
             refine Zo rfl (fun hb30 => ?_) (fun hb30 => ?_)
             ·
              refine Zr (Zab ?_)
              refine ⟨[(4, _), (13, _), (74, _)], [(4, _)], ⟨rfl, rfl, rfl, trivial⟩, ⟨rfl, trivial⟩, (VLe.refl _), rfl, (by first | rfl | (simp only [List.cons.injEq, Prod.mk.injEq, SV.v.injEq, Value.bool.injEq, eq_self, true_and, and_true]; exact decide_eq_decide.2 (by simp only [decide_eq_true_eq, decide_eq_false_iff_not] at *; omega))), ?_⟩
              rfl
             ·
              refine Za (Zg (Zaw rfl rfl rfl) rfl (ya rfl rfl (Zf (ρ' := [(4, _), (13, _), (74, _)]) ⟨rfl, rfl, rfl, trivial⟩ ?_)))
              refine Zab ?_
              refine ⟨[(4, _), (13, _), (74, _)], [(4, _)], ⟨rfl, rfl, rfl, trivial⟩, ⟨rfl, trivial⟩, (VLe.refl _), rfl, (by first | rfl | (simp only [List.cons.injEq, Prod.mk.injEq, SV.v.injEq, Value.bool.injEq, eq_self, true_and, and_true]; exact decide_eq_decide.2 (by simp only [decide_eq_true_eq, decide_eq_false_iff_not] at *; omega))), ?_⟩
              rfl
           ·
            rintro ρ σ uci32 ⟨hlci32, rfl, rfl, rfl⟩
            refine Zo rfl (fun hb31 => ?_) (fun hb31 => ?_)
            ·
             refine Zd (Za (Zg (Zi rfl Tryz.k42 rfl rfl rfl (vs := [_, _, _, _, _, _, _, _, _, _]) rfl rfl rfl) rfl (Zv rfl rfl ?_)))
             refine Zaa (caps := []) trivial rfl rfl Tryz.c167 rfl (FnP.mono (named_fn k t d ti a args cites kids vc vp va (.slice ad4 cites.length cap4) (.slice ad5 kids.length cap5) u h0) ?_)
             rintro v u1 hle1 ⟨e3, rfl⟩
             refine ya rfl rfl (Zf (ρ' := [(8, _)]) ⟨rfl, trivial⟩ ?_)
             refine Zc (Zw (Zu (Zj (Zbe (.tmp rfl) ?_))))
             first
             | exact ⟨_, rfl, fun h => absurd h (by decide)⟩
             | exact ⟨_, rfl, fun _ => ⟨hF, fun hk => hm7_8 hb7 , fun hk => hm9_8 hb9 hk⟩⟩
             | (refine ⟨_, rfl, fun _ => ⟨hF, fun hk => ?_, fun hk => ?_⟩⟩ <;> (exfalso; simp only [decide_eq_true_eq, decide_eq_false_iff_not] at *; omega))
            ·
             refine Zd (Za (Zg (Zaw rfl rfl rfl) rfl (ya rfl rfl (Zf (ρ' := [(4, _), (13, _), (80, _)]) ⟨rfl, rfl, rfl, trivial⟩ ?_))))
             refine Zc ?_
             refine Zo rfl (fun hb33 => ?_) (fun hb33 => ?_)
             ·
              refine Zd (Za (Zg (Zh rfl Tryz.f42' rfl (by decide) rfl) rfl (Zg (Zi rfl Tryz.k40 rfl rfl rfl (vs := [_]) rfl rfl rfl) rfl (Zv rfl rfl ?_))))
              refine Zaa (caps := []) trivial rfl rfl Tryz.c168 rfl (FnP.mono (cites_fn (.slice ad4 cites.length cap4) cites q6 q8 u ⟨_, _, rfl, s4⟩) ?_)
              rintro v u1 hle1 ⟨e4, rfl⟩
              refine ya rfl rfl (Zf (ρ' := [(8, _)]) ⟨rfl, trivial⟩ ?_)
              refine Zc (Zw (Zu (Zj (Zbe (.tmp rfl) ?_))))
              first
              | exact ⟨_, rfl, fun h => absurd h (by decide)⟩
              | exact ⟨_, rfl, fun _ => ⟨hF, fun hk => hm7_8 hb7 , fun hk => hm9_8 hb9 hk⟩⟩
              | (refine ⟨_, rfl, fun _ => ⟨hF, fun hk => ?_, fun hk => ?_⟩⟩ <;> (exfalso; simp only [decide_eq_true_eq, decide_eq_false_iff_not] at *; omega))
             ·
              refine Zd (Za (Zg (Zaw rfl rfl rfl) rfl (ya rfl rfl (Zf (ρ' := [(4, _), (85, _)]) ⟨rfl, rfl, trivial⟩ ?_))))
              refine Zc ?_
              refine Zo rfl (fun hb35 => ?_) (fun hb35 => ?_)
              ·
               refine Zd (Za (Zg (Zh rfl Tryz.f42' rfl (by decide) rfl) rfl (Zg (Zi rfl Tryz.k9 rfl rfl rfl (vs := [_]) rfl rfl rfl) rfl (Zv rfl rfl ?_))))
               refine Zaa (caps := []) trivial rfl rfl Tryz.c169 rfl (FnP.mono (auto_fn d (by omega) u) ?_)
               rintro v u1 hle1 ⟨b5, rfl⟩
               refine Zg (Zbr rfl rfl) rfl (Zf (ρ' := [(90, _)]) ⟨rfl, trivial⟩ ?_)
               refine Zc ?_
               refine Zo rfl (fun hb36 => ?_) (fun hb36 => ?_)
               ·
                refine Zd (Za (ya rfl rfl (Zf (ρ' := [(8, _)]) ⟨rfl, trivial⟩ ?_)))
                refine Zc (Zw (Zu (Zj (Zbe (.tmp rfl) ?_))))
                first
                | exact ⟨_, rfl, fun h => absurd h (by decide)⟩
                | exact ⟨_, rfl, fun _ => ⟨hF, fun hk => hm7_8 hb7 , fun hk => hm9_8 hb9 hk⟩⟩
                | (refine ⟨_, rfl, fun _ => ⟨hF, fun hk => ?_, fun hk => ?_⟩⟩ <;> (exfalso; simp only [decide_eq_true_eq, decide_eq_false_iff_not] at *; omega))
               ·
                refine Zr (Zah (Zc (Zd (Za (ya rfl rfl (Zf (ρ' := [(8, _)]) ⟨rfl, trivial⟩ ?_))))))
                refine Zc (Zw (Zbe (.tmp rfl) ?_))
                first
                | exact ⟨_, rfl, fun h => absurd h (by decide)⟩
                | exact ⟨_, rfl, fun _ => ⟨hF, fun hk => hm7_8 hb7 , fun hk => hm9_8 hb9 hk⟩⟩
                | (refine ⟨_, rfl, fun _ => ⟨hF, fun hk => ?_, fun hk => ?_⟩⟩ <;> (exfalso; simp only [decide_eq_true_eq, decide_eq_false_iff_not] at *; omega))
              ·
               refine Zr (Zah (Zc (Zd (Za (ya rfl rfl (Zf (ρ' := [(8, _)]) ⟨rfl, trivial⟩ ?_))))))
               refine Zc (Zw (Zbe (.tmp rfl) ?_))
               first
               | exact ⟨_, rfl, fun h => absurd h (by decide)⟩
               | exact ⟨_, rfl, fun _ => ⟨hF, fun hk => hm7_8 hb7 , fun hk => hm9_8 hb9 hk⟩⟩
               | (refine ⟨_, rfl, fun _ => ⟨hF, fun hk => ?_, fun hk => ?_⟩⟩ <;> (exfalso; simp only [decide_eq_true_eq, decide_eq_false_iff_not] at *; omega))
set_option maxHeartbeats 1000000 in
theorem lineList_fn (n : Nat) : ∀ (v : Value) (xs : List Inl) (dp : Int) (u : View), szI xs ≤ n → szI xs ≤ 100000 → smI xs → 0 ≤ dp → dp ≤ 16 → InlS u v xs →
  FnP Tryz.prog 154 [v, .int .i64 dp] u fun r _ => ∃ e : Int, r = .int .i64 e ∧ (e = 0 → okL 0 xs) := by
 induction n using Nat.strongRecOn with
 | _ n ih =>
 intro v xs dp u hsz hbig hsm hd0 hd1 ha
 have hlx := len_szI xs
 obtain ⟨cs, ⟨ad, cap, rfl, h1⟩, hc1⟩ := ha
 refine FnP.intro [.tmp 4] Tryz.func154 rfl rfl rfl ?_
 intro w0 D hw0
 refine Zd (Za (ya rfl rfl (Zf (ρ' := [(0, _), (1, _)]) ⟨rfl, rfl, trivial⟩ ?_)))
 refine Zc (Zd (Za (ya rfl rfl (Zf (ρ' := [(0, _), (1, _), (5, _)]) ⟨rfl, rfl, rfl, trivial⟩ ?_))))
 refine Zc (Zd (Zd (Za (ya rfl rfl (Zf (ρ' := [(0, _), (1, _), (5, _), (6, _)]) ⟨rfl, rfl, rfl, rfl, trivial⟩ ?_)))))
 refine Zc (Zad ?_)
 refine Zbc (fun m ρ σ u' => ∃ i : Nat, i + m = xs.length ∧ VLe u u' ∧ ∃ (bf : Int), σ = [] ∧ ρ = [(0, .v (.slice ad xs.length cap)), (1, .v (.int .i64 dp)), (5, .v (.int .i64 bf)), (6, .v (.int .i64 i))] ∧ (u = u' ∧ (okL bf (xs.drop i) → okL 0 xs))) (xs.length) ?_ ?_
 ·
  refine ⟨[(0, _), (1, _), (5, _), (6, _)], [], ⟨rfl, rfl, rfl, rfl, trivial⟩, trivial, 0, by omega, VLe.refl _, 0, (by first | rfl | simp), (by first | rfl | (simp only [List.cons.injEq, Prod.mk.injEq, SV.v.injEq, Value.int.injEq, true_and, and_true]; omega) | simp), ?_⟩
  exact ⟨rfl, fun h => h⟩
 ·
  rintro m ρ σ u' ⟨i, hi3, hle3, bf, rfl, rfl, ⟨rfl, hinv⟩⟩
  refine Zd (Zd (Za (ym rfl rfl (ym rfl rfl (Zg (Zaq rfl rfl Tryz.s35 rfl) rfl (Zg (Zbn rfl rfl rfl) rfl (Zf (ρ' := [(0, _), (1, _), (5, _), (6, _), (11, _)]) ⟨rfl, rfl, rfl, rfl, rfl, trivial⟩ ?_)))))))
  refine Zc ?_
  refine Zo rfl (fun hb3 => ?_) (fun hb3 => ?_)
  ·
   have hlt : i < xs.length := by have := of_decide_eq_true hb3; omega
   obtain ⟨k, t, d, ti, a, args, cites, kids, vc, vp, va, vt, vk, hg, hcut1, s1, s2, s3, s4, s5, hok⟩ := hc1.at hlt
   have oneAll := (hc1.get i _ hg).one
   rw [hcut1] at oneAll
   have hszk := szI_kids hg
   have hsmx := smI_get hsm hg
   have hK : InlK u a args cites kids vc vp va vt vk t d ti := ⟨s1, s2, s3, s4, s5, hsmx.1, by omega⟩
   refine Zr (Zc (Zd (Zad (Zd (Zd (Za (ym rfl rfl ?_)))))))
   refine Zg (Zcn rfl rfl rfl) rfl (Zf (ρ' := [(0, _), (1, _), (5, _), (6, _), (15, _)]) ⟨rfl, rfl, rfl, rfl, rfl, trivial⟩ ?_)
   refine Zc ?_
   refine Zo rfl (fun hb5 => ?_) (fun hb5 => ?_)
   ·
    skip
    refine Zd (Za (ya rfl rfl (Zf (ρ' := [(4, _)]) ⟨rfl, trivial⟩ ?_)))
    refine Zc (Zw (Zj (Zu (Zj (Zj (Zu (Zj ?_)))))))
    refine Zbe (.tmp rfl) ?_
    first
    | exact ⟨_, rfl, fun h => absurd h (by decide)⟩
    | exact ⟨_, rfl, fun h => absurd h (of_decide_eq_true hb11)⟩
    | exact ⟨_, rfl, fun h => absurd h (of_decide_eq_true hb8)⟩
    | exact ⟨_, rfl, fun h => hinv (by unfold okL; trivial)⟩
   ·
    have hd15 := of_decide_eq_false hb5
    refine Zr (Zc (Zd (Za (ym rfl rfl (ym rfl rfl (Zg (Zai rfl Tryz.s35 rfl rfl (by assumption) (by first | rfl | omega) (by omega)) rfl (Zg (Zag rfl Tryz.k42 rfl (by assumption) (by omega) (by assumption) (vs := [_, _, _, _, _, _, _, _, _, _]) rfl rfl rfl rfl) rfl ?_)))))))
    refine ym rfl rfl ?_
    refine Zbh 6 26 (fun _ => True) (ρk := [(0, _), (1, _), (6, _), (19, _), (20, _)]) ⟨rfl, rfl, rfl, rfl, rfl, trivial⟩ ?_ fun mb7_10 hm7_10 => ?_
    ·
     refine ym rfl rfl (Zg (Zaw rfl rfl rfl) rfl (ym rfl rfl ?_))
     refine Zae 23 rfl (fun hg7_7 => ?_) (fun hg7_7 => ?_)
     ·
      refine Zk rfl rfl (ym rfl rfl (Zk rfl rfl (Zg (Zaw rfl rfl rfl) rfl (Zg (Zl rfl rfl rfl) rfl ?_))))
      exact Zac rfl ⟨rfl, rfl, rfl, rfl, rfl, trivial⟩ (trivial)
     ·
      refine Zt rfl rfl rfl rfl (Zt rfl rfl rfl rfl (Zg (Zn rfl rfl rfl) rfl ?_))
      exact Zac rfl ⟨rfl, rfl, rfl, rfl, rfl, trivial⟩ (trivial)
    refine Zbh 9 35 (fun _ => True) (ρk := [(0, _), (1, _), (6, _), (19, _), (20, _), (26, _)]) ⟨rfl, rfl, rfl, rfl, rfl, rfl, trivial⟩ ?_ fun mb7_19 hm7_19 => ?_
    ·
     refine ym rfl rfl (Zg (Zaw rfl rfl rfl) rfl (ym rfl rfl ?_))
     refine Zae 29 rfl (fun hg7_13 => ?_) (fun hg7_13 => ?_)
     ·
      refine Zk rfl rfl (ym rfl rfl (Zk rfl rfl (ym rfl rfl (Zk rfl rfl (Zg (Zaq rfl rfl Tryz.s35 rfl) rfl (Zk rfl rfl (Zg (y_sub rfl rfl rfl (Zs (by omega))) rfl ?_)))))))
      refine Zk rfl rfl (Zg (Zaw rfl rfl rfl) rfl (Zg (Zl rfl rfl rfl) rfl ?_))
      exact Zac rfl ⟨rfl, rfl, rfl, rfl, rfl, rfl, trivial⟩ (trivial)
     ·
      iterate 5 refine Zt rfl rfl rfl rfl ?_
      refine Zg (Zn rfl rfl rfl) rfl ?_
      exact Zac rfl ⟨rfl, rfl, rfl, rfl, rfl, rfl, trivial⟩ (trivial)
    refine Zv rfl rfl ?_
    refine Zaa (caps := []) trivial rfl rfl Tryz.c162 rfl (FnP.mono (kone_fn k t d ti a args cites kids vc vp va vt vk bf _ _ u hK) ?_)
    rintro v u1 hle1 ⟨e1, rfl, he1⟩
    refine ya rfl rfl (Zf (ρ' := [(0, _), (1, _), (6, _), (7, _)]) ⟨rfl, rfl, rfl, rfl, trivial⟩ ?_)
    refine Zc (Zd (Zd (Za (ym rfl rfl (Zg (Zck rfl rfl rfl) rfl (Zf (ρ' := [(0, _), (1, _), (6, _), (7, _), (38, _)]) ⟨rfl, rfl, rfl, rfl, rfl, trivial⟩ ?_))))))
    refine Zc ?_
    refine Zo rfl (fun hb8 => ?_) (fun hb8 => ?_)
    ·
     refine Zd (Za (ym rfl rfl (ya rfl rfl (Zf (ρ' := [(4, _)]) ⟨rfl, trivial⟩ ?_))))
     refine Zc (Zw (Zj (Zu (Zj (Zj (Zu (Zj ?_)))))))
     refine Zbe (.tmp rfl) ?_
     first
     | exact ⟨_, rfl, fun h => absurd h (by decide)⟩
     | exact ⟨_, rfl, fun h => absurd h (of_decide_eq_true hb11)⟩
     | exact ⟨_, rfl, fun h => absurd h (of_decide_eq_true hb8)⟩
     | exact ⟨_, rfl, fun h => hinv (by unfold okL; trivial)⟩
    ·
     refine Zr (Zc (Zd (Za (ym rfl rfl (ym rfl rfl (Zg (Zai rfl Tryz.s35 rfl rfl (by assumption) (by first | rfl | omega) (by omega)) rfl (Zg (Zau rfl Tryz.f42' rfl (by decide) rfl) rfl ?_)))))))
     refine Zg (Zag rfl Tryz.k35 rfl (by assumption) (by omega) (by assumption) (vs := [_]) rfl rfl rfl rfl) rfl (ym rfl rfl (Zg (Zav rfl rfl rfl (Zs (by omega))) rfl ?_))
     refine Zv rfl rfl ?_
     refine Zaa (caps := []) trivial rfl rfl Tryz.c154 rfl (FnP.mono (ih (szI kids) (by omega) vk kids (dp + 1) u (Nat.le_refl _) (by omega) hsmx.2 (by omega) (by omega) s5) ?_)
     rintro v u1 hle1 ⟨e2, rfl, he2⟩
     refine ya rfl rfl (Zf (ρ' := [(0, _), (1, _), (6, _), (7, _)]) ⟨rfl, rfl, rfl, rfl, trivial⟩ ?_)
     refine Zc (Zd (Zd (Za (ym rfl rfl (Zg (Zck rfl rfl rfl) rfl (Zf (ρ' := [(0, _), (1, _), (6, _), (7, _), (49, _)]) ⟨rfl, rfl, rfl, rfl, rfl, trivial⟩ ?_))))))
     refine Zc ?_
     refine Zo rfl (fun hb11 => ?_) (fun hb11 => ?_)
     ·
      refine Zd (Za (ym rfl rfl (ya rfl rfl (Zf (ρ' := [(4, _)]) ⟨rfl, trivial⟩ ?_))))
      refine Zc (Zw (Zj (Zu (Zj (Zj (Zu (Zj ?_)))))))
      refine Zbe (.tmp rfl) ?_
      first
      | exact ⟨_, rfl, fun h => absurd h (by decide)⟩
      | exact ⟨_, rfl, fun h => absurd h (of_decide_eq_true hb11)⟩
      | exact ⟨_, rfl, fun h => absurd h (of_decide_eq_true hb8)⟩
      | exact ⟨_, rfl, fun h => hinv (by unfold okL; trivial)⟩
     ·
      refine Zr (Zc (Za (ym rfl rfl (ym rfl rfl (Zg (Zai rfl Tryz.s35 rfl rfl (by assumption) (by first | rfl | omega) (by omega)) rfl (Zg (Zau rfl Tryz.f42' rfl (by decide) rfl) rfl (Zg (Zag rfl Tryz.k3 rfl (by assumption) (by omega) (by assumption) (vs := [_]) rfl rfl rfl rfl) rfl ?_)))))))
      refine ya rfl rfl (Zf (ρ' := [(0, _), (1, _), (5, _), (6, _)]) ⟨rfl, rfl, rfl, rfl, trivial⟩ ?_)
      refine Zah (Zc (Za (ym rfl rfl (Zg (Zav rfl rfl rfl (Zs (by omega))) rfl ?_))))
      refine ya rfl rfl (Zf (ρ' := [(0, _), (1, _), (5, _), (6, _)]) ⟨rfl, rfl, rfl, rfl, trivial⟩ ?_)
      refine Zab ?_
      refine ⟨m - 1, [(0, _), (1, _), (5, _), (6, _)], [], by omega, ⟨rfl, rfl, rfl, rfl, trivial⟩, trivial, i + 1, by omega, hle3, k, (by first | rfl | simp), (by first | rfl | (simp only [List.cons.injEq, Prod.mk.injEq, SV.v.injEq, Value.int.injEq, true_and, and_true]; omega) | simp), ?_⟩
      have z1 : e1 = 0 := Decidable.of_not_not (of_decide_eq_false hb8)
      have z2 : e2 = 0 := Decidable.of_not_not (of_decide_eq_false hb11)
      obtain ⟨w1, w2, w3⟩ := he1 z1
      exact ⟨rfl, fun h => hinv (okL_step hg (by unfold okI1; exact ⟨w1, w2, he2 z2⟩) w3 h)⟩
  ·
   have hge := of_decide_eq_false hb3
   rw [List.drop_eq_nil_of_le (by omega)] at hinv
   refine Zax ?_
   refine Zq (Zq ?_)
   refine Zaf ?_
   refine Zc (Zd (Za (ya rfl rfl (Zf (ρ' := [(4, _)]) ⟨rfl, trivial⟩ ?_))))
   refine Zc (Zw (Zbe (.tmp rfl) ?_))
   first
   | exact ⟨_, rfl, fun h => absurd h (by decide)⟩
   | exact ⟨_, rfl, fun h => absurd h (of_decide_eq_true hb11)⟩
   | exact ⟨_, rfl, fun h => absurd h (of_decide_eq_true hb8)⟩
   | exact ⟨_, rfl, fun h => hinv (by unfold okL; trivial)⟩
theorem kline_fn (v : Value) (xs : List Inl) (u : View) (hbig : szI xs ≤ 100000) (hsm : smI xs) (ha : InlS u v xs) :
  FnP Tryz.prog 136 [v] u fun r _ => ∃ e : Int, r = .int .i64 e ∧ (e = 0 → okL 0 xs) := by
 refine FnP.intro [.tmp 2] Tryz.func136 rfl rfl rfl ?_
 intro w0 D hw0
 refine Zd (Za (ya rfl rfl (Zf (ρ' := [(0, _)]) ⟨rfl, trivial⟩ ?_)))
 refine Zc (Zd (Za (ym rfl rfl (Zv rfl rfl ?_))))
 refine Zaa (caps := []) trivial rfl rfl Tryz.c154 rfl (FnP.mono (lineList_fn (szI xs) v xs 0 u (Nat.le_refl _) hbig hsm (by omega) (by omega) ha) ?_)
 rintro v u1 hle1 ⟨e, rfl, he⟩
 refine ya rfl rfl (Zf (ρ' := [(2, _)]) ⟨rfl, trivial⟩ ?_)
 refine Zc (Zw (Zbe (.tmp rfl) ?_))
 exact ⟨_, rfl, he⟩
set_option linter.unusedSimpArgs false
set_option linter.unusedVariables false
set_option maxRecDepth 4000
structure BlkK (u : View) (a : DAttr) (line : List Inl) (kids : List Blk) (vc vp vl vk : Value) (inf t d ti : Bs) : Prop where
 s1 : StrS u vc a.classes
 s2 : PrS u vp a.pairs
 s3 : InlS u vl line
 s4 : BlkS u vk kids
 sm : inf.length + t.length + d.length + ti.length ≤ 100000 ∧ a.classes.length ≤ 40 ∧ a.pairs.length ≤ 40 ∧ longN a ≤ 9000
 sl : smI line
 sz : szI line ≤ 100000 ∧ szB kids ≤ 100000
def bF1 (k : Int) : Bool := decide (1 ≤ k) && decide (k ≤ 15)
def bF2 (k lv : Int) : Bool := bF1 k && (inB k [2, 8] || decide (lv = 0))
def bF3 (k lv : Int) (inf : Bs) : Bool := bF2 k lv && (inB k [3, 10, 13, 14, 15] || decide (inf = []))
def bF4 (k lv : Int) (inf t : Bs) : Bool := bF3 k lv inf && (inB k [3, 4] || decide (t = []))
def bF5 (k lv : Int) (inf t d ti : Bs) : Bool := bF4 k lv inf t && (decide (k = 15) || (decide (d = []) && decide (ti = [])))
def bF6 (k lv : Int) (inf t d ti : Bs) (a : DAttr) : Bool := bF5 k lv inf t d ti && (inB k [2, 4, 13] || noA a)
def bF7 (k lv : Int) (inf t d ti : Bs) (a : DAttr) (n : Nat) : Bool := bF6 k lv inf t d ti a && (inB k [1, 2, 12] || decide ((n : Int) = 0))
def bF8 (k lv : Int) (inf t d ti : Bs) (a : DAttr) (n m : Nat) : Bool := bF7 k lv inf t d ti a n && (inB k [6, 7, 8, 9, 10, 11, 13, 14] || decide ((m : Int) = 0))
theorem BlkK.one {u : View} {a : DAttr} {line : List Inl} {kids : List Blk} {vc vp vl vk : Value} {inf t d ti : Bs} (h : BlkK u a line kids vc vp vl vk inf t d ti) (k lv : Int) : (blkV k lv inf t d ti a.id vc vp vl vk).all Value.oneCell' = true := by
 have o1 := h.s1.one
 have o2 := h.s2.one
 obtain ⟨cs3, h3, -⟩ := h.s3
 obtain ⟨cs4, h4, -⟩ := h.s4
 have o3 := h3.one
 have o4 := h4.one
 simp only [blkV, List.all_cons, List.all_nil, o1, o2, o3, o4]
 rfl
theorem blockFields_fn (k lv : Int) (inf t d ti : Bs) (a : DAttr) (line : List Inl) (kids : List Blk) (vc vp vl vk : Value) (u : View) (h : BlkK u a line kids vc vp vl vk inf t d ti) :
  FnP Tryz.prog 97 [.agg (blkV k lv inf t d ti a.id vc vp vl vk).toArray] u fun r _ => r = .bool (bF8 k lv inf t d ti a line.length kids.length) := by
 have oneAll := h.one k lv
 obtain ⟨s1, s2, s3, s4, -, -, -⟩ := h
 have o1 := s1.one
 have o2 := s2.one
 obtain ⟨cs3, ⟨ad3, cap3, rfl, -⟩, -⟩ := s3
 obtain ⟨cs4, ⟨ad4, cap4, rfl, -⟩, -⟩ := s4
 refine FnP.intro [.tmp 2] Tryz.func97 rfl rfl rfl ?_
 intro w0 D hw0
 refine Zd (Za (Zv rfl rfl ?_))
 refine Zbx trivial rfl (cs := [_, _, _, _, _, _, _, _, _, _, _]) rfl rfl rfl rfl ?_
 refine ya rfl rfl (Zf (ρ' := [(1, _)]) ⟨rfl, trivial⟩ ?_)
 refine Zc (Zd (Za (Zg (Zh rfl Tryz.f59' rfl (by decide) rfl) rfl (Zg (Zi rfl Tryz.k3 rfl rfl rfl (vs := [_]) rfl rfl rfl) rfl (Zv rfl rfl ?_)))))
 refine Zak trivial Tryz.s158 Tryz.z3 (ps := [(_, _), (_, _)]) rfl (xs := [_, _]) rfl rfl rfl rfl rfl rfl rfl ?_
 refine Zv rfl rfl ?_
 refine Zcg (caps := []) 11 trivial rfl rfl Tryz.c116 rfl ?_
 intro adb capb ub hleb hslb
 refine ⟨_, rfl, FnP.mono (in4_fn k _ [2, 8] (by decide) ub ⟨_, _, rfl, hslb⟩) ?_⟩
 rintro v u1 hle1 rfl
 refine ya rfl rfl (Zf (ρ' := [(1, _), (3, _)]) ⟨rfl, rfl, trivial⟩ ?_)
 refine Zc (Zd (Za (Zg (Zh rfl Tryz.f59' rfl (by decide) rfl) rfl (Zg (Zi rfl Tryz.k3 rfl rfl rfl (vs := [_]) rfl rfl rfl) rfl (Zv rfl rfl ?_)))))
 refine Zak trivial Tryz.s158 Tryz.z3 (ps := [(_, _), (_, _), (_, _), (_, _), (_, _)]) rfl (xs := [_, _, _, _, _]) rfl rfl rfl rfl rfl rfl rfl ?_
 refine Zv rfl rfl ?_
 refine Zcg (caps := []) 15 trivial rfl rfl Tryz.c116 rfl ?_
 intro adb capb ub hleb hslb
 refine ⟨_, rfl, FnP.mono (in4_fn k _ [3, 10, 13, 14, 15] (by decide) ub ⟨_, _, rfl, hslb⟩) ?_⟩
 rintro v u1 hle1 rfl
 refine ya rfl rfl (Zf (ρ' := [(1, _), (3, _), (4, _)]) ⟨rfl, rfl, rfl, trivial⟩ ?_)
 refine Zc (Zd (Za (Zg (Zh rfl Tryz.f59' rfl (by decide) rfl) rfl (Zg (Zi rfl Tryz.k3 rfl rfl rfl (vs := [_]) rfl rfl rfl) rfl (Zv rfl rfl ?_)))))
 refine Zak trivial Tryz.s158 Tryz.z3 (ps := [(_, _), (_, _)]) rfl (xs := [_, _]) rfl rfl rfl rfl rfl rfl rfl ?_
 refine Zv rfl rfl ?_
 refine Zcg (caps := []) 19 trivial rfl rfl Tryz.c116 rfl ?_
 intro adb capb ub hleb hslb
 refine ⟨_, rfl, FnP.mono (in4_fn k _ [3, 4] (by decide) ub ⟨_, _, rfl, hslb⟩) ?_⟩
 rintro v u1 hle1 rfl
 refine ya rfl rfl (Zf (ρ' := [(1, _), (3, _), (4, _), (5, _)]) ⟨rfl, rfl, rfl, rfl, trivial⟩ ?_)
 refine Zc (Zd (Za (Zg (Zh rfl Tryz.f59' rfl (by decide) rfl) rfl (Zg (Zi rfl Tryz.k3 rfl rfl rfl (vs := [_]) rfl rfl rfl) rfl (Zv rfl rfl ?_)))))
 refine Zak trivial Tryz.s158 Tryz.z3 (ps := [(_, _), (_, _), (_, _)]) rfl (xs := [_, _, _]) rfl rfl rfl rfl rfl rfl rfl ?_
 refine Zv rfl rfl ?_
 refine Zcg (caps := []) 23 trivial rfl rfl Tryz.c116 rfl ?_
 intro adb capb ub hleb hslb
 refine ⟨_, rfl, FnP.mono (in4_fn k _ [2, 4, 13] (by decide) ub ⟨_, _, rfl, hslb⟩) ?_⟩
 rintro v u1 hle1 rfl
 refine ya rfl rfl (Zf (ρ' := [(1, _), (3, _), (4, _), (5, _), (6, _)]) ⟨rfl, rfl, rfl, rfl, rfl, trivial⟩ ?_)
 refine Zc (Zd (Za (Zg (Zh rfl Tryz.f59' rfl (by decide) rfl) rfl (Zg (Zi rfl Tryz.k3 rfl rfl rfl (vs := [_]) rfl rfl rfl) rfl (Zv rfl rfl ?_)))))
 refine Zak trivial Tryz.s158 Tryz.z3 (ps := [(_, _), (_, _), (_, _)]) rfl (xs := [_, _, _]) rfl rfl rfl rfl rfl rfl rfl ?_
 refine Zv rfl rfl ?_
 refine Zcg (caps := []) 27 trivial rfl rfl Tryz.c116 rfl ?_
 intro adb capb ub hleb hslb
 refine ⟨_, rfl, FnP.mono (in4_fn k _ [1, 2, 12] (by decide) ub ⟨_, _, rfl, hslb⟩) ?_⟩
 rintro v u1 hle1 rfl
 refine ya rfl rfl (Zf (ρ' := [(1, _), (3, _), (4, _), (5, _), (6, _), (7, _)]) ⟨rfl, rfl, rfl, rfl, rfl, rfl, trivial⟩ ?_)
 refine Zc (Zd (Za (Zg (Zh rfl Tryz.f59' rfl (by decide) rfl) rfl (Zg (Zi rfl Tryz.k3 rfl rfl rfl (vs := [_]) rfl rfl rfl) rfl (Zv rfl rfl ?_)))))
 refine Zak trivial Tryz.s158 Tryz.z3 (ps := [(_, _), (_, _), (_, _), (_, _), (_, _), (_, _), (_, _), (_, _)]) rfl (xs := [_, _, _, _, _, _, _, _]) rfl rfl rfl rfl rfl rfl rfl ?_
 refine Zv rfl rfl ?_
 refine Zcg (caps := []) 31 trivial rfl rfl Tryz.c116 rfl ?_
 intro adb capb ub hleb hslb
 refine ⟨_, rfl, FnP.mono (in4_fn k _ [6, 7, 8, 9, 10, 11, 13, 14] (by decide) ub ⟨_, _, rfl, hslb⟩) ?_⟩
 rintro v u1 hle1 rfl
 refine ya rfl rfl (Zf (ρ' := [(1, _), (3, _), (4, _), (5, _), (6, _), (7, _), (8, _)]) ⟨rfl, rfl, rfl, rfl, rfl, rfl, rfl, trivial⟩ ?_)
 refine Zc (Zd (Za ?_))
 refine Zcm 9 41 (bF1 k) (ρk := [(1, _), (3, _), (4, _), (5, _), (6, _), (7, _), (8, _)]) ⟨rfl, rfl, rfl, rfl, rfl, rfl, rfl, trivial⟩ ?_ ?_
 ·
  refine Zg (Zh rfl Tryz.f59' rfl (by decide) rfl) rfl (Zg (Zi rfl Tryz.k3 rfl rfl rfl (vs := [_]) rfl rfl rfl) rfl (Zg (Zci rfl rfl rfl) rfl (ym rfl rfl ?_)))
  refine Zae 36 rfl (fun hg7_3 => ?_) (fun hg7_3 => ?_)
  ·
   refine Zk rfl rfl (Zg (Zh rfl Tryz.f59' rfl (by decide) rfl) rfl (Zk rfl rfl (Zg (Zi rfl Tryz.k3 rfl rfl rfl (vs := [_]) rfl rfl rfl) rfl (Zk rfl rfl (Zg (y_leq rfl rfl rfl) rfl (Zg (Zl rfl rfl rfl) rfl (ym rfl rfl ?_)))))))
   exact Zam rfl ⟨rfl, rfl, rfl, rfl, rfl, rfl, rfl, trivial⟩ (by (unfold bF1; first | (rw [hg7_3]; rfl) | (rw [hg7_3]; simp)))
  ·
   iterate 3 refine Zt rfl rfl rfl rfl ?_
   refine Zg (Zn rfl rfl rfl) rfl (ym rfl rfl ?_)
   exact Zam rfl ⟨rfl, rfl, rfl, rfl, rfl, rfl, rfl, trivial⟩ (by (unfold bF1; first | (rw [hg7_3]; rfl) | (rw [hg7_3]; simp)))
 refine Zcm 8 49 (bF2 k lv) (ρk := [(1, _), (4, _), (5, _), (6, _), (7, _), (8, _)]) ⟨rfl, rfl, rfl, rfl, rfl, rfl, trivial⟩ ?_ ?_
 ·
  refine Zae 41 rfl (fun hg7_8 => ?_) (fun hg7_8 => ?_)
  ·
   refine Zk rfl rfl (ym rfl rfl (Zk rfl rfl (ym rfl rfl ?_)))
   refine Zae 43 rfl (fun hg7_10 => ?_) (fun hg7_10 => ?_)
   ·
    iterate 3 refine Zt rfl rfl rfl rfl ?_
    refine Zk rfl rfl (Zg (Zl rfl rfl rfl) rfl (Zg (Zl rfl rfl rfl) rfl (ym rfl rfl ?_)))
    exact Zam rfl ⟨rfl, rfl, rfl, rfl, rfl, rfl, trivial⟩ (by (unfold bF2; first | (rw [hg7_8]; rfl) | (rw [hg7_8, hg7_10]; simp)))
   ·
    refine Zk rfl rfl (Zg (Zh rfl Tryz.f59' rfl (by decide) rfl) rfl (Zk rfl rfl (Zg (Zi rfl Tryz.k3 rfl rfl rfl (vs := [_]) rfl rfl rfl) rfl (Zk rfl rfl (Zg (Zaw rfl rfl rfl) rfl (Zk rfl rfl (Zg (Zn rfl rfl rfl) rfl ?_)))))))
    refine Zg (Zl rfl rfl rfl) rfl (ym rfl rfl ?_)
    exact Zam rfl ⟨rfl, rfl, rfl, rfl, rfl, rfl, trivial⟩ (by (unfold bF2; first | (rw [hg7_8]; rfl) | (rw [hg7_8, hg7_10]; simp)))
  ·
   refine Zt rfl rfl rfl rfl (Zt rfl rfl rfl rfl ?_)
   iterate 3 refine Zbg rfl rfl rfl ?_
   refine Zt rfl rfl rfl rfl (Zg (Zn rfl rfl rfl) rfl (ym rfl rfl ?_))
   exact Zam rfl ⟨rfl, rfl, rfl, rfl, rfl, rfl, trivial⟩ (by (unfold bF2; first | (rw [hg7_8]; rfl) | (rw [hg7_8, hg7_10]; simp)))
 refine Zcm 8 57 (bF3 k lv inf) (ρk := [(1, _), (5, _), (6, _), (7, _), (8, _)]) ⟨rfl, rfl, rfl, rfl, rfl, trivial⟩ ?_ ?_
 ·
  refine Zae 49 rfl (fun hg7_16 => ?_) (fun hg7_16 => ?_)
  ·
   refine Zk rfl rfl (ym rfl rfl (Zk rfl rfl (ym rfl rfl ?_)))
   refine Zae 51 rfl (fun hg7_18 => ?_) (fun hg7_18 => ?_)
   ·
    iterate 3 refine Zt rfl rfl rfl rfl ?_
    refine Zk rfl rfl (Zg (Zl rfl rfl rfl) rfl (Zg (Zl rfl rfl rfl) rfl (ym rfl rfl ?_)))
    exact Zam rfl ⟨rfl, rfl, rfl, rfl, rfl, trivial⟩ (by (unfold bF3; first | (rw [hg7_16]; rfl) | (rw [hg7_16, hg7_18]; simp)))
   ·
    refine Zk rfl rfl (Zg (Zh rfl Tryz.f59' rfl (by decide) rfl) rfl (Zk rfl rfl (Zg (Zi rfl Tryz.k9 rfl rfl rfl (vs := [_]) rfl rfl rfl) rfl (Zk rfl rfl (Zg (Zba rfl rfl rfl) rfl (Zk rfl rfl (Zg (Zn rfl rfl rfl) rfl ?_)))))))
    refine Zg (Zl rfl rfl rfl) rfl (ym rfl rfl ?_)
    exact Zam rfl ⟨rfl, rfl, rfl, rfl, rfl, trivial⟩ (by (unfold bF3; first | (rw [hg7_16]; rfl) | (rw [hg7_16, hg7_18]; simp)))
  ·
   refine Zt rfl rfl rfl rfl (Zt rfl rfl rfl rfl ?_)
   iterate 3 refine Zbg rfl rfl rfl ?_
   refine Zt rfl rfl rfl rfl (Zg (Zn rfl rfl rfl) rfl (ym rfl rfl ?_))
   exact Zam rfl ⟨rfl, rfl, rfl, rfl, rfl, trivial⟩ (by (unfold bF3; first | (rw [hg7_16]; rfl) | (rw [hg7_16, hg7_18]; simp)))
 refine Zcm 8 65 (bF4 k lv inf t) (ρk := [(1, _), (6, _), (7, _), (8, _)]) ⟨rfl, rfl, rfl, rfl, trivial⟩ ?_ ?_
 ·
  refine Zae 57 rfl (fun hg7_24 => ?_) (fun hg7_24 => ?_)
  ·
   refine Zk rfl rfl (ym rfl rfl (Zk rfl rfl (ym rfl rfl ?_)))
   refine Zae 59 rfl (fun hg7_26 => ?_) (fun hg7_26 => ?_)
   ·
    iterate 3 refine Zt rfl rfl rfl rfl ?_
    refine Zk rfl rfl (Zg (Zl rfl rfl rfl) rfl (Zg (Zl rfl rfl rfl) rfl (ym rfl rfl ?_)))
    exact Zam rfl ⟨rfl, rfl, rfl, rfl, trivial⟩ (by (unfold bF4; first | (rw [hg7_24]; rfl) | (rw [hg7_24, hg7_26]; simp)))
   ·
    refine Zk rfl rfl (Zg (Zh rfl Tryz.f59' rfl (by decide) rfl) rfl (Zk rfl rfl (Zg (Zi rfl Tryz.k9 rfl rfl rfl (vs := [_]) rfl rfl rfl) rfl (Zk rfl rfl (Zg (Zba rfl rfl rfl) rfl (Zk rfl rfl (Zg (Zn rfl rfl rfl) rfl ?_)))))))
    refine Zg (Zl rfl rfl rfl) rfl (ym rfl rfl ?_)
    exact Zam rfl ⟨rfl, rfl, rfl, rfl, trivial⟩ (by (unfold bF4; first | (rw [hg7_24]; rfl) | (rw [hg7_24, hg7_26]; simp)))
  ·
   refine Zt rfl rfl rfl rfl (Zt rfl rfl rfl rfl ?_)
   iterate 3 refine Zbg rfl rfl rfl ?_
   refine Zt rfl rfl rfl rfl (Zg (Zn rfl rfl rfl) rfl (ym rfl rfl ?_))
   exact Zam rfl ⟨rfl, rfl, rfl, rfl, trivial⟩ (by (unfold bF4; first | (rw [hg7_24]; rfl) | (rw [hg7_24, hg7_26]; simp)))
 refine Zcm 15 80 (bF5 k lv inf t d ti) (ρk := [(1, _), (6, _), (7, _), (8, _)]) ⟨rfl, rfl, rfl, rfl, trivial⟩ ?_ ?_
 ·
  refine Zae 65 rfl (fun hg7_32 => ?_) (fun hg7_32 => ?_)
  ·
   refine Zk rfl rfl (Zg (Zh rfl Tryz.f59' rfl (by decide) rfl) rfl (Zk rfl rfl (Zg (Zi rfl Tryz.k3 rfl rfl rfl (vs := [_]) rfl rfl rfl) rfl (Zk rfl rfl (Zg (Zaw rfl rfl rfl) rfl (Zk rfl rfl (ym rfl rfl ?_)))))))
   refine Zae 69 rfl (fun hg7_36 => ?_) (fun hg7_36 => ?_)
   ·
    iterate 4 refine Zt rfl rfl rfl rfl ?_
    iterate 3 refine Zbg rfl rfl rfl ?_
    refine Zt rfl rfl rfl rfl (Zk rfl rfl (Zg (Zl rfl rfl rfl) rfl (Zg (Zl rfl rfl rfl) rfl (ym rfl rfl ?_))))
    exact Zam rfl ⟨rfl, rfl, rfl, rfl, trivial⟩ (by (unfold bF5; first | (rw [hg7_32]; rfl) | (rw [hg7_32, hg7_36]; rfl) | (rw [hg7_32, hg7_36, hg7_40]; rfl) | (rw [hg7_32, hg7_36, hg7_40]; simp)))
   ·
    refine Zk rfl rfl (Zg (Zh rfl Tryz.f59' rfl (by decide) rfl) rfl (Zk rfl rfl (Zg (Zi rfl Tryz.k9 rfl rfl rfl (vs := [_]) rfl rfl rfl) rfl (Zk rfl rfl (Zg (Zba rfl rfl rfl) rfl (Zk rfl rfl (ym rfl rfl ?_)))))))
    refine Zae 73 rfl (fun hg7_40 => ?_) (fun hg7_40 => ?_)
    ·
     refine Zk rfl rfl (Zg (Zh rfl Tryz.f59' rfl (by decide) rfl) rfl (Zk rfl rfl (Zg (Zi rfl Tryz.k9 rfl rfl rfl (vs := [_]) rfl rfl rfl) rfl (Zk rfl rfl (Zg (Zba rfl rfl rfl) rfl (Zk rfl rfl (Zg (Zl rfl rfl rfl) rfl ?_)))))))
     refine Zk rfl rfl (Zg (Zn rfl rfl rfl) rfl (Zg (Zl rfl rfl rfl) rfl (ym rfl rfl ?_)))
     exact Zam rfl ⟨rfl, rfl, rfl, rfl, trivial⟩ (by (unfold bF5; first | (rw [hg7_32]; rfl) | (rw [hg7_32, hg7_36]; rfl) | (rw [hg7_32, hg7_36, hg7_40]; rfl) | (rw [hg7_32, hg7_36, hg7_40]; simp)))
    ·
     iterate 3 refine Zt rfl rfl rfl rfl ?_
     refine Zk rfl rfl (Zg (Zn rfl rfl rfl) rfl (Zk rfl rfl (Zg (Zn rfl rfl rfl) rfl (Zg (Zl rfl rfl rfl) rfl (ym rfl rfl ?_)))))
     exact Zam rfl ⟨rfl, rfl, rfl, rfl, trivial⟩ (by (unfold bF5; first | (rw [hg7_32]; rfl) | (rw [hg7_32, hg7_36]; rfl) | (rw [hg7_32, hg7_36, hg7_40]; rfl) | (rw [hg7_32, hg7_36, hg7_40]; simp)))
  ·
   iterate 4 refine Zt rfl rfl rfl rfl ?_
   iterate 8 refine Zbg rfl rfl rfl ?_
   refine Zt rfl rfl rfl rfl (Zg (Zn rfl rfl rfl) rfl (ym rfl rfl ?_))
   exact Zam rfl ⟨rfl, rfl, rfl, rfl, trivial⟩ (by (unfold bF5; first | (rw [hg7_32]; rfl) | (rw [hg7_32, hg7_36]; rfl) | (rw [hg7_32, hg7_36, hg7_40]; rfl) | (rw [hg7_32, hg7_36, hg7_40]; simp)))
 refine Zcm 8 88 (bF6 k lv inf t d ti a) (ρk := [(1, _), (7, _), (8, _)]) ⟨rfl, rfl, rfl, trivial⟩ ?_ ?_
 ·
  refine Zae 80 rfl (fun hg7_47 => ?_) (fun hg7_47 => ?_)
  ·
   refine Zk rfl rfl (ym rfl rfl (Zk rfl rfl (ym rfl rfl ?_)))
   refine Zae 82 rfl (fun hg7_49 => ?_) (fun hg7_49 => ?_)
   ·
    iterate 3 refine Zt rfl rfl rfl rfl ?_
    refine Zk rfl rfl (Zg (Zl rfl rfl rfl) rfl (Zg (Zl rfl rfl rfl) rfl (ym rfl rfl ?_)))
    exact Zam rfl ⟨rfl, rfl, rfl, trivial⟩ (by (unfold bF6; first | (rw [hg7_47]; rfl) | (rw [hg7_47, hg7_49]; simp)))
   ·
    refine Zk rfl rfl (Zg (Zh rfl Tryz.f59' rfl (by decide) rfl) rfl (Zk rfl rfl (Zg (Zi rfl Tryz.k39 rfl rfl rfl (vs := [_, _, _]) rfl rfl rfl) rfl (Zk rfl rfl (Zv rfl rfl ?_)))))
    refine Zaa (caps := []) trivial rfl rfl Tryz.c117 rfl (FnP.mono (noAttr_fn a vc vp u s1 s2) ?_)
    rintro v u1 hle1 rfl
    refine Zk rfl rfl (Zg (Zn rfl rfl rfl) rfl (Zg (Zl rfl rfl rfl) rfl (ym rfl rfl ?_)))
    exact Zam rfl ⟨rfl, rfl, rfl, trivial⟩ (by (unfold bF6; first | (rw [hg7_47]; rfl) | (rw [hg7_47, hg7_49]; simp)))
  ·
   refine Zt rfl rfl rfl rfl (Zt rfl rfl rfl rfl ?_)
   iterate 3 refine Zbg rfl rfl rfl ?_
   refine Zt rfl rfl rfl rfl (Zg (Zn rfl rfl rfl) rfl (ym rfl rfl ?_))
   exact Zam rfl ⟨rfl, rfl, rfl, trivial⟩ (by (unfold bF6; first | (rw [hg7_47]; rfl) | (rw [hg7_47, hg7_49]; simp)))
 refine Zcm 9 97 (bF7 k lv inf t d ti a line.length) (ρk := [(1, _), (8, _)]) ⟨rfl, rfl, trivial⟩ ?_ ?_
 ·
  refine Zae 88 rfl (fun hg7_55 => ?_) (fun hg7_55 => ?_)
  ·
   refine Zk rfl rfl (ym rfl rfl (Zk rfl rfl (ym rfl rfl ?_)))
   refine Zae 90 rfl (fun hg7_57 => ?_) (fun hg7_57 => ?_)
   ·
    iterate 4 refine Zt rfl rfl rfl rfl ?_
    refine Zk rfl rfl (Zg (Zl rfl rfl rfl) rfl (Zg (Zl rfl rfl rfl) rfl (ym rfl rfl ?_)))
    exact Zam rfl ⟨rfl, rfl, trivial⟩ (by (unfold bF7; first | (rw [hg7_55]; rfl) | (rw [hg7_55, hg7_57]; simp)))
   ·
    refine Zk rfl rfl (Zg (Zh rfl Tryz.f59' rfl (by decide) rfl) rfl (Zk rfl rfl (Zg (Zi rfl Tryz.k35 rfl rfl rfl (vs := [_]) rfl rfl rfl) rfl (Zk rfl rfl (Zg (Zaq rfl rfl Tryz.s35 rfl) rfl (Zk rfl rfl (Zg (Zaw rfl rfl rfl) rfl ?_)))))))
    refine Zk rfl rfl (Zg (Zn rfl rfl rfl) rfl (Zg (Zl rfl rfl rfl) rfl (ym rfl rfl ?_)))
    exact Zam rfl ⟨rfl, rfl, trivial⟩ (by (unfold bF7; first | (rw [hg7_55]; rfl) | (rw [hg7_55, hg7_57]; simp)))
  ·
   refine Zt rfl rfl rfl rfl (Zt rfl rfl rfl rfl ?_)
   iterate 4 refine Zbg rfl rfl rfl ?_
   refine Zt rfl rfl rfl rfl (Zg (Zn rfl rfl rfl) rfl (ym rfl rfl ?_))
   exact Zam rfl ⟨rfl, rfl, trivial⟩ (by (unfold bF7; first | (rw [hg7_55]; rfl) | (rw [hg7_55, hg7_57]; simp)))
 refine Zcm 8 105 (bF8 k lv inf t d ti a line.length kids.length) (ρk := []) trivial ?_ ?_
 ·
  refine Zae 97 rfl (fun hg7_64 => ?_) (fun hg7_64 => ?_)
  ·
   refine Zk rfl rfl (ym rfl rfl (Zk rfl rfl (ym rfl rfl ?_)))
   refine Zae 99 rfl (fun hg7_66 => ?_) (fun hg7_66 => ?_)
   ·
    iterate 4 refine Zt rfl rfl rfl rfl ?_
    refine Zk rfl rfl (Zg (Zl rfl rfl rfl) rfl (Zg (Zl rfl rfl rfl) rfl ?_))
    exact Zam rfl trivial (by (unfold bF8; first | (rw [hg7_64]; rfl) | (rw [hg7_64, hg7_66]; simp)))
   ·
    refine Zk rfl rfl (Zg (Zh rfl Tryz.f59' rfl (by decide) rfl) rfl (Zk rfl rfl (Zg (Zi rfl Tryz.k23 rfl rfl rfl (vs := [_]) rfl rfl rfl) rfl (Zk rfl rfl (Zg (Zaq rfl rfl Tryz.s23 rfl) rfl (Zk rfl rfl (Zg (Zaw rfl rfl rfl) rfl ?_)))))))
    refine Zk rfl rfl (Zg (Zn rfl rfl rfl) rfl (Zg (Zl rfl rfl rfl) rfl ?_))
    exact Zam rfl trivial (by (unfold bF8; first | (rw [hg7_64]; rfl) | (rw [hg7_64, hg7_66]; simp)))
  ·
   refine Zt rfl rfl rfl rfl (Zt rfl rfl rfl rfl ?_)
   iterate 4 refine Zbg rfl rfl rfl ?_
   refine Zt rfl rfl rfl rfl (Zg (Zn rfl rfl rfl) rfl ?_)
   exact Zam rfl trivial (by (unfold bF8; first | (rw [hg7_64]; rfl) | (rw [hg7_64, hg7_66]; simp)))
 refine ya rfl rfl (Zf (ρ' := [(2, _)]) ⟨rfl, trivial⟩ ?_)
 refine Zc (Zw (Zbe (.tmp rfl) ?_))
 rfl
theorem place_fn (k j : Int) (u : View) : FnP Tryz.prog 98 [.int .i64 k, .int .i64 j] u fun r _ => ∃ x, r = .bool x := by
 refine FnP.intro [.tmp 4] Tryz.func98 rfl rfl rfl ?_
 intro w0 D hw0
 refine Zd (Za (ya rfl rfl (Zf (ρ' := [(0, _), (1, _)]) ⟨rfl, rfl, trivial⟩ ?_)))
 refine Zc (Zd (Zd (Za (ym rfl rfl (Zf (ρ' := [(0, _), (5, _)]) ⟨rfl, rfl, trivial⟩ ?_)))))
 refine Zc (Zad ?_)
 refine Zbu (fun ρ σ uci4 => VLe u uci4 ∧ σ = [] ∧ ρ = [(0, .v (.int .i64 k)), (5, .v (.int .i64 j)), (6, .v (.bool (decide (j = 7 ∨ j = 8))))] ∧ (u = uci4)) ?_ ?_
 ·
  refine Zd (Za (Zg (Zaw rfl rfl rfl) rfl (ya rfl rfl (Zf (ρ' := [(0, _), (5, _), (6, _)]) ⟨rfl, rfl, rfl, trivial⟩ ?_))))
  refine Zc ?_
  refine Zo rfl (fun hb2 => ?_) (fun hb2 => ?_)
  ·
   refine Zr (Zab ?_)
   refine ⟨[(0, _), (5, _), (6, _)], [], ⟨rfl, rfl, rfl, trivial⟩, trivial, (VLe.refl _), rfl, (by first | rfl | (simp only [List.cons.injEq, Prod.mk.injEq, SV.v.injEq, Value.bool.injEq, eq_self, true_and, and_true]; exact decide_eq_decide.2 (by simp only [decide_eq_true_eq, decide_eq_false_iff_not] at *; omega))), ?_⟩
   rfl
  ·
   refine Za (Zg (Zaw rfl rfl rfl) rfl (ya rfl rfl (Zf (ρ' := [(0, _), (5, _), (6, _)]) ⟨rfl, rfl, rfl, trivial⟩ ?_)))
   refine Zab ?_
   refine ⟨[(0, _), (5, _), (6, _)], [], ⟨rfl, rfl, rfl, trivial⟩, trivial, (VLe.refl _), rfl, (by first | rfl | (simp only [List.cons.injEq, Prod.mk.injEq, SV.v.injEq, Value.bool.injEq, eq_self, true_and, and_true]; exact decide_eq_decide.2 (by simp only [decide_eq_true_eq, decide_eq_false_iff_not] at *; omega))), ?_⟩
   rfl
 ·
  rintro ρ σ uci4 ⟨hlci4, rfl, rfl, rfl⟩
  refine Zo rfl (fun hb3 => ?_) (fun hb3 => ?_)
  ·
   refine Zd (Za (ym rfl rfl (Zg (Zaw rfl rfl rfl) rfl (ya rfl rfl (Zf (ρ' := [(4, _)]) ⟨rfl, trivial⟩ ?_)))))
   refine Zc (Zw (Zu (Zj (Zbe (.tmp rfl) ?_))))
   exact ⟨_, rfl⟩
  ·
   refine Zd (Za (Zg (Zaw rfl rfl rfl) rfl (ya rfl rfl (Zf (ρ' := [(0, _), (5, _), (11, _)]) ⟨rfl, rfl, rfl, trivial⟩ ?_))))
   refine Zc ?_
   refine Zo rfl (fun hb5 => ?_) (fun hb5 => ?_)
   ·
    refine Zd (Za (ym rfl rfl (Zg (Zaw rfl rfl rfl) rfl (ya rfl rfl (Zf (ρ' := [(4, _)]) ⟨rfl, trivial⟩ ?_)))))
    refine Zc (Zw (Zu (Zj (Zbe (.tmp rfl) ?_))))
    exact ⟨_, rfl⟩
   ·
    refine Zd (Za (Zg (Zaw rfl rfl rfl) rfl (ya rfl rfl (Zf (ρ' := [(0, _), (15, _)]) ⟨rfl, rfl, trivial⟩ ?_))))
    refine Zc ?_
    refine Zo rfl (fun hb7 => ?_) (fun hb7 => ?_)
    ·
     refine Zd (Za (ym rfl rfl (Zg (Zaw rfl rfl rfl) rfl (ya rfl rfl (Zf (ρ' := [(4, _)]) ⟨rfl, trivial⟩ ?_)))))
     refine Zc (Zw (Zu (Zj (Zbe (.tmp rfl) ?_))))
     exact ⟨_, rfl⟩
    ·
     refine Zr (Zah (Zc (Zd (Za ?_))))
     refine Zbh 10 28 (fun _ => True) (ρk := []) trivial ?_ fun mb9_9 hm9_9 => ?_
     ·
      refine ym rfl rfl (Zg (Zck rfl rfl rfl) rfl (ym rfl rfl ?_))
      refine Zae 21 rfl (fun hg9_2 => ?_) (fun hg9_2 => ?_)
      ·
       refine Zk rfl rfl (ym rfl rfl (Zk rfl rfl (Zg (Zck rfl rfl rfl) rfl (Zg (Zl rfl rfl rfl) rfl (ym rfl rfl ?_)))))
       refine Zae 25 rfl (fun hg9_6 => ?_) (fun hg9_6 => ?_)
       ·
        refine Zk rfl rfl (ym rfl rfl (Zk rfl rfl (Zg (Zck rfl rfl rfl) rfl (Zg (Zl rfl rfl rfl) rfl ?_))))
        exact Zac rfl trivial (trivial)
       ·
        refine Zt rfl rfl rfl rfl (Zt rfl rfl rfl rfl (Zg (Zn rfl rfl rfl) rfl ?_))
        exact Zac rfl trivial (trivial)
      ·
       refine Zt rfl rfl rfl rfl (Zt rfl rfl rfl rfl (Zg (Zn rfl rfl rfl) rfl (ym rfl rfl (Zt rfl rfl rfl rfl (Zt rfl rfl rfl rfl (Zg (Zn rfl rfl rfl) rfl ?_))))))
       exact Zac rfl trivial (trivial)
     refine ya rfl rfl (Zf (ρ' := [(4, _)]) ⟨rfl, trivial⟩ ?_)
     refine Zc (Zw (Zbe (.tmp rfl) ?_))
     exact ⟨_, rfl⟩
theorem table_fn (k lv : Int) (inf t d ti : Bs) (a : DAttr) (line : List Inl) (kids : List Blk) (vc vp vl vk : Value) (u : View) (h : BlkK u a line kids vc vp vl vk inf t d ti) :
  FnP Tryz.prog 122 [.agg (blkV k lv inf t d ti a.id vc vp vl vk).toArray] u fun r _ => ∃ e : Int, r = .int .i64 e := by
 have oneAll := h.one k lv
 obtain ⟨s1, s2, s3, s4, ⟨q1, q2, q3, q4⟩, -, ⟨-, hsz⟩⟩ := h
 have hlk := len_szB kids
 obtain ⟨cs4, ⟨ad4, cap4, rfl, h4⟩, hc4⟩ := s4
 refine FnP.intro [.tmp 2] Tryz.func122 rfl rfl rfl ?_
 intro w0 D hw0
 refine Zd (Za (Zv rfl rfl ?_))
 refine Zbx trivial rfl (cs := [_, _, _, _, _, _, _, _, _, _, _]) rfl rfl rfl rfl ?_
 refine ya rfl rfl (Zf (ρ' := [(1, _)]) ⟨rfl, trivial⟩ ?_)
 refine Zc (Zd (Zd (Za (Zg (Zh rfl Tryz.f59' rfl (by decide) rfl) rfl (Zg (Zi rfl Tryz.k9 rfl rfl rfl (vs := [_]) rfl rfl rfl) rfl (Zg (Zao rfl rfl Tryz.str9 rfl) rfl (Zg (Zcn rfl rfl rfl) rfl (Zf (ρ' := [(1, _), (8, _)]) ⟨rfl, rfl, trivial⟩ ?_))))))))
 refine Zc ?_
 refine Zo rfl (fun hb1 => ?_) (fun hb1 => ?_)
 ·
  refine Zd (Za (ya rfl rfl (Zf (ρ' := [(2, _)]) ⟨rfl, trivial⟩ ?_)))
  refine Zc (Zw (Zj (Zbe (.tmp rfl) ?_)))
  exact ⟨_, rfl⟩
 ·
  refine Zr (Zc (Zd (Zd (Za (Zg (Zh rfl Tryz.f59' rfl (by decide) rfl) rfl (Zg (Zi rfl Tryz.k9 rfl rfl rfl (vs := [_]) rfl rfl rfl) rfl (Zg (Zba rfl rfl rfl) rfl (Zf (ρ' := [(1, _), (11, _)]) ⟨rfl, rfl, trivial⟩ ?_))))))))
  refine Zc ?_
  refine Zo rfl (fun hb3 => ?_) (fun hb3 => ?_)
  ·
   refine Zd (Za (ya rfl rfl (Zf (ρ' := [(2, _)]) ⟨rfl, trivial⟩ ?_)))
   refine Zc (Zw (Zj (Zbe (.tmp rfl) ?_)))
   exact ⟨_, rfl⟩
  ·
   refine Zr (Zc (Zd (Zd (Za (ya rfl rfl (Zf (ρ' := [(1, _), (3, _)]) ⟨rfl, rfl, trivial⟩ ?_))))))
   refine Zc (Zad ?_)
   refine Zbc (fun m ρ σ u' => ∃ i : Nat, i + m = inf.length ∧ VLe u u' ∧ σ = [(1, (none, .box (blkV k lv inf t d ti a.id vc vp vl (.slice ad4 kids.length cap4))))] ∧ ρ = [(1, .p 1 0), (3, .v (.int .i64 i))] ∧ (u = u')) (inf.length) ?_ ?_
   ·
    refine ⟨[(1, _), (3, _)], [(1, _)], ⟨rfl, rfl, trivial⟩, ⟨rfl, trivial⟩, 0, by omega, VLe.refl _, (by first | rfl | simp), (by first | rfl | (simp only [List.cons.injEq, Prod.mk.injEq, SV.v.injEq, Value.int.injEq, true_and, and_true]; omega) | simp), ?_⟩
    rfl
   ·
    rintro m ρ σ u' ⟨i, hi6, hle6, rfl, rfl, rfl⟩
    refine Zd (Zd (Za (ym rfl rfl (Zg (Zh rfl Tryz.f59' rfl (by decide) rfl) rfl (Zg (Zi rfl Tryz.k9 rfl rfl rfl (vs := [_]) rfl rfl rfl) rfl (Zg (Zao rfl rfl Tryz.str9 rfl) rfl (Zg (Zbn rfl rfl rfl) rfl (Zf (ρ' := [(1, _), (3, _), (16, _)]) ⟨rfl, rfl, rfl, trivial⟩ ?_))))))))
    refine Zc ?_
    refine Zo rfl (fun hb6 => ?_) (fun hb6 => ?_)
    ·
     have hlt : i < inf.length := by have := of_decide_eq_true hb6; omega
     refine Zr (Zc (Zd (Zad (Zd (Za (Zg (Zh rfl Tryz.f59' rfl (by decide) rfl) rfl (Zg (Zi rfl Tryz.k9 rfl rfl rfl (vs := [_]) rfl rfl rfl) rfl ?_)))))))
     refine ym rfl rfl (ym rfl rfl (Zg (Zav rfl rfl rfl (Zs (by omega))) rfl ?_))
     refine Zg (Zcc rfl Tryz.str9 rfl (i := i) (j := i + 1) rfl rfl (by omega) (by omega)) rfl (Zv rfl rfl ?_)
     refine Zaa (caps := []) trivial rfl rfl Tryz.c141 rfl (FnP.mono (khas_fn _ _ (by simp; omega) (by decide) u) ?_)
     rintro v u1 hle1 ⟨b1, rfl⟩
     refine Zg (Zbr rfl rfl) rfl (Zf (ρ' := [(1, _), (3, _), (26, _)]) ⟨rfl, rfl, rfl, trivial⟩ ?_)
     refine Zc ?_
     refine Zo rfl (fun hb8 => ?_) (fun hb8 => ?_)
     ·
      refine Zd (Za (ya rfl rfl (Zf (ρ' := [(2, _)]) ⟨rfl, trivial⟩ ?_)))
      refine Zc (Zw (Zu (Zj (Zj (Zu (Zj (Zbe (.tmp rfl) ?_)))))))
      exact ⟨_, rfl⟩
     ·
      refine Zr (Zah (Zc (Za (ym rfl rfl (Zg (Zav rfl rfl rfl (Zs (by omega))) rfl ?_)))))
      refine ya rfl rfl (Zf (ρ' := [(1, _), (3, _)]) ⟨rfl, rfl, trivial⟩ ?_)
      refine Zab ?_
      refine ⟨m - 1, [(1, _), (3, _)], [(1, _)], by omega, ⟨rfl, rfl, trivial⟩, ⟨rfl, trivial⟩, i + 1, by omega, hle6, (by first | rfl | simp), (by first | rfl | (simp only [List.cons.injEq, Prod.mk.injEq, SV.v.injEq, Value.int.injEq, true_and, and_true]; omega) | simp), ?_⟩
      rfl
    ·
     skip
     refine Zax ?_
     refine Zq (Zq ?_)
     refine Zaf ?_
     refine Zc (Zd (Zd (Za (Zg (Zh rfl Tryz.f59' rfl (by decide) rfl) rfl (Zg (Zi rfl Tryz.k23 rfl rfl rfl (vs := [_]) rfl rfl rfl) rfl (Zg (Zaq rfl rfl Tryz.s23 rfl) rfl (Zg (Zaw rfl rfl rfl) rfl (Zf (ρ' := [(1, _), (30, _)]) ⟨rfl, rfl, trivial⟩ ?_))))))))
     refine Zc ?_
     refine Zo rfl (fun hb10 => ?_) (fun hb10 => ?_)
     ·
      refine Zd (Za (ya rfl rfl (Zf (ρ' := [(2, _)]) ⟨rfl, trivial⟩ ?_)))
      refine Zc (Zw (Zj (Zbe (.tmp rfl) ?_)))
      exact ⟨_, rfl⟩
     ·
      refine Zr (Zc (Zd (Zd (Za (ya rfl rfl (Zf (ρ' := [(1, _), (4, _)]) ⟨rfl, rfl, trivial⟩ ?_))))))
      refine Zc (Zad ?_)
      refine Zbc (fun m ρ σ u' => ∃ j : Nat, j + m = kids.length ∧ VLe u u' ∧ σ = [(1, (none, .box (blkV k lv inf t d ti a.id vc vp vl (.slice ad4 kids.length cap4))))] ∧ ρ = [(1, .p 1 0), (4, .v (.int .i64 j))] ∧ (u = u')) (kids.length) ?_ ?_
      ·
       refine ⟨[(1, _), (4, _)], [(1, _)], ⟨rfl, rfl, trivial⟩, ⟨rfl, trivial⟩, 0, by omega, VLe.refl _, (by first | rfl | simp), (by first | rfl | (simp only [List.cons.injEq, Prod.mk.injEq, SV.v.injEq, Value.int.injEq, true_and, and_true]; omega) | simp), ?_⟩
       rfl
      ·
       rintro mj ρ σ u' ⟨j, hi13, hle13, rfl, rfl, rfl⟩
       refine Zd (Zd (Za (ym rfl rfl (Zg (Zh rfl Tryz.f59' rfl (by decide) rfl) rfl (Zg (Zi rfl Tryz.k23 rfl rfl rfl (vs := [_]) rfl rfl rfl) rfl (Zg (Zaq rfl rfl Tryz.s23 rfl) rfl (Zg (Zbn rfl rfl rfl) rfl (Zf (ρ' := [(1, _), (4, _), (35, _)]) ⟨rfl, rfl, rfl, trivial⟩ ?_))))))))
       refine Zc ?_
       refine Zo rfl (fun hb13 => ?_) (fun hb13 => ?_)
       ·
        have hlt2 : j < kids.length := by have := of_decide_eq_true hb13; omega
        obtain ⟨k2, lv2, inf2, t2, d2, ti2, a2, line2, kids2, vc2, vp2, vl2, vk2, hg2, hcut2, -, -, -, s42, hok2⟩ := hc4.at hlt2
        obtain ⟨cs42, ⟨ad42, cap42, rfl, -⟩, -⟩ := s42
        refine Zr (Zc (Zd (Zad (Zd ?_))))
        refine Zbk Tryz.mixed rfl [(1, _)] ⟨rfl, trivial⟩ ?_
        refine Zal 0 rfl (by kernel_rfl) (Zb (Ze (Zb (Zb (Ze (Zb (Zan))))))) (Zh rfl Tryz.f59' rfl (by decide) rfl) rfl ?_
        refine Zal 1 rfl (by kernel_rfl) (Zb (Ze (Zb (Zb (Ze (Zb (Zan))))))) (Zi rfl Tryz.k23 rfl rfl rfl (vs := [_]) rfl rfl rfl) rfl ?_
        refine Zal 2 rfl (by kernel_rfl) (Zb (Ze (Zb (Zb (Ze (Zb (Zan))))))) (Zap rfl rfl) rfl ?_
        refine Zal 3 rfl (by kernel_rfl) (Zb (Ze (Zb (Zb (Ze (Zb (Zan))))))) (Zai rfl Tryz.s23 rfl rfl (by assumption) (by first | rfl | omega) (by omega)) rfl ?_
        refine Zal 4 rfl (by kernel_rfl) (Zb (Ze (Zb (Zb (Ze (Zb (Zan))))))) (Zau rfl Tryz.f59' rfl (by decide) rfl) rfl ?_
        refine Zal 5 rfl (by kernel_rfl) (Zb (Ze (Zb (Zb (Ze (Zb (Zan))))))) (Zag rfl Tryz.k23 rfl (by assumption) (by omega) (by assumption) (vs := [_]) rfl rfl rfl rfl) rfl ?_
        refine Zal 6 rfl (by kernel_rfl) (Zb (Ze (Zb (Zb (Ze (Zb (Zan))))))) (Zaq rfl rfl Tryz.s23 rfl) rfl ?_
        refine Zal 7 rfl (by kernel_rfl) (Zb (Ze (Zb (Zb (Ze (Zb (Zan))))))) (Zh rfl Tryz.f59' rfl (by decide) rfl) rfl ?_
        refine Zal 8 rfl (by kernel_rfl) (Zb (Ze (Zb (Zb (Ze (Zb (Zan))))))) (Zi rfl Tryz.k9 rfl rfl rfl (vs := [_]) rfl rfl rfl) rfl ?_
        refine Zal 9 rfl (by kernel_rfl) (Zb (Ze (Zb (Zb (Ze (Zb (Zan))))))) (Zao rfl rfl Tryz.str9 rfl) rfl ?_
        refine Zal 10 rfl (by kernel_rfl) (Zb (Ze (Zb (Zb (Ze (Zb (Zan))))))) (Zck rfl rfl rfl) rfl ?_
        refine Zbl (by kernel_rfl) (ρ' := [(1, _), (4, _), (48, _)]) ⟨rfl, rfl, rfl, trivial⟩ ?_
        refine Zc ?_
        refine Zo rfl (fun hb15 => ?_) (fun hb15 => ?_)
        ·
         refine Zd (Za (ya rfl rfl (Zf (ρ' := [(2, _)]) ⟨rfl, trivial⟩ ?_)))
         refine Zc (Zw (Zu (Zj (Zj (Zu (Zj (Zbe (.tmp rfl) ?_)))))))
         exact ⟨_, rfl⟩
        ·
         refine Zr (Zah (Zc (Za (ym rfl rfl (Zg (Zav rfl rfl rfl (Zs (by omega))) rfl ?_)))))
         refine ya rfl rfl (Zf (ρ' := [(1, _), (4, _)]) ⟨rfl, rfl, trivial⟩ ?_)
         refine Zab ?_
         refine ⟨mj - 1, [(1, _), (4, _)], [(1, _)], by omega, ⟨rfl, rfl, trivial⟩, ⟨rfl, trivial⟩, j + 1, by omega, hle13, (by first | rfl | simp), (by first | rfl | (simp only [List.cons.injEq, Prod.mk.injEq, SV.v.injEq, Value.int.injEq, true_and, and_true]; omega) | simp), ?_⟩
         rfl
       ·
        skip
        refine Zax ?_
        refine Zq (Zq ?_)
        refine Zaf ?_
        refine Zc (Zd (Za (ya rfl rfl (Zf (ρ' := [(2, _)]) ⟨rfl, trivial⟩ ?_))))
        refine Zc (Zw (Zbe (.tmp rfl) ?_))
        exact ⟨_, rfl⟩
theorem written_fn (k lv : Int) (inf t d ti : Bs) (a : DAttr) (line : List Inl) (kids : List Blk) (vc vp vl vk : Value) (u : View) (h : BlkK u a line kids vc vp vl vk inf t d ti) :
  FnP Tryz.prog 118 [.agg (blkV k lv inf t d ti a.id vc vp vl vk).toArray] u fun r _ => ∃ e : Int, r = .int .i64 e ∧ (e = 0 → okL 0 line) := by
 have oneAll := h.one k lv
 obtain ⟨s1, s2, s3, s4, ⟨q1, q2, q3, q4⟩, hsl, ⟨hsz, -⟩⟩ := h
 have s3' := s3
 obtain ⟨cs3, ⟨ad3, cap3, rfl, -⟩, -⟩ := s3'
 refine FnP.intro [.tmp 2] Tryz.func118 rfl rfl rfl ?_
 intro w0 D hw0
 refine Zd (Za (Zv rfl rfl ?_))
 refine Zbx trivial rfl (cs := [_, _, _, _, _, _, _, _, _, _, _]) rfl rfl rfl rfl ?_
 refine ya rfl rfl (Zf (ρ' := [(1, _)]) ⟨rfl, trivial⟩ ?_)
 refine Zc (Zd (Zd (Za ?_)))
 refine Zbh 9 12 (fun _ => True) (ρk := [(1, _)]) ⟨rfl, trivial⟩ ?_ fun mb1_8 hm1_8 => ?_
 ·
  refine Zg (Zh rfl Tryz.f59' rfl (by decide) rfl) rfl (Zg (Zi rfl Tryz.k3 rfl rfl rfl (vs := [_]) rfl rfl rfl) rfl (Zg (Zaw rfl rfl rfl) rfl (ym rfl rfl ?_)))
  refine Zae 7 rfl (fun hg1_3 => ?_) (fun hg1_3 => ?_)
  ·
   refine Zk rfl rfl (Zg (Zh rfl Tryz.f59' rfl (by decide) rfl) rfl (Zk rfl rfl (Zg (Zi rfl Tryz.k35 rfl rfl rfl (vs := [_]) rfl rfl rfl) rfl (Zk rfl rfl (Zg (Zaq rfl rfl Tryz.s35 rfl) rfl (Zk rfl rfl (Zg (Zaw rfl rfl rfl) rfl ?_)))))))
   refine Zg (Zl rfl rfl rfl) rfl ?_
   exact Zac rfl ⟨rfl, trivial⟩ (trivial)
  ·
   iterate 4 refine Zt rfl rfl rfl rfl ?_
   refine Zg (Zn rfl rfl rfl) rfl ?_
   exact Zac rfl ⟨rfl, trivial⟩ (trivial)
 refine Zf (ρ' := [(1, _), (12, _)]) ⟨rfl, rfl, trivial⟩ ?_
 refine Zc ?_
 refine Zo rfl (fun hb1 => ?_) (fun hb1 => ?_)
 ·
  refine Zd (Za (ya rfl rfl (Zf (ρ' := [(2, _)]) ⟨rfl, trivial⟩ ?_)))
  refine Zc (Zw (Zj (Zbe (.tmp rfl) ?_)))
  first
  | exact ⟨_, rfl, he2⟩
  | exact ⟨_, rfl, fun h => absurd h (by decide)⟩
  | exact ⟨_, rfl, fun h => absurd h (of_decide_eq_true hb7)⟩
 ·
  refine Zr (Zc (Zd (Zd (Za (Zg (Zh rfl Tryz.f59' rfl (by decide) rfl) rfl (Zg (Zi rfl Tryz.k3 rfl rfl rfl (vs := [_]) rfl rfl rfl) rfl (Zg (Zaw rfl rfl rfl) rfl (Zf (ρ' := [(1, _), (15, _)]) ⟨rfl, rfl, trivial⟩ ?_))))))))
  refine Zc ?_
  refine Zo rfl (fun hb3 => ?_) (fun hb3 => ?_)
  ·
   refine Zd (Zd (Za ?_))
   refine Zbh 8 23 (fun _ => True) (ρk := [(1, _)]) ⟨rfl, trivial⟩ ?_ fun mb4_7 hm4_7 => ?_
   ·
    refine Zg (Zh rfl Tryz.f59' rfl (by decide) rfl) rfl (Zg (Zi rfl Tryz.k3 rfl rfl rfl (vs := [_]) rfl rfl rfl) rfl (Zg (Zbn rfl rfl rfl) rfl (ym rfl rfl ?_)))
    refine Zae 19 rfl (fun hg4_3 => ?_) (fun hg4_3 => ?_)
    ·
     iterate 3 refine Zt rfl rfl rfl rfl ?_
     refine Zg (Zl rfl rfl rfl) rfl ?_
     exact Zac rfl ⟨rfl, trivial⟩ (trivial)
    ·
     refine Zk rfl rfl (Zg (Zh rfl Tryz.f59' rfl (by decide) rfl) rfl (Zk rfl rfl (Zg (Zi rfl Tryz.k3 rfl rfl rfl (vs := [_]) rfl rfl rfl) rfl (Zk rfl rfl (Zg (Zcn rfl rfl rfl) rfl (Zg (Zn rfl rfl rfl) rfl ?_))))))
     exact Zac rfl ⟨rfl, trivial⟩ (trivial)
   refine Zf (ρ' := [(1, _), (23, _)]) ⟨rfl, rfl, trivial⟩ ?_
   refine Zc ?_
   refine Zo rfl (fun hb4 => ?_) (fun hb4 => ?_)
   ·
    refine Zd (Za (ya rfl rfl (Zf (ρ' := [(2, _)]) ⟨rfl, trivial⟩ ?_)))
    refine Zc (Zw (Zj (Zj (Zbe (.tmp rfl) ?_))))
    first
    | exact ⟨_, rfl, he2⟩
    | exact ⟨_, rfl, fun h => absurd h (by decide)⟩
    | exact ⟨_, rfl, fun h => absurd h (of_decide_eq_true hb7)⟩
   ·
    refine Zr (Zc (Zd (Za (Zg (Zh rfl Tryz.f59' rfl (by decide) rfl) rfl (Zg (Zi rfl Tryz.k39 rfl rfl rfl (vs := [_, _, _]) rfl rfl rfl) rfl (Zv rfl rfl ?_))))))
    refine Zaa (caps := []) trivial rfl rfl Tryz.c121 rfl (FnP.mono (attrCheck_fn a vc vp ⟨by omega, q2, q3⟩ u s1 s2) ?_)
    rintro v u1 hle1 ⟨e1, rfl⟩
    refine ya rfl rfl (Zf (ρ' := [(1, _), (3, _)]) ⟨rfl, rfl, trivial⟩ ?_)
    refine Zc (Zd (Za (ym rfl rfl (Zg (Zck rfl rfl rfl) rfl (Zf (ρ' := [(1, _), (3, _), (28, _)]) ⟨rfl, rfl, rfl, trivial⟩ ?_)))))
    refine Zc ?_
    refine Zo rfl (fun hb7 => ?_) (fun hb7 => ?_)
    ·
     refine Zd (Za (ym rfl rfl (ya rfl rfl (Zf (ρ' := [(2, _)]) ⟨rfl, trivial⟩ ?_))))
     refine Zc (Zw (Zj (Zbe (.tmp rfl) ?_)))
     first
     | exact ⟨_, rfl, he2⟩
     | exact ⟨_, rfl, fun h => absurd h (by decide)⟩
     | exact ⟨_, rfl, fun h => absurd h (of_decide_eq_true hb7)⟩
    ·
     refine Zr (Zc (Zd (Zd (Za ?_))))
     refine Zbh 8 37 (fun _ => True) (ρk := [(1, _)]) ⟨rfl, trivial⟩ ?_ fun mb9_7 hm9_7 => ?_
     ·
      refine Zg (Zh rfl Tryz.f59' rfl (by decide) rfl) rfl (Zg (Zi rfl Tryz.k3 rfl rfl rfl (vs := [_]) rfl rfl rfl) rfl (Zg (Zck rfl rfl rfl) rfl (ym rfl rfl ?_)))
      refine Zae 33 rfl (fun hg9_3 => ?_) (fun hg9_3 => ?_)
      ·
       refine Zk rfl rfl (Zg (Zh rfl Tryz.f59' rfl (by decide) rfl) rfl (Zk rfl rfl (Zg (Zi rfl Tryz.k35 rfl rfl rfl (vs := [_]) rfl rfl rfl) rfl (Zk rfl rfl (Zv rfl rfl ?_)))))
       refine Zaa (caps := []) trivial rfl rfl Tryz.c135 rfl (FnP.mono (anyOf_fn (szI line) _ line true u (Nat.le_refl _) (by omega) s3) ?_)
       rintro v u1 hle1 ⟨b1, rfl⟩
       refine Zg (Zl rfl rfl rfl) rfl ?_
       exact Zac rfl ⟨rfl, trivial⟩ (trivial)
      ·
       iterate 3 refine Zt rfl rfl rfl rfl ?_
       refine Zg (Zn rfl rfl rfl) rfl ?_
       exact Zac rfl ⟨rfl, trivial⟩ (trivial)
     refine Zf (ρ' := [(1, _), (37, _)]) ⟨rfl, rfl, trivial⟩ ?_
     refine Zc ?_
     refine Zo rfl (fun hb9 => ?_) (fun hb9 => ?_)
     ·
      refine Zd (Za (ya rfl rfl (Zf (ρ' := [(2, _)]) ⟨rfl, trivial⟩ ?_)))
      refine Zc (Zw (Zj (Zbe (.tmp rfl) ?_)))
      first
      | exact ⟨_, rfl, he2⟩
      | exact ⟨_, rfl, fun h => absurd h (by decide)⟩
      | exact ⟨_, rfl, fun h => absurd h (of_decide_eq_true hb7)⟩
     ·
      refine Zr (Zc (Zd (Za (Zg (Zh rfl Tryz.f59' rfl (by decide) rfl) rfl (Zg (Zi rfl Tryz.k35 rfl rfl rfl (vs := [_]) rfl rfl rfl) rfl (Zv rfl rfl ?_))))))
      refine Zaa (caps := []) trivial rfl rfl Tryz.c136 rfl (FnP.mono (kline_fn _ line u hsz hsl s3) ?_)
      rintro v u1 hle1 ⟨e2, rfl, he2⟩
      refine ya rfl rfl (Zf (ρ' := [(2, _)]) ⟨rfl, trivial⟩ ?_)
      refine Zc (Zw (Zbe (.tmp rfl) ?_))
      first
      | exact ⟨_, rfl, he2⟩
      | exact ⟨_, rfl, fun h => absurd h (by decide)⟩
      | exact ⟨_, rfl, fun h => absurd h (of_decide_eq_true hb7)⟩
  ·
   refine Zr (Zc (Zd (Zd (Za ?_))))
   refine Zbh 8 37 (fun _ => True) (ρk := [(1, _)]) ⟨rfl, trivial⟩ ?_ fun mb9_7 hm9_7 => ?_
   ·
    refine Zg (Zh rfl Tryz.f59' rfl (by decide) rfl) rfl (Zg (Zi rfl Tryz.k3 rfl rfl rfl (vs := [_]) rfl rfl rfl) rfl (Zg (Zck rfl rfl rfl) rfl (ym rfl rfl ?_)))
    refine Zae 33 rfl (fun hg9_3 => ?_) (fun hg9_3 => ?_)
    ·
     refine Zk rfl rfl (Zg (Zh rfl Tryz.f59' rfl (by decide) rfl) rfl (Zk rfl rfl (Zg (Zi rfl Tryz.k35 rfl rfl rfl (vs := [_]) rfl rfl rfl) rfl (Zk rfl rfl (Zv rfl rfl ?_)))))
     refine Zaa (caps := []) trivial rfl rfl Tryz.c135 rfl (FnP.mono (anyOf_fn (szI line) _ line true u (Nat.le_refl _) (by omega) s3) ?_)
     rintro v u1 hle1 ⟨b1, rfl⟩
     refine Zg (Zl rfl rfl rfl) rfl ?_
     exact Zac rfl ⟨rfl, trivial⟩ (trivial)
    ·
     iterate 3 refine Zt rfl rfl rfl rfl ?_
     refine Zg (Zn rfl rfl rfl) rfl ?_
     exact Zac rfl ⟨rfl, trivial⟩ (trivial)
   refine Zf (ρ' := [(1, _), (37, _)]) ⟨rfl, rfl, trivial⟩ ?_
   refine Zc ?_
   refine Zo rfl (fun hb9 => ?_) (fun hb9 => ?_)
   ·
    refine Zd (Za (ya rfl rfl (Zf (ρ' := [(2, _)]) ⟨rfl, trivial⟩ ?_)))
    refine Zc (Zw (Zj (Zbe (.tmp rfl) ?_)))
    first
    | exact ⟨_, rfl, he2⟩
    | exact ⟨_, rfl, fun h => absurd h (by decide)⟩
    | exact ⟨_, rfl, fun h => absurd h (of_decide_eq_true hb7)⟩
   ·
    refine Zr (Zc (Zd (Za (Zg (Zh rfl Tryz.f59' rfl (by decide) rfl) rfl (Zg (Zi rfl Tryz.k35 rfl rfl rfl (vs := [_]) rfl rfl rfl) rfl (Zv rfl rfl ?_))))))
    refine Zaa (caps := []) trivial rfl rfl Tryz.c136 rfl (FnP.mono (kline_fn _ line u hsz hsl s3) ?_)
    rintro v u1 hle1 ⟨e2, rfl, he2⟩
    refine ya rfl rfl (Zf (ρ' := [(2, _)]) ⟨rfl, trivial⟩ ?_)
    refine Zc (Zw (Zbe (.tmp rfl) ?_))
    first
    | exact ⟨_, rfl, he2⟩
    | exact ⟨_, rfl, fun h => absurd h (by decide)⟩
    | exact ⟨_, rfl, fun h => absurd h (of_decide_eq_true hb7)⟩
set_option maxHeartbeats 1000000 in
theorem itself_fn (k lv : Int) (inf t d ti : Bs) (a : DAttr) (line : List Inl) (kids : List Blk) (vc vp vl vk : Value) (u : View) (h : BlkK u a line kids vc vp vl vk inf t d ti) :
  FnP Tryz.prog 99 [.agg (blkV k lv inf t d ti a.id vc vp vl vk).toArray] u fun r _ => ∃ e : Int, r = .int .i64 e ∧ (e = 0 → (k = 1 ∨ k = 2 ∨ k = 12) → okL 0 line) := by
 have oneAll := h.one k lv
 have h0 := h
 obtain ⟨s1, s2, s3, s4, ⟨q1, q2, q3, q4⟩, hsl, ⟨hsz, -⟩⟩ := h
 obtain ⟨cs4, ⟨ad4, cap4, rfl, -⟩, -⟩ := s4
 refine FnP.intro [.tmp 2] Tryz.func99 rfl rfl rfl ?_
 intro w0 D hw0
 refine Zd (Za (Zv rfl rfl ?_))
 refine Zbx trivial rfl (cs := [_, _, _, _, _, _, _, _, _, _, _]) rfl rfl rfl rfl ?_
 refine ya rfl rfl (Zf (ρ' := [(1, _)]) ⟨rfl, trivial⟩ ?_)
 refine Zc (Zd (Zd (Za (Zg (Zh rfl Tryz.f59' rfl (by decide) rfl) rfl (Zg (Zi rfl Tryz.k3 rfl rfl rfl (vs := [_]) rfl rfl rfl) rfl (Zf (ρ' := [(1, _), (4, _)]) ⟨rfl, rfl, trivial⟩ ?_))))))
 refine Zc (Zad ?_)
 refine Zbu (fun ρ σ uci5 => VLe u uci5 ∧ σ = [(1, (none, .box (blkV k lv inf t d ti a.id vc vp vl (.slice ad4 kids.length cap4))))] ∧ ρ = [(1, .p 1 0), (4, .v (.int .i64 k)), (5, .v (.bool (decide (k = 1 ∨ k = 2 ∨ k = 12))))] ∧ (u = uci5)) ?_ ?_
 ·
  refine Zd (Za (Zg (Zaw rfl rfl rfl) rfl (ya rfl rfl (Zf (ρ' := [(1, _), (4, _), (5, _)]) ⟨rfl, rfl, rfl, trivial⟩ ?_))))
  refine Zc ?_
  refine Zo rfl (fun hb2 => ?_) (fun hb2 => ?_)
  ·
   refine Zr (Zab ?_)
   refine ⟨[(1, _), (4, _), (5, _)], [(1, _)], ⟨rfl, rfl, rfl, trivial⟩, ⟨rfl, trivial⟩, (VLe.refl _), rfl, (by first | rfl | (simp only [List.cons.injEq, Prod.mk.injEq, SV.v.injEq, Value.bool.injEq, eq_self, true_and, and_true]; exact decide_eq_decide.2 (by simp only [decide_eq_true_eq, decide_eq_false_iff_not] at *; omega))), ?_⟩
   rfl
  ·
   refine Zd (Za (Zg (Zaw rfl rfl rfl) rfl (ya rfl rfl (Zf (ρ' := [(1, _), (4, _), (5, _)]) ⟨rfl, rfl, rfl, trivial⟩ ?_))))
   refine Zc ?_
   refine Zo rfl (fun hb3 => ?_) (fun hb3 => ?_)
   ·
    refine Zr (Zab ?_)
    refine ⟨[(1, _), (4, _), (5, _)], [(1, _)], ⟨rfl, rfl, rfl, trivial⟩, ⟨rfl, trivial⟩, (VLe.refl _), rfl, (by first | rfl | (simp only [List.cons.injEq, Prod.mk.injEq, SV.v.injEq, Value.bool.injEq, eq_self, true_and, and_true]; exact decide_eq_decide.2 (by simp only [decide_eq_true_eq, decide_eq_false_iff_not] at *; omega))), ?_⟩
    rfl
   ·
    refine Za (Zg (Zaw rfl rfl rfl) rfl (ya rfl rfl (Zf (ρ' := [(1, _), (4, _), (5, _)]) ⟨rfl, rfl, rfl, trivial⟩ ?_)))
    refine Zab ?_
    refine ⟨[(1, _), (4, _), (5, _)], [(1, _)], ⟨rfl, rfl, rfl, trivial⟩, ⟨rfl, trivial⟩, (VLe.refl _), rfl, (by first | rfl | (simp only [List.cons.injEq, Prod.mk.injEq, SV.v.injEq, Value.bool.injEq, eq_self, true_and, and_true]; exact decide_eq_decide.2 (by simp only [decide_eq_true_eq, decide_eq_false_iff_not] at *; omega))), ?_⟩
    rfl
 ·
  rintro ρ σ uci5 ⟨hlci5, rfl, rfl, rfl⟩
  refine Zo rfl (fun hb4 => ?_) (fun hb4 => ?_)
  ·
   refine Zd (Za (Zg (Zi rfl Tryz.k59 rfl rfl rfl (vs := [_, _, _, _, _, _, _, _, _, _, _]) rfl rfl rfl) rfl (Zv rfl rfl ?_)))
   refine Zaa (caps := []) trivial rfl rfl Tryz.c118 rfl (FnP.mono (written_fn k lv inf t d ti a line kids vc vp vl _ u h0) ?_)
   rintro v u1 hle1 ⟨e1, rfl, he1⟩
   refine ya rfl rfl (Zf (ρ' := [(2, _)]) ⟨rfl, trivial⟩ ?_)
   refine Zc (Zw (Zu (Zj (Zbe (.tmp rfl) ?_))))
   first
   | exact ⟨_, rfl, fun h => absurd h (by decide)⟩
   | exact ⟨_, rfl, fun h _ => he1 h⟩
   | (refine ⟨_, rfl, fun _ hk => ?_⟩; exfalso; simp only [decide_eq_true_eq, decide_eq_false_iff_not] at *; omega)
  ·
   refine Zd (Za (Zg (Zaw rfl rfl rfl) rfl (ya rfl rfl (Zf (ρ' := [(1, _), (4, _), (11, _)]) ⟨rfl, rfl, rfl, trivial⟩ ?_))))
   refine Zc ?_
   refine Zo rfl (fun hb6 => ?_) (fun hb6 => ?_)
   ·
    refine Zd (Za ?_)
    refine Zbh 16 28 (fun _ => True) (ρk := []) trivial ?_ fun mb7_15 hm7_15 => ?_
    ·
     refine Zg (Zh rfl Tryz.f59' rfl (by decide) rfl) rfl (Zg (Zi rfl Tryz.k9 rfl rfl rfl (vs := [_]) rfl rfl rfl) rfl (Zv rfl rfl ?_))
     refine Zaa (caps := []) trivial rfl rfl Tryz.c35 rfl (FnP.mono (line4_fn inf (by omega) u) ?_)
     rintro v u1 hle1 ⟨b1, rfl, _⟩
     refine Zg (Zbr rfl rfl) rfl (ym rfl rfl ?_)
     refine Zae 17 rfl (fun hg7_4 => ?_) (fun hg7_4 => ?_)
     ·
      iterate 4 refine Zt rfl rfl rfl rfl ?_
      refine Zg (Zl rfl rfl rfl) rfl (ym rfl rfl ?_)
      iterate 4 refine Zt rfl rfl rfl rfl ?_
      refine Zg (Zl rfl rfl rfl) rfl ?_
      exact Zac rfl trivial (trivial)
     ·
      refine Zk rfl rfl (Zg (Zh rfl Tryz.f59' rfl (by decide) rfl) rfl (Zk rfl rfl (Zg (Zi rfl Tryz.k9 rfl rfl rfl (vs := [_]) rfl rfl rfl) rfl (Zk rfl rfl (Zv rfl rfl ?_)))))
      refine Zaa (caps := []) trivial rfl rfl Tryz.c36 rfl (FnP.mono (trimmed4_fn inf (by omega) u) ?_)
      rintro v u1 hle1 ⟨b2, rfl⟩
      refine Zk rfl rfl (Zg (Zbr rfl rfl) rfl (Zg (Zn rfl rfl rfl) rfl (ym rfl rfl ?_)))
      refine Zae 23 rfl (fun hg7_10 => ?_) (fun hg7_10 => ?_)
      ·
       iterate 4 refine Zt rfl rfl rfl rfl ?_
       refine Zg (Zl rfl rfl rfl) rfl ?_
       exact Zac rfl trivial (trivial)
      ·
       refine Zk rfl rfl (Zg (Zh rfl Tryz.f59' rfl (by decide) rfl) rfl (Zk rfl rfl (Zg (Zi rfl Tryz.k9 rfl rfl rfl (vs := [_]) rfl rfl rfl) rfl (Zk rfl rfl (Zv rfl rfl ?_)))))
       refine Zaa (caps := []) trivial rfl rfl Tryz.c119 rfl (FnP.mono (body_fn t (by omega) u) ?_)
       rintro v u1 hle1 ⟨b3, rfl⟩
       refine Zk rfl rfl (Zg (Zbr rfl rfl) rfl (Zg (Zn rfl rfl rfl) rfl ?_))
       exact Zac rfl trivial (trivial)
    refine Zf (ρ' := [(28, _)]) ⟨rfl, trivial⟩ ?_
    refine Zc ?_
    refine Zo rfl (fun hb7 => ?_) (fun hb7 => ?_)
    ·
     refine Zd (Za (ya rfl rfl (Zf (ρ' := [(2, _)]) ⟨rfl, trivial⟩ ?_)))
     refine Zc (Zw (Zu (Zj (Zbe (.tmp rfl) ?_))))
     first
     | exact ⟨_, rfl, fun h => absurd h (by decide)⟩
     | exact ⟨_, rfl, fun h _ => he1 h⟩
     | (refine ⟨_, rfl, fun _ hk => ?_⟩; exfalso; simp only [decide_eq_true_eq, decide_eq_false_iff_not] at *; omega)
    ·
     refine Zr (Zah (Zc (Zd (Za (ya rfl rfl (Zf (ρ' := [(2, _)]) ⟨rfl, trivial⟩ ?_))))))
     refine Zc (Zw (Zbe (.tmp rfl) ?_))
     first
     | exact ⟨_, rfl, fun h => absurd h (by decide)⟩
     | exact ⟨_, rfl, fun h _ => he1 h⟩
     | (refine ⟨_, rfl, fun _ hk => ?_⟩; exfalso; simp only [decide_eq_true_eq, decide_eq_false_iff_not] at *; omega)
   ·
    refine Zd (Za (Zg (Zaw rfl rfl rfl) rfl (ya rfl rfl (Zf (ρ' := [(1, _), (4, _), (29, _)]) ⟨rfl, rfl, rfl, trivial⟩ ?_))))
    refine Zc ?_
    refine Zo rfl (fun hb9 => ?_) (fun hb9 => ?_)
    ·
     refine Zd (Zd (Za (Zg (Zh rfl Tryz.f59' rfl (by decide) rfl) rfl (Zg (Zi rfl Tryz.k9 rfl rfl rfl (vs := [_]) rfl rfl rfl) rfl (Zv rfl rfl ?_)))))
     refine Zaa (caps := []) trivial rfl rfl Tryz.c119 rfl (FnP.mono (body_fn t (by omega) u) ?_)
     rintro v u1 hle1 ⟨b4, rfl⟩
     refine Zg (Zbr rfl rfl) rfl (Zf (ρ' := [(1, _), (34, _)]) ⟨rfl, rfl, trivial⟩ ?_)
     refine Zc ?_
     refine Zo rfl (fun hb10 => ?_) (fun hb10 => ?_)
     ·
      refine Zd (Za (ya rfl rfl (Zf (ρ' := [(2, _)]) ⟨rfl, trivial⟩ ?_)))
      refine Zc (Zw (Zj (Zu (Zj (Zbe (.tmp rfl) ?_)))))
      first
      | exact ⟨_, rfl, fun h => absurd h (by decide)⟩
      | exact ⟨_, rfl, fun h _ => he1 h⟩
      | (refine ⟨_, rfl, fun _ hk => ?_⟩; exfalso; simp only [decide_eq_true_eq, decide_eq_false_iff_not] at *; omega)
     ·
      refine Zr (Zc (Zd (Zd (Za (Zg (Zh rfl Tryz.f59' rfl (by decide) rfl) rfl (Zg (Zi rfl Tryz.k9 rfl rfl rfl (vs := [_]) rfl rfl rfl) rfl (Zv rfl rfl ?_)))))))
      refine Zaa (caps := []) trivial rfl rfl Tryz.c120 rfl (FnP.mono (closes_fn t (by omega) u) ?_)
      rintro v u1 hle1 ⟨b5, rfl⟩
      refine Zf (ρ' := [(1, _), (37, _)]) ⟨rfl, rfl, trivial⟩ ?_
      refine Zc ?_
      refine Zo rfl (fun hb12 => ?_) (fun hb12 => ?_)
      ·
       refine Zd (Za (ya rfl rfl (Zf (ρ' := [(2, _)]) ⟨rfl, trivial⟩ ?_)))
       refine Zc (Zw (Zj (Zu (Zj (Zbe (.tmp rfl) ?_)))))
       first
       | exact ⟨_, rfl, fun h => absurd h (by decide)⟩
       | exact ⟨_, rfl, fun h _ => he1 h⟩
       | (refine ⟨_, rfl, fun _ hk => ?_⟩; exfalso; simp only [decide_eq_true_eq, decide_eq_false_iff_not] at *; omega)
      ·
       refine Zr (Zc (Zd (Za (Zg (Zh rfl Tryz.f59' rfl (by decide) rfl) rfl (Zg (Zi rfl Tryz.k39 rfl rfl rfl (vs := [_, _, _]) rfl rfl rfl) rfl (Zv rfl rfl ?_))))))
       refine Zaa (caps := []) trivial rfl rfl Tryz.c121 rfl (FnP.mono (attrCheck_fn a vc vp ⟨by omega, q2, q3⟩ u s1 s2) ?_)
       rintro v u1 hle1 ⟨e2, rfl⟩
       refine ya rfl rfl (Zf (ρ' := [(2, _)]) ⟨rfl, trivial⟩ ?_)
       refine Zc (Zw (Zu (Zj (Zbe (.tmp rfl) ?_))))
       first
       | exact ⟨_, rfl, fun h => absurd h (by decide)⟩
       | exact ⟨_, rfl, fun h _ => he1 h⟩
       | (refine ⟨_, rfl, fun _ hk => ?_⟩; exfalso; simp only [decide_eq_true_eq, decide_eq_false_iff_not] at *; omega)
    ·
     refine Zbu (fun ρ σ uci17 => VLe u uci17 ∧ σ = [(1, (none, .box (blkV k lv inf t d ti a.id vc vp vl (.slice ad4 kids.length cap4))))] ∧ ρ = [(1, .p 1 0), (4, .v (.int .i64 k)), (41, .v (.bool (decide (k = 7 ∨ k = 8))))] ∧ (u = uci17)) ?_ ?_
     ·
      refine Zd (Za (Zg (Zaw rfl rfl rfl) rfl (ya rfl rfl (Zf (ρ' := [(1, _), (4, _), (41, _)]) ⟨rfl, rfl, rfl, trivial⟩ ?_))))
      refine Zc ?_
      refine Zo rfl (fun hb15 => ?_) (fun hb15 => ?_)
      ·
       refine Zr (Zab ?_)
       refine ⟨[(1, _), (4, _), (41, _)], [(1, _)], ⟨rfl, rfl, rfl, trivial⟩, ⟨rfl, trivial⟩, (VLe.refl _), rfl, (by first | rfl | (simp only [List.cons.injEq, Prod.mk.injEq, SV.v.injEq, Value.bool.injEq, eq_self, true_and, and_true]; exact decide_eq_decide.2 (by simp only [decide_eq_true_eq, decide_eq_false_iff_not] at *; omega))), ?_⟩
       rfl
      ·
       refine Za (Zg (Zaw rfl rfl rfl) rfl (ya rfl rfl (Zf (ρ' := [(1, _), (4, _), (41, _)]) ⟨rfl, rfl, rfl, trivial⟩ ?_)))
       refine Zab ?_
       refine ⟨[(1, _), (4, _), (41, _)], [(1, _)], ⟨rfl, rfl, rfl, trivial⟩, ⟨rfl, trivial⟩, (VLe.refl _), rfl, (by first | rfl | (simp only [List.cons.injEq, Prod.mk.injEq, SV.v.injEq, Value.bool.injEq, eq_self, true_and, and_true]; exact decide_eq_decide.2 (by simp only [decide_eq_true_eq, decide_eq_false_iff_not] at *; omega))), ?_⟩
       rfl
     ·
      rintro ρ σ uci17 ⟨hlci17, rfl, rfl, rfl⟩
      refine Zo rfl (fun hb16 => ?_) (fun hb16 => ?_)
      ·
       refine Zd (Zd (Za (Zg (Zh rfl Tryz.f59' rfl (by decide) rfl) rfl (Zg (Zi rfl Tryz.k23 rfl rfl rfl (vs := [_]) rfl rfl rfl) rfl (Zg (Zaq rfl rfl Tryz.s23 rfl) rfl (Zg (Zaw rfl rfl rfl) rfl (Zf (ρ' := [(1, _), (47, _)]) ⟨rfl, rfl, trivial⟩ ?_)))))))
       refine Zc ?_
       refine Zo rfl (fun hb17 => ?_) (fun hb17 => ?_)
       ·
        refine Zd (Za (ya rfl rfl (Zf (ρ' := [(2, _)]) ⟨rfl, trivial⟩ ?_)))
        refine Zc (Zw (Zj (Zu (Zj (Zbe (.tmp rfl) ?_)))))
        first
        | exact ⟨_, rfl, fun h => absurd h (by decide)⟩
        | exact ⟨_, rfl, fun h _ => he1 h⟩
        | (refine ⟨_, rfl, fun _ hk => ?_⟩; exfalso; simp only [decide_eq_true_eq, decide_eq_false_iff_not] at *; omega)
       ·
        refine Zr (Zc (Zd (Za ?_)))
        refine Zbh 13 60 (fun _ => True) (ρk := []) trivial ?_ fun mb19_12 hm19_12 => ?_
        ·
         refine Zg (Zh rfl Tryz.f59' rfl (by decide) rfl) rfl (Zg (Zi rfl Tryz.k3 rfl rfl rfl (vs := [_]) rfl rfl rfl) rfl (Zg (Zaw rfl rfl rfl) rfl (ym rfl rfl ?_)))
         refine Zae 51 rfl (fun hg19_3 => ?_) (fun hg19_3 => ?_)
         ·
          refine Zk rfl rfl (Zg (Zh rfl Tryz.f59' rfl (by decide) rfl) rfl (Zk rfl rfl (Zg (Zi rfl Tryz.k3 rfl rfl rfl (vs := [_]) rfl rfl rfl) rfl (Zk rfl rfl (Zg (Zbn rfl rfl rfl) rfl (Zk rfl rfl (ym rfl rfl ?_)))))))
          refine Zae 55 rfl (fun hg19_7 => ?_) (fun hg19_7 => ?_)
          ·
           iterate 3 refine Zt rfl rfl rfl rfl ?_
           refine Zk rfl rfl (Zg (Zl rfl rfl rfl) rfl (Zg (Zl rfl rfl rfl) rfl ?_))
           exact Zac rfl trivial (trivial)
          ·
           refine Zk rfl rfl (Zg (Zh rfl Tryz.f59' rfl (by decide) rfl) rfl (Zk rfl rfl (Zg (Zi rfl Tryz.k3 rfl rfl rfl (vs := [_]) rfl rfl rfl) rfl (Zk rfl rfl (Zg (Zcn rfl rfl rfl) rfl (Zk rfl rfl (Zg (Zn rfl rfl rfl) rfl ?_)))))))
           refine Zg (Zl rfl rfl rfl) rfl ?_
           exact Zac rfl trivial (trivial)
         ·
          iterate 4 refine Zt rfl rfl rfl rfl ?_
          iterate 3 refine Zbg rfl rfl rfl ?_
          refine Zt rfl rfl rfl rfl (Zg (Zn rfl rfl rfl) rfl ?_)
          exact Zac rfl trivial (trivial)
        refine Zf (ρ' := [(60, _)]) ⟨rfl, trivial⟩ ?_
        refine Zc ?_
        refine Zo rfl (fun hb19 => ?_) (fun hb19 => ?_)
        ·
         refine Zd (Za (ya rfl rfl (Zf (ρ' := [(2, _)]) ⟨rfl, trivial⟩ ?_)))
         refine Zc (Zw (Zu (Zj (Zbe (.tmp rfl) ?_))))
         first
         | exact ⟨_, rfl, fun h => absurd h (by decide)⟩
         | exact ⟨_, rfl, fun h _ => he1 h⟩
         | (refine ⟨_, rfl, fun _ hk => ?_⟩; exfalso; simp only [decide_eq_true_eq, decide_eq_false_iff_not] at *; omega)
        ·
         refine Zr (Zah (Zc (Zd (Za (ya rfl rfl (Zf (ρ' := [(2, _)]) ⟨rfl, trivial⟩ ?_))))))
         refine Zc (Zw (Zbe (.tmp rfl) ?_))
         first
         | exact ⟨_, rfl, fun h => absurd h (by decide)⟩
         | exact ⟨_, rfl, fun h _ => he1 h⟩
         | (refine ⟨_, rfl, fun _ hk => ?_⟩; exfalso; simp only [decide_eq_true_eq, decide_eq_false_iff_not] at *; omega)
      ·
       refine Zd (Za (Zg (Zaw rfl rfl rfl) rfl (ya rfl rfl (Zf (ρ' := [(1, _), (4, _), (61, _)]) ⟨rfl, rfl, rfl, trivial⟩ ?_))))
       refine Zc ?_
       refine Zo rfl (fun hb21 => ?_) (fun hb21 => ?_)
       ·
        refine Zd (Za (Zg (Zi rfl Tryz.k59 rfl rfl rfl (vs := [_, _, _, _, _, _, _, _, _, _, _]) rfl rfl rfl) rfl (Zv rfl rfl ?_)))
        refine Zaa (caps := []) trivial rfl rfl Tryz.c122 rfl (FnP.mono (table_fn k lv inf t d ti a line kids vc vp vl _ u h0) ?_)
        rintro v u1 hle1 ⟨e3, rfl⟩
        refine ya rfl rfl (Zf (ρ' := [(2, _)]) ⟨rfl, trivial⟩ ?_)
        refine Zc (Zw (Zu (Zj (Zbe (.tmp rfl) ?_))))
        first
        | exact ⟨_, rfl, fun h => absurd h (by decide)⟩
        | exact ⟨_, rfl, fun h _ => he1 h⟩
        | (refine ⟨_, rfl, fun _ hk => ?_⟩; exfalso; simp only [decide_eq_true_eq, decide_eq_false_iff_not] at *; omega)
       ·
        refine Zbu (fun ρ σ uci25 => VLe u uci25 ∧ σ = [(1, (none, .box (blkV k lv inf t d ti a.id vc vp vl (.slice ad4 kids.length cap4))))] ∧ ρ = [(1, .p 1 0), (4, .v (.int .i64 k)), (65, .v (.bool (decide (k = 13 ∨ k = 14))))] ∧ (u = uci25)) ?_ ?_
        ·
         refine Zd (Za (Zg (Zaw rfl rfl rfl) rfl (ya rfl rfl (Zf (ρ' := [(1, _), (4, _), (65, _)]) ⟨rfl, rfl, rfl, trivial⟩ ?_))))
         refine Zc ?_
         refine Zo rfl (fun hb23 => ?_) (fun hb23 => ?_)
         ·
          refine Zr (Zab ?_)
          refine ⟨[(1, _), (4, _), (65, _)], [(1, _)], ⟨rfl, rfl, rfl, trivial⟩, ⟨rfl, trivial⟩, (VLe.refl _), rfl, (by first | rfl | (simp only [List.cons.injEq, Prod.mk.injEq, SV.v.injEq, Value.bool.injEq, eq_self, true_and, and_true]; exact decide_eq_decide.2 (by simp only [decide_eq_true_eq, decide_eq_false_iff_not] at *; omega))), ?_⟩
          rfl
         ·
          refine Za (Zg (Zaw rfl rfl rfl) rfl (ya rfl rfl (Zf (ρ' := [(1, _), (4, _), (65, _)]) ⟨rfl, rfl, rfl, trivial⟩ ?_)))
          refine Zab ?_
          refine ⟨[(1, _), (4, _), (65, _)], [(1, _)], ⟨rfl, rfl, rfl, trivial⟩, ⟨rfl, trivial⟩, (VLe.refl _), rfl, (by first | rfl | (simp only [List.cons.injEq, Prod.mk.injEq, SV.v.injEq, Value.bool.injEq, eq_self, true_and, and_true]; exact decide_eq_decide.2 (by simp only [decide_eq_true_eq, decide_eq_false_iff_not] at *; omega))), ?_⟩
          rfl
        ·
         rintro ρ σ uci25 ⟨hlci25, rfl, rfl, rfl⟩
         refine Zo rfl (fun hb24 => ?_) (fun hb24 => ?_)
         ·
          refine Zd (Zd (Za (Zg (Zh rfl Tryz.f59' rfl (by decide) rfl) rfl (Zg (Zi rfl Tryz.k9 rfl rfl rfl (vs := [_]) rfl rfl rfl) rfl (Zv rfl rfl ?_)))))
          refine Zaa (caps := []) trivial rfl rfl Tryz.c34 rfl (FnP.mono (name_fn inf (by omega) u) ?_)
          rintro v u1 hle1 ⟨b6, rfl, _⟩
          refine Zg (Zbr rfl rfl) rfl (Zf (ρ' := [(1, _), (71, _)]) ⟨rfl, rfl, trivial⟩ ?_)
          refine Zc ?_
          refine Zo rfl (fun hb25 => ?_) (fun hb25 => ?_)
          ·
           refine Zd (Za (ya rfl rfl (Zf (ρ' := [(2, _)]) ⟨rfl, trivial⟩ ?_)))
           refine Zc (Zw (Zj (Zu (Zj (Zbe (.tmp rfl) ?_)))))
           first
           | exact ⟨_, rfl, fun h => absurd h (by decide)⟩
           | exact ⟨_, rfl, fun h _ => he1 h⟩
           | (refine ⟨_, rfl, fun _ hk => ?_⟩; exfalso; simp only [decide_eq_true_eq, decide_eq_false_iff_not] at *; omega)
          ·
           refine Zr (Zc (Zd (Za (Zg (Zh rfl Tryz.f59' rfl (by decide) rfl) rfl (Zg (Zi rfl Tryz.k39 rfl rfl rfl (vs := [_, _, _]) rfl rfl rfl) rfl (Zv rfl rfl ?_))))))
           refine Zaa (caps := []) trivial rfl rfl Tryz.c121 rfl (FnP.mono (attrCheck_fn a vc vp ⟨by omega, q2, q3⟩ u s1 s2) ?_)
           rintro v u1 hle1 ⟨e4, rfl⟩
           refine ya rfl rfl (Zf (ρ' := [(2, _)]) ⟨rfl, trivial⟩ ?_)
           refine Zc (Zw (Zu (Zj (Zbe (.tmp rfl) ?_))))
           first
           | exact ⟨_, rfl, fun h => absurd h (by decide)⟩
           | exact ⟨_, rfl, fun h _ => he1 h⟩
           | (refine ⟨_, rfl, fun _ hk => ?_⟩; exfalso; simp only [decide_eq_true_eq, decide_eq_false_iff_not] at *; omega)
         ·
          refine Zd (Za (Zg (Zaw rfl rfl rfl) rfl (ya rfl rfl (Zf (ρ' := [(1, _), (75, _)]) ⟨rfl, rfl, trivial⟩ ?_))))
          refine Zc ?_
          refine Zo rfl (fun hb28 => ?_) (fun hb28 => ?_)
          ·
           refine Zd (Zd (Za (Zg (Zh rfl Tryz.f59' rfl (by decide) rfl) rfl (Zg (Zi rfl Tryz.k9 rfl rfl rfl (vs := [_]) rfl rfl rfl) rfl (Zv rfl rfl ?_)))))
           refine Zaa (caps := []) trivial rfl rfl Tryz.c123 rfl (FnP.mono (label_fn inf (by omega) u) ?_)
           rintro v u1 hle1 ⟨b7, rfl⟩
           refine Zg (Zbr rfl rfl) rfl (Zf (ρ' := [(1, _), (80, _)]) ⟨rfl, rfl, trivial⟩ ?_)
           refine Zc ?_
           refine Zo rfl (fun hb29 => ?_) (fun hb29 => ?_)
           ·
            refine Zd (Za (ya rfl rfl (Zf (ρ' := [(2, _)]) ⟨rfl, trivial⟩ ?_)))
            refine Zc (Zw (Zj (Zu (Zj (Zbe (.tmp rfl) ?_)))))
            first
            | exact ⟨_, rfl, fun h => absurd h (by decide)⟩
            | exact ⟨_, rfl, fun h _ => he1 h⟩
            | (refine ⟨_, rfl, fun _ hk => ?_⟩; exfalso; simp only [decide_eq_true_eq, decide_eq_false_iff_not] at *; omega)
           ·
            refine Zr (Zc (Zd (Za ?_)))
            refine Zbh 10 90 (fun _ => True) (ρk := []) trivial ?_ fun mb31_9 hm31_9 => ?_
            ·
             refine Zg (Zh rfl Tryz.f59' rfl (by decide) rfl) rfl (Zg (Zi rfl Tryz.k9 rfl rfl rfl (vs := [_]) rfl rfl rfl) rfl (Zv rfl rfl ?_))
             refine Zaa (caps := []) trivial rfl rfl Tryz.c35 rfl (FnP.mono (line4_fn d (by omega) u) ?_)
             rintro v u1 hle1 ⟨b8, rfl, _⟩
             refine Zg (Zbr rfl rfl) rfl (ym rfl rfl ?_)
             refine Zae 85 rfl (fun hg31_4 => ?_) (fun hg31_4 => ?_)
             ·
              iterate 4 refine Zt rfl rfl rfl rfl ?_
              refine Zg (Zl rfl rfl rfl) rfl ?_
              exact Zac rfl trivial (trivial)
             ·
              refine Zk rfl rfl (Zg (Zh rfl Tryz.f59' rfl (by decide) rfl) rfl (Zk rfl rfl (Zg (Zi rfl Tryz.k9 rfl rfl rfl (vs := [_]) rfl rfl rfl) rfl (Zk rfl rfl (Zv rfl rfl ?_)))))
              refine Zaa (caps := []) trivial rfl rfl Tryz.c35 rfl (FnP.mono (line4_fn ti (by omega) u) ?_)
              rintro v u1 hle1 ⟨b9, rfl, _⟩
              refine Zk rfl rfl (Zg (Zbr rfl rfl) rfl (Zg (Zn rfl rfl rfl) rfl ?_))
              exact Zac rfl trivial (trivial)
            refine Zf (ρ' := [(90, _)]) ⟨rfl, trivial⟩ ?_
            refine Zc ?_
            refine Zo rfl (fun hb31 => ?_) (fun hb31 => ?_)
            ·
             refine Zd (Za (ya rfl rfl (Zf (ρ' := [(2, _)]) ⟨rfl, trivial⟩ ?_)))
             refine Zc (Zw (Zu (Zj (Zbe (.tmp rfl) ?_))))
             first
             | exact ⟨_, rfl, fun h => absurd h (by decide)⟩
             | exact ⟨_, rfl, fun h _ => he1 h⟩
             | (refine ⟨_, rfl, fun _ hk => ?_⟩; exfalso; simp only [decide_eq_true_eq, decide_eq_false_iff_not] at *; omega)
            ·
             refine Zr (Zah (Zc (Zd (Za (ya rfl rfl (Zf (ρ' := [(2, _)]) ⟨rfl, trivial⟩ ?_))))))
             refine Zc (Zw (Zbe (.tmp rfl) ?_))
             first
             | exact ⟨_, rfl, fun h => absurd h (by decide)⟩
             | exact ⟨_, rfl, fun h _ => he1 h⟩
             | (refine ⟨_, rfl, fun _ hk => ?_⟩; exfalso; simp only [decide_eq_true_eq, decide_eq_false_iff_not] at *; omega)
          ·
           refine Zr (Zah (Zc (Zd (Za (ya rfl rfl (Zf (ρ' := [(2, _)]) ⟨rfl, trivial⟩ ?_))))))
           refine Zc (Zw (Zbe (.tmp rfl) ?_))
           first
           | exact ⟨_, rfl, fun h => absurd h (by decide)⟩
           | exact ⟨_, rfl, fun h _ => he1 h⟩
           | (refine ⟨_, rfl, fun _ hk => ?_⟩; exfalso; simp only [decide_eq_true_eq, decide_eq_false_iff_not] at *; omega)
mutual
def okC1 : Blk → Prop
 | .mk _ _ _ _ _ _ _ line kids => okL 0 line ∧ okC kids
def okC : List Blk → Prop
 | [] => True
 | x :: xs => okC1 x ∧ okC xs
end
theorem okC_step {xs : List Blk} {i : Nat} {x : Blk} (hg : xs[i]? = some x) (h1 : okC1 x) (h : okC (xs.drop (i + 1))) : okC (xs.drop i) := by
 obtain ⟨hlt, rfl⟩ := List.getElem?_eq_some_iff.1 hg
 rw [List.drop_eq_getElem_cons hlt]
 unfold okC
 exact ⟨h1, h⟩
theorem okL_line {k lv : Int} {inf t d ti : Bs} {a : DAttr} {line : List Inl} {m : Nat} (h : bF8 k lv inf t d ti a line.length m = true) (h2 : (k = 1 ∨ k = 2 ∨ k = 12) → okL 0 line) : okL 0 line := by
 have h7 : bF7 k lv inf t d ti a line.length = true := by
  unfold bF8 at h
  exact (Bool.and_eq_true _ _ ▸ h).1
 unfold bF7 at h7
 rcases Bool.or_eq_true _ _ ▸ (Bool.and_eq_true _ _ ▸ h7).2 with h | h
 ·
  refine h2 ?_
  unfold inB at h
  have := of_decide_eq_true h
  simpa using this
 ·
  have h := of_decide_eq_true h
  have : line = [] := List.eq_nil_of_length_eq_zero (by omega)
  rw [this]
  unfold okL
  trivial
set_option maxHeartbeats 1000000 in
theorem kblocks_fn (n : Nat) : ∀ (v : Value) (bs : List Blk) (inK dp : Int) (u : View), szB bs ≤ n → szB bs ≤ 100000 → smB bs → 0 ≤ dp → dp ≤ 16 → BlkS u v bs →
  FnP Tryz.prog 74 [v, .int .i64 inK, .int .i64 dp] u fun r _ => ∃ e : Int, r = .int .i64 e ∧ (e = 0 → okC bs) := by
 induction n using Nat.strongRecOn with
 | _ n ih =>
 intro v bs inK dp u hsz hbig hsm hd0 hd1 ha
 have hlx := len_szB bs
 obtain ⟨cs, ⟨ad, cap, rfl, h1⟩, hc1⟩ := ha
 refine FnP.intro [.tmp 6] Tryz.func74 rfl rfl rfl ?_
 intro w0 D hw0
 refine Zd (Za (ya rfl rfl (Zf (ρ' := [(0, _), (1, _), (2, _)]) ⟨rfl, rfl, rfl, trivial⟩ ?_)))
 refine Zc (Zd (Zd (Za (ya rfl rfl (Zf (ρ' := [(0, _), (1, _), (2, _), (7, _)]) ⟨rfl, rfl, rfl, rfl, trivial⟩ ?_)))))
 refine Zc (Zad ?_)
 refine Zbc (fun m ρ σ u' => ∃ i : Nat, i + m = bs.length ∧ VLe u u' ∧ σ = [] ∧ ρ = [(0, .v (.slice ad bs.length cap)), (1, .v (.int .i64 inK)), (2, .v (.int .i64 dp)), (7, .v (.int .i64 i))] ∧ (u = u' ∧ (okC (bs.drop i) → okC bs))) (bs.length) ?_ ?_
 ·
  refine ⟨[(0, _), (1, _), (2, _), (7, _)], [], ⟨rfl, rfl, rfl, rfl, trivial⟩, trivial, 0, by omega, VLe.refl _, (by first | rfl | simp), (by first | rfl | (simp only [List.cons.injEq, Prod.mk.injEq, SV.v.injEq, Value.int.injEq, true_and, and_true]; omega) | simp), ?_⟩
  exact ⟨rfl, fun h => h⟩
 ·
  rintro m ρ σ u' ⟨i, hi2, hle2, rfl, rfl, ⟨rfl, hinv⟩⟩
  refine Zd (Zd (Za (ym rfl rfl (ym rfl rfl (Zg (Zaq rfl rfl Tryz.s23 rfl) rfl (Zg (Zbn rfl rfl rfl) rfl (Zf (ρ' := [(0, _), (1, _), (2, _), (7, _), (13, _)]) ⟨rfl, rfl, rfl, rfl, rfl, trivial⟩ ?_)))))))
  refine Zc ?_
  refine Zo rfl (fun hb2 => ?_) (fun hb2 => ?_)
  ·
   have hlt : i < bs.length := by have := of_decide_eq_true hb2; omega
   obtain ⟨k, lv, inf, t, d, ti, a, line, kids, vc, vp, vl, vk, hg, hcut1, s1, s2, s3, s4, hok⟩ := hc1.at hlt
   have oneAll := (hc1.get i _ hg).one
   rw [hcut1] at oneAll
   have hszk := szB_kids hg
   have hsmx := smB_get hsm hg
   unfold smB1 at hsmx
   obtain ⟨q1, q2, q3, q4, q5, q6⟩ := hsmx
   have hK : BlkK u a line kids vc vp vl vk inf t d ti := ⟨s1, s2, s3, s4, ⟨by omega, q2, q3, by omega⟩, q5, ⟨by omega, by omega⟩⟩
   refine Zr (Zc (Zd (Zad (Zd (Za (ym rfl rfl (ym rfl rfl ?_)))))))
   refine Zg (Zai rfl Tryz.s23 rfl rfl (by assumption) (by first | rfl | omega) (by omega)) rfl (Zg (Zag rfl Tryz.k59 rfl (by assumption) (by omega) (by assumption) (vs := [_, _, _, _, _, _, _, _, _, _, _]) rfl rfl rfl rfl) rfl (Zv rfl rfl ?_))
   refine Zas trivial Tryz.z59 rfl rfl rfl ?_
   refine Zv rfl rfl ?_
   refine Zm trivial rfl Tryz.k59 rfl rfl rfl (vs := [_, _, _, _, _, _, _, _, _, _, _]) rfl rfl (by first | rfl | assumption | simp [Value.oneCell', str]) (Nat.le_of_ble_eq_true rfl) rfl ?_
   refine Zf (ρ' := [(0, _), (1, _), (2, _), (7, _), (8, _)]) ⟨rfl, rfl, rfl, rfl, rfl, trivial⟩ ?_
   refine Zc (Zd (Zd (Za (ym rfl rfl (Zg (Zcn rfl rfl rfl) rfl (Zf (ρ' := [(0, _), (1, _), (2, _), (7, _), (8, _), (21, _)]) ⟨rfl, rfl, rfl, rfl, rfl, rfl, trivial⟩ ?_))))))
   refine Zc ?_
   refine Zo rfl (fun hb5 => ?_) (fun hb5 => ?_)
   ·
    skip
    refine Zd (Za (ya rfl rfl (Zf (ρ' := [(6, _)]) ⟨rfl, trivial⟩ ?_)))
    refine Zc (Zw (Zj (Zu (Zj (Zj (Zu (Zj ?_)))))))
    refine Zbe (.tmp rfl) ?_
    first
    | exact ⟨_, rfl, fun h => absurd h (by decide)⟩
    | exact ⟨_, rfl, fun h => absurd h (of_decide_eq_true hb13)⟩
    | exact ⟨_, rfl, fun h => absurd h (of_decide_eq_true hb10)⟩
    | exact ⟨_, rfl, fun h => hinv (by unfold okC; trivial)⟩
   ·
    have hd15 := of_decide_eq_false hb5
    refine Zr (Zc (Zd (Zd (Za ?_))))
    refine Zbh 10 31 (fun b => b = false → bF8 k lv inf t d ti a line.length kids.length = true) (ρk := [(0, _), (1, _), (2, _), (7, _), (8, _)]) ⟨rfl, rfl, rfl, rfl, rfl, trivial⟩ ?_ fun mb7_9 hm7_9 => ?_
    ·
     refine Zg (Zi rfl Tryz.k59 rfl rfl rfl (vs := [_, _, _, _, _, _, _, _, _, _, _]) rfl rfl rfl) rfl (Zv rfl rfl ?_)
     refine Zaa (caps := []) trivial rfl rfl Tryz.c97 rfl (FnP.mono (blockFields_fn k lv inf t d ti a line kids vc vp vl vk u hK) ?_)
     rintro v u1 hle1 rfl
     refine Zg (Zbr rfl rfl) rfl (ym rfl rfl ?_)
     refine Zae 25 rfl (fun hg7_3 => ?_) (fun hg7_3 => ?_)
     ·
      iterate 5 refine Zt rfl rfl rfl rfl ?_
      refine Zg (Zl rfl rfl rfl) rfl ?_
      exact Zac rfl ⟨rfl, rfl, rfl, rfl, rfl, trivial⟩ (by (first | exact fun h => absurd h (by decide) | exact fun _ => (by simpa using hg7_3)))
     ·
      refine Zk rfl rfl (Zg (Zh rfl Tryz.f59' rfl (by decide) rfl) rfl (Zk rfl rfl (Zg (Zi rfl Tryz.k3 rfl rfl rfl (vs := [_]) rfl rfl rfl) rfl (Zk rfl rfl (ym rfl rfl (Zk rfl rfl (Zv rfl rfl ?_)))))))
      refine Zaa (caps := []) trivial rfl rfl Tryz.c98 rfl (FnP.mono (place_fn k inK u) ?_)
      rintro v u1 hle1 ⟨b1, rfl⟩
      refine Zk rfl rfl (Zg (Zbr rfl rfl) rfl (Zg (Zn rfl rfl rfl) rfl ?_))
      exact Zac rfl ⟨rfl, rfl, rfl, rfl, rfl, trivial⟩ (by (first | exact fun h => absurd h (by decide) | exact fun _ => (by simpa using hg7_3)))
    refine Zf (ρ' := [(0, _), (1, _), (2, _), (7, _), (8, _), (31, _)]) ⟨rfl, rfl, rfl, rfl, rfl, rfl, trivial⟩ ?_
    refine Zc ?_
    refine Zo rfl (fun hb7 => ?_) (fun hb7 => ?_)
    ·
     refine Zd (Za (ya rfl rfl (Zf (ρ' := [(6, _)]) ⟨rfl, trivial⟩ ?_)))
     refine Zc (Zw (Zj (Zu (Zj (Zj (Zu (Zj ?_)))))))
     refine Zbe (.tmp rfl) ?_
     first
     | exact ⟨_, rfl, fun h => absurd h (by decide)⟩
     | exact ⟨_, rfl, fun h => absurd h (of_decide_eq_true hb13)⟩
     | exact ⟨_, rfl, fun h => absurd h (of_decide_eq_true hb10)⟩
     | exact ⟨_, rfl, fun h => hinv (by unfold okC; trivial)⟩
    ·
     refine Zr (Zc (Zd (Za (Zg (Zi rfl Tryz.k59 rfl rfl rfl (vs := [_, _, _, _, _, _, _, _, _, _, _]) rfl rfl rfl) rfl (Zv rfl rfl ?_)))))
     refine Zaa (caps := []) trivial rfl rfl Tryz.c99 rfl (FnP.mono (itself_fn k lv inf t d ti a line kids vc vp vl vk u hK) ?_)
     rintro v u1 hle1 ⟨e1, rfl, he1⟩
     refine ya rfl rfl (Zf (ρ' := [(0, _), (1, _), (2, _), (7, _), (8, _), (9, _)]) ⟨rfl, rfl, rfl, rfl, rfl, rfl, trivial⟩ ?_)
     refine Zc (Zd (Zd (Za (ym rfl rfl (Zg (Zck rfl rfl rfl) rfl (Zf (ρ' := [(0, _), (1, _), (2, _), (7, _), (8, _), (9, _), (35, _)]) ⟨rfl, rfl, rfl, rfl, rfl, rfl, rfl, trivial⟩ ?_))))))
     refine Zc ?_
     refine Zo rfl (fun hb10 => ?_) (fun hb10 => ?_)
     ·
      refine Zd (Za (ym rfl rfl (ya rfl rfl (Zf (ρ' := [(6, _)]) ⟨rfl, trivial⟩ ?_))))
      refine Zc (Zw (Zj (Zu (Zj (Zj (Zu (Zj ?_)))))))
      refine Zbe (.tmp rfl) ?_
      first
      | exact ⟨_, rfl, fun h => absurd h (by decide)⟩
      | exact ⟨_, rfl, fun h => absurd h (of_decide_eq_true hb13)⟩
      | exact ⟨_, rfl, fun h => absurd h (of_decide_eq_true hb10)⟩
      | exact ⟨_, rfl, fun h => hinv (by unfold okC; trivial)⟩
     ·
      refine Zr (Zc (Zd (Za (Zg (Zh rfl Tryz.f59' rfl (by decide) rfl) rfl (Zg (Zi rfl Tryz.k23 rfl rfl rfl (vs := [_]) rfl rfl rfl) rfl (Zg (Zh rfl Tryz.f59' rfl (by decide) rfl) rfl (Zg (Zi rfl Tryz.k3 rfl rfl rfl (vs := [_]) rfl rfl rfl) rfl ?_)))))))
      refine ym rfl rfl (Zg (Zav rfl rfl rfl (Zs (by omega))) rfl ?_)
      refine Zv rfl rfl ?_
      refine Zaa (caps := []) trivial rfl rfl Tryz.c74 rfl (FnP.mono (ih (szB kids) (by omega) vk kids k (dp + 1) u (Nat.le_refl _) (by omega) q6 (by omega) (by omega) s4) ?_)
      rintro v u1 hle1 ⟨e2, rfl, he2⟩
      refine ya rfl rfl (Zf (ρ' := [(0, _), (1, _), (2, _), (7, _), (9, _)]) ⟨rfl, rfl, rfl, rfl, rfl, trivial⟩ ?_)
      refine Zc (Zd (Za (ym rfl rfl (Zg (Zck rfl rfl rfl) rfl (Zf (ρ' := [(0, _), (1, _), (2, _), (7, _), (9, _), (45, _)]) ⟨rfl, rfl, rfl, rfl, rfl, rfl, trivial⟩ ?_)))))
      refine Zc ?_
      refine Zo rfl (fun hb13 => ?_) (fun hb13 => ?_)
      ·
       refine Zd (Za (ym rfl rfl (ya rfl rfl (Zf (ρ' := [(6, _)]) ⟨rfl, trivial⟩ ?_))))
       refine Zc (Zw (Zu (Zj (Zj (Zu (Zj (Zbe (.tmp rfl) ?_)))))))
       first
       | exact ⟨_, rfl, fun h => absurd h (by decide)⟩
       | exact ⟨_, rfl, fun h => absurd h (of_decide_eq_true hb13)⟩
       | exact ⟨_, rfl, fun h => absurd h (of_decide_eq_true hb10)⟩
       | exact ⟨_, rfl, fun h => hinv (by unfold okC; trivial)⟩
      ·
       refine Zr (Zah (Zc (Za (ym rfl rfl (Zg (Zav rfl rfl rfl (Zs (by omega))) rfl ?_)))))
       refine ya rfl rfl (Zf (ρ' := [(0, _), (1, _), (2, _), (7, _)]) ⟨rfl, rfl, rfl, rfl, trivial⟩ ?_)
       refine Zab ?_
       refine ⟨m - 1, [(0, _), (1, _), (2, _), (7, _)], [], by omega, ⟨rfl, rfl, rfl, rfl, trivial⟩, trivial, i + 1, by omega, hle2, (by first | rfl | simp), (by first | rfl | (simp only [List.cons.injEq, Prod.mk.injEq, SV.v.injEq, Value.int.injEq, true_and, and_true]; omega) | simp), ?_⟩
       have z1 : e1 = 0 := Decidable.of_not_not (of_decide_eq_false hb10)
       have z2 : e2 = 0 := Decidable.of_not_not (of_decide_eq_false hb13)
       have hF := hm7_9 hb7
       exact ⟨rfl, fun h => hinv (okC_step hg (by unfold okC1; exact ⟨okL_line hF (he1 z1), he2 z2⟩) h)⟩
  ·
   have hge := of_decide_eq_false hb2
   rw [List.drop_eq_nil_of_le (by omega)] at hinv
   refine Zax ?_
   refine Zq (Zq ?_)
   refine Zaf ?_
   refine Zc (Zd (Za (ya rfl rfl (Zf (ρ' := [(6, _)]) ⟨rfl, trivial⟩ ?_))))
   refine Zc (Zw (Zbe (.tmp rfl) ?_))
   first
   | exact ⟨_, rfl, fun h => absurd h (by decide)⟩
   | exact ⟨_, rfl, fun h => absurd h (of_decide_eq_true hb13)⟩
   | exact ⟨_, rfl, fun h => absurd h (of_decide_eq_true hb10)⟩
   | exact ⟨_, rfl, fun h => hinv (by unfold okC; trivial)⟩
theorem kcount_fn (n : Nat) : ∀ (v : Value) (xs : List Inl) (u : View), szI xs ≤ n → szI xs ≤ 1000000 → InlS u v xs → FnP Tryz.prog 93 [v] u fun r _ => r = .int .i64 (szI xs : Nat) := by
 induction n using Nat.strongRecOn with
 | _ n ih =>
 intro v xs u hsz hbig ha
 have hlx := len_szI xs
 obtain ⟨cs, ⟨ad, cap, rfl, h1⟩, hc1⟩ := ha
 refine FnP.intro [.tmp 2] Tryz.func93 rfl rfl rfl ?_
 intro w0 D hw0
 refine Zd (Za (ya rfl rfl (Zf (ρ' := [(0, _)]) ⟨rfl, trivial⟩ ?_)))
 refine Zc (Zd (Za (ym rfl rfl (Zg (Zaq rfl rfl Tryz.s35 rfl) rfl (ya rfl rfl (Zf (ρ' := [(0, _), (3, _)]) ⟨rfl, rfl, trivial⟩ ?_))))))
 refine Zc (Zd (Zd (Za (ya rfl rfl (Zf (ρ' := [(0, _), (3, _), (4, _)]) ⟨rfl, rfl, rfl, trivial⟩ ?_)))))
 refine Zc (Zad ?_)
 refine Zbc (fun m ρ σ u' => ∃ i : Nat, i + m = xs.length ∧ VLe u u' ∧ ∃ (z : Int), σ = [] ∧ ρ = [(0, .v (.slice ad xs.length cap)), (3, .v (.int .i64 z)), (4, .v (.int .i64 i))] ∧ (u = u' ∧ z + i = xs.length + (szI (xs.take i) : Nat))) (xs.length) ?_ ?_
 ·
  refine ⟨[(0, _), (3, _), (4, _)], [], ⟨rfl, rfl, rfl, trivial⟩, trivial, 0, by omega, VLe.refl _, xs.length, (by first | rfl | simp), (by first | rfl | (simp only [List.cons.injEq, Prod.mk.injEq, SV.v.injEq, Value.int.injEq, true_and, and_true]; omega) | simp), ?_⟩
  exact ⟨rfl, by simp [szI]⟩
 ·
  rintro m ρ σ u' ⟨i, hi3, hle3, z, rfl, rfl, ⟨rfl, hinv⟩⟩
  refine Zd (Zd (Za (ym rfl rfl (ym rfl rfl (Zg (Zaq rfl rfl Tryz.s35 rfl) rfl (Zg (Zbn rfl rfl rfl) rfl (Zf (ρ' := [(0, _), (3, _), (4, _), (10, _)]) ⟨rfl, rfl, rfl, rfl, trivial⟩ ?_)))))))
  refine Zc ?_
  refine Zo rfl (fun hb3 => ?_) (fun hb3 => ?_)
  ·
   have hlt : i < xs.length := by have := of_decide_eq_true hb3; omega
   obtain ⟨k, t, d, ti, a, args, cites, kids, vc, vp, va, vt, vk, hg, hcut1, s1, s2, s3, s4, s5, hok⟩ := hc1.at hlt
   have oneAll := (hc1.get i _ hg).one
   rw [hcut1] at oneAll
   have hszk := szI_kids hg
   have hst := szI_take hg
   have hstl := szI_take_le xs i
   have hstl2 := szI_take_le xs (i + 1)
   simp only [sz1] at hst
   refine Zr (Zc (Zd (Zad (Za (ym rfl rfl (ym rfl rfl (ym rfl rfl ?_)))))))
   refine Zg (Zai rfl Tryz.s35 rfl rfl (by assumption) (by first | rfl | omega) (by omega)) rfl (Zg (Zau rfl Tryz.f42' rfl (by decide) rfl) rfl (Zg (Zag rfl Tryz.k35 rfl (by assumption) (by omega) (by assumption) (vs := [_]) rfl rfl rfl rfl) rfl (Zv rfl rfl ?_)))
   refine Zaa (caps := []) trivial rfl rfl Tryz.c93 rfl (FnP.mono (ih (szI kids) (by omega) vk kids u (Nat.le_refl _) (by omega) s5) ?_)
   rintro v u1 hle1 rfl
   refine Zg (Zav rfl rfl rfl (Zs (by omega))) rfl ?_
   refine ya rfl rfl (Zf (ρ' := [(0, _), (3, _), (4, _)]) ⟨rfl, rfl, rfl, trivial⟩ ?_)
   refine Zah (Zc (Za (ym rfl rfl (Zg (Zav rfl rfl rfl (Zs (by omega))) rfl ?_))))
   refine ya rfl rfl (Zf (ρ' := [(0, _), (3, _), (4, _)]) ⟨rfl, rfl, rfl, trivial⟩ ?_)
   refine Zab ?_
   refine ⟨m - 1, [(0, _), (3, _), (4, _)], [], by omega, ⟨rfl, rfl, rfl, trivial⟩, trivial, i + 1, by omega, hle3, _, (by first | rfl | simp), (by first | rfl | (simp only [List.cons.injEq, Prod.mk.injEq, SV.v.injEq, Value.int.injEq, true_and, and_true]; omega) | simp), ?_⟩
   exact ⟨rfl, by omega⟩
  ·
   have hge := of_decide_eq_false hb3
   rw [List.take_of_length_le (by omega)] at hinv
   refine Zax ?_
   refine Zq (Zq ?_)
   refine Zaf ?_
   refine Zc (Zd (Za (ym rfl rfl (ya rfl rfl (Zf (ρ' := [(2, _)]) ⟨rfl, trivial⟩ ?_)))))
   refine Zc (Zw (Zbe (.tmp rfl) ?_))
   congr 1; omega
theorem szB_take' {xs : List Blk} {i : Nat} {x : Blk} (h : xs[i]? = some x) : szB (xs.take (i + 1)) = szB (xs.take i) + szb x := by
 obtain ⟨hlt, rfl⟩ := List.getElem?_eq_some_iff.1 h
 have happ : ∀ a b : List Blk, szB (a ++ b) = szB a + szB b := by
  intro a b
  induction a with
  | nil => simp [szB]
  | cons x a ih => rw [List.cons_append]; simp only [szB, ih, Nat.add_assoc]
 rw [List.take_succ_eq_append_getElem hlt, happ]
 simp [szB]
theorem sizes_fn (n : Nat) : ∀ (v : Value) (bs : List Blk) (u : View), szB bs ≤ n → szB bs ≤ 1000000 → BlkS u v bs → FnP Tryz.prog 70 [v] u fun r _ => r = .int .i64 (szB bs : Nat) := by
 induction n using Nat.strongRecOn with
 | _ n ih =>
 intro v bs u hsz hbig ha
 have hlx := len_szB bs
 obtain ⟨cs, ⟨ad, cap, rfl, h1⟩, hc1⟩ := ha
 refine FnP.intro [.tmp 2] Tryz.func70 rfl rfl rfl ?_
 intro w0 D hw0
 refine Zd (Za (ya rfl rfl (Zf (ρ' := [(0, _)]) ⟨rfl, trivial⟩ ?_)))
 refine Zc (Zd (Za (ym rfl rfl (Zg (Zaq rfl rfl Tryz.s23 rfl) rfl (ya rfl rfl (Zf (ρ' := [(0, _), (3, _)]) ⟨rfl, rfl, trivial⟩ ?_))))))
 refine Zc (Zd (Zd (Za (ya rfl rfl (Zf (ρ' := [(0, _), (3, _), (4, _)]) ⟨rfl, rfl, rfl, trivial⟩ ?_)))))
 refine Zc (Zad ?_)
 refine Zbc (fun m ρ σ u' => ∃ i : Nat, i + m = bs.length ∧ VLe u u' ∧ ∃ (z : Int), σ = [] ∧ ρ = [(0, .v (.slice ad bs.length cap)), (3, .v (.int .i64 z)), (4, .v (.int .i64 i))] ∧ (u = u' ∧ z + i = bs.length + (szB (bs.take i) : Nat))) (bs.length) ?_ ?_
 ·
  refine ⟨[(0, _), (3, _), (4, _)], [], ⟨rfl, rfl, rfl, trivial⟩, trivial, 0, by omega, VLe.refl _, bs.length, (by first | rfl | simp), (by first | rfl | (simp only [List.cons.injEq, Prod.mk.injEq, SV.v.injEq, Value.int.injEq, true_and, and_true]; omega) | simp), ?_⟩
  exact ⟨rfl, by simp [szB]⟩
 ·
  rintro m ρ σ u' ⟨i, hi3, hle3, z, rfl, rfl, ⟨rfl, hinv⟩⟩
  refine Zd (Zd (Za (ym rfl rfl (ym rfl rfl (Zg (Zaq rfl rfl Tryz.s23 rfl) rfl (Zg (Zbn rfl rfl rfl) rfl (Zf (ρ' := [(0, _), (3, _), (4, _), (10, _)]) ⟨rfl, rfl, rfl, rfl, trivial⟩ ?_)))))))
  refine Zc ?_
  refine Zo rfl (fun hb3 => ?_) (fun hb3 => ?_)
  ·
   have hlt : i < bs.length := by have := of_decide_eq_true hb3; omega
   obtain ⟨k, lv, inf, t, d, ti, a, line, kids, vc, vp, vl, vk, hg, hcut1, s1, s2, s3, s4, hok⟩ := hc1.at hlt
   have oneAll := (hc1.get i _ hg).one
   rw [hcut1] at oneAll
   have hszk := szB_kids hg
   have hst := szB_take' hg
   have hstl := szB_take_le bs i
   have hstl2 := szB_take_le bs (i + 1)
   simp only [szb] at hst
   refine Zr (Zc (Zd (Zad ?_)))
   refine Zbk Tryz.mixed rfl [] trivial ?_
   refine Zal 0 rfl (by kernel_rfl) (Ze (Zb (Zb (Ze (Zb (Zan)))))) (Zap rfl rfl) rfl (Zal 1 rfl (by kernel_rfl) (Ze (Zb (Zb (Ze (Zb (Zan)))))) (Zap rfl rfl) rfl (Zal 2 rfl (by kernel_rfl) (Ze (Zb (Zb (Ze (Zb (Zan)))))) (Zap rfl rfl) rfl ?_))
   refine Zal 3 rfl (by kernel_rfl) (Ze (Zb (Zb (Ze (Zb (Zan)))))) (Zai rfl Tryz.s23 rfl rfl (by assumption) (by first | rfl | omega) (by omega)) rfl ?_
   refine Zal 4 rfl (by kernel_rfl) (Ze (Zb (Zb (Ze (Zb (Zan)))))) (Zau rfl Tryz.f59' rfl (by decide) rfl) rfl ?_
   refine Zal 5 rfl (by kernel_rfl) (Ze (Zb (Zb (Ze (Zb (Zan)))))) (Zag rfl Tryz.k35 rfl (by assumption) (by omega) (by assumption) (vs := [_]) rfl rfl rfl rfl) rfl ?_
   refine Zal 7 rfl (by kernel_rfl) (Ze (Zb (Zb (Ze (Zb (Zan)))))) (Zap rfl rfl) rfl (Zal 8 rfl (by kernel_rfl) (Ze (Zb (Zb (Ze (Zb (Zan)))))) (Zap rfl rfl) rfl ?_)
   refine Zal 9 rfl (by kernel_rfl) (Ze (Zb (Zb (Ze (Zb (Zan)))))) (Zai rfl Tryz.s23 rfl rfl (by assumption) (by first | rfl | omega) (by omega)) rfl ?_
   refine Zal 10 rfl (by kernel_rfl) (Ze (Zb (Zb (Ze (Zb (Zan)))))) (Zau rfl Tryz.f59' rfl (by decide) rfl) rfl ?_
   refine Zal 11 rfl (by kernel_rfl) (Ze (Zb (Zb (Ze (Zb (Zan)))))) (Zag rfl Tryz.k23 rfl (by assumption) (by omega) (by assumption) (vs := [_]) rfl rfl rfl rfl) rfl ?_
   refine Zar (i := 6) rfl rfl (by kernel_rfl) ?_
   refine Zaa (caps := []) trivial rfl rfl Tryz.c93 rfl (FnP.mono (kcount_fn (szI line) vl line u (Nat.le_refl _) (by omega) s3) ?_)
   rintro v u1 hle1 rfl
   refine Zar (i := 12) rfl rfl (by kernel_rfl) ?_
   refine Zaa (caps := []) trivial rfl rfl Tryz.c70 rfl (FnP.mono (ih (szB kids) (by omega) vk kids u (Nat.le_refl _) (by omega) s4) ?_)
   rintro v u1 hle1 rfl
   refine Zal 13 rfl (by kernel_rfl) (Ze (Zb (Zb (Ze (Zb (Zan)))))) (Zav rfl rfl rfl (Zs (by omega))) rfl ?_
   refine Zal 14 rfl (by kernel_rfl) (Ze (Zb (Zb (Ze (Zb (Zan)))))) (Zav rfl rfl rfl (Zs (by omega))) rfl ?_
   refine Zal 15 rfl (by kernel_rfl) (Ze (Zb (Zb (Ze (Zb (Zan)))))) (Zcf rfl rfl) rfl ?_
   refine Zbl (by kernel_rfl) (ρ' := [(0, _), (3, _), (4, _)]) ⟨rfl, rfl, rfl, trivial⟩ ?_
   refine Zah (Zc (Za (ym rfl rfl (Zg (Zav rfl rfl rfl (Zs (by omega))) rfl ?_))))
   refine ya rfl rfl (Zf (ρ' := [(0, _), (3, _), (4, _)]) ⟨rfl, rfl, rfl, trivial⟩ ?_)
   refine Zab ?_
   refine ⟨m - 1, [(0, _), (3, _), (4, _)], [], by omega, ⟨rfl, rfl, rfl, trivial⟩, trivial, i + 1, by omega, hle3, _, (by first | rfl | simp), (by first | rfl | (simp only [List.cons.injEq, Prod.mk.injEq, SV.v.injEq, Value.int.injEq, true_and, and_true]; omega) | simp), ?_⟩
   exact ⟨rfl, by omega⟩
  ·
   have hge := of_decide_eq_false hb3
   rw [List.take_of_length_le (by omega)] at hinv
   refine Zax ?_
   refine Zq (Zq ?_)
   refine Zaf ?_
   refine Zc (Zd (Za (ym rfl rfl (ya rfl rfl (Zf (ρ' := [(2, _)]) ⟨rfl, trivial⟩ ?_)))))
   refine Zc (Zw (Zbe (.tmp rfl) ?_))
   congr 1; omega
theorem size_fn (d : DDoc) (vm vb : Value) (u : View) (hbig : szB d.blocks ≤ 1000000) (hb : BlkS u vb d.blocks) : FnP Tryz.prog 33 [.agg #[vm, vb]] u fun r _ => r = .int .i64 (szB d.blocks : Nat) := by
 refine FnP.intro [.tmp 2] Tryz.func33 rfl rfl rfl ?_
 intro w0 D hw0
 refine Zd (Za (Zv rfl rfl ?_))
 refine Zbx trivial rfl (cs := [_, _]) rfl rfl rfl rfl ?_
 refine ya rfl rfl (Zf (ρ' := [(1, _)]) ⟨rfl, trivial⟩ ?_)
 refine Zc (Zd (Za (Zg (Zh rfl Tryz.f25' rfl (by decide) rfl) rfl (Zg (Zi rfl Tryz.k23 rfl rfl rfl (vs := [_]) rfl rfl rfl) rfl (Zv rfl rfl ?_)))))
 refine Zaa (caps := []) trivial rfl rfl Tryz.c70 rfl (FnP.mono (sizes_fn (szB d.blocks) vb d.blocks u (Nat.le_refl _) hbig hb) ?_)
 rintro v u1 hle1 rfl
 refine ya rfl rfl (Zf (ρ' := [(2, _)]) ⟨rfl, trivial⟩ ?_)
 refine Zc (Zw (Zbe (.tmp rfl) ?_))
 rfl
theorem allBlocks_fn (v : Value) (bs : List Blk) (u : View) (hbig : szB bs ≤ 100000) (hsm : smB bs) (ha : BlkS u v bs) : FnP Tryz.prog 37 [v] u fun r _ => ∃ e : Int, r = .int .i64 e ∧ (e = 0 → okC bs) := by
 refine FnP.intro [.tmp 2] Tryz.func37 rfl rfl rfl ?_
 intro w0 D hw0
 refine Zd (Za (ya rfl rfl (Zf (ρ' := [(0, _)]) ⟨rfl, trivial⟩ ?_)))
 refine Zc (Zd (Za (ym rfl rfl (Zv rfl rfl ?_))))
 refine Zaa (caps := []) trivial rfl rfl Tryz.c74 rfl (FnP.mono (kblocks_fn (szB bs) v bs 0 0 u (Nat.le_refl _) hbig hsm (by omega) (by omega) ha) ?_)
 rintro v u1 hle1 ⟨e, rfl, he⟩
 refine ya rfl rfl (Zf (ρ' := [(2, _)]) ⟨rfl, trivial⟩ ?_)
 refine Zc (Zw (Zbe (.tmp rfl) ?_))
 exact ⟨_, rfl, he⟩
set_option maxHeartbeats 1000000 in
theorem docCheck_fn (d : DDoc) (vm vb : Value) (u : View) (hm : PrS u vm d.mts) (hb : BlkS u vb d.blocks) (hml : d.mts.length ≤ 1000) (hms : ∀ p ∈ d.mts, p.1.length + p.2.length ≤ 1000000) (hbig : szB d.blocks ≤ 100000) (hsm : smB d.blocks) :
  FnP Tryz.prog 12 [.agg #[vm, vb]] u fun r _ => ∃ e : Int, r = .int .i64 e ∧ (e = 0 → okC d.blocks) := by
 have ob : Value.oneCell' vb = true := by obtain ⟨cs, h, -⟩ := hb; exact h.one
 obtain ⟨ad, cap, rfl, h1⟩ := hm
 refine FnP.intro [.tmp 2] Tryz.func12 rfl rfl rfl ?_
 intro w0 D hw0
 refine Zd (Za (Zv rfl rfl ?_))
 refine Zbx trivial rfl (cs := [_, _]) rfl rfl rfl rfl ?_
 refine ya rfl rfl (Zf (ρ' := [(1, _)]) ⟨rfl, trivial⟩ ?_)
 refine Zc (Zd (Zd (Za ?_)))
 refine Zbh 9 14 (fun _ => True) (ρk := [(1, _)]) ⟨rfl, trivial⟩ ?_ fun mb1_8 hm1_8 => ?_
 ·
  refine Zg (Zi rfl Tryz.k25 rfl rfl rfl (vs := [_, _]) rfl rfl rfl) rfl (Zv rfl rfl ?_)
  refine Zaa (caps := []) trivial rfl rfl Tryz.c33 rfl (FnP.mono (size_fn d _ vb u (by omega) hb) ?_)
  rintro v u1 hle1 rfl
  refine Zg (Zcn rfl rfl rfl) rfl (ym rfl rfl ?_)
  refine Zae 9 rfl (fun hg1_3 => ?_) (fun hg1_3 => ?_)
  ·
   iterate 4 refine Zt rfl rfl rfl rfl ?_
   refine Zg (Zl rfl rfl rfl) rfl ?_
   exact Zac rfl ⟨rfl, trivial⟩ (trivial)
  ·
   refine Zk rfl rfl (Zg (Zh rfl Tryz.f25' rfl (by decide) rfl) rfl (Zk rfl rfl (Zg (Zi rfl Tryz.k22 rfl rfl rfl (vs := [_]) rfl rfl rfl) rfl (Zk rfl rfl (Zg (Zaq rfl rfl Tryz.s22 rfl) rfl (Zk rfl rfl (Zg (Zcn rfl rfl rfl) rfl ?_)))))))
   refine Zg (Zn rfl rfl rfl) rfl ?_
   exact Zac rfl ⟨rfl, trivial⟩ (trivial)
 refine Zf (ρ' := [(1, _), (14, _)]) ⟨rfl, rfl, trivial⟩ ?_
 refine Zc ?_
 refine Zo rfl (fun hb1 => ?_) (fun hb1 => ?_)
 ·
  refine Zd (Za (ya rfl rfl (Zf (ρ' := [(2, _)]) ⟨rfl, trivial⟩ ?_)))
  refine Zc (Zw (Zj (Zbe (.tmp rfl) ?_)))
  first
  | exact ⟨_, rfl, he⟩
  | exact ⟨_, rfl, fun h => absurd h (by decide)⟩
 ·
  refine Zr (Zc (Zd (Zd (Za (ya rfl rfl (Zf (ρ' := [(1, _), (3, _)]) ⟨rfl, rfl, trivial⟩ ?_))))))
  refine Zc (Zad ?_)
  refine Zbc (fun m ρ σ u' => ∃ i : Nat, i + m = d.mts.length ∧ VLe u u' ∧ σ = [(1, (none, .box [.slice ad d.mts.length cap, vb]))] ∧ ρ = [(1, .p 1 0), (3, .v (.int .i64 i))] ∧ (u = u')) (d.mts.length) ?_ ?_
  ·
   refine ⟨[(1, _), (3, _)], [(1, _)], ⟨rfl, rfl, trivial⟩, ⟨rfl, trivial⟩, 0, by omega, VLe.refl _, (by first | rfl | simp), (by first | rfl | (simp only [List.cons.injEq, Prod.mk.injEq, SV.v.injEq, Value.int.injEq, true_and, and_true]; omega) | simp), ?_⟩
   rfl
  ·
   rintro m ρ σ u' ⟨i, hi4, hle4, rfl, rfl, rfl⟩
   refine Zd (Zd (Za (ym rfl rfl (Zg (Zh rfl Tryz.f25' rfl (by decide) rfl) rfl (Zg (Zi rfl Tryz.k22 rfl rfl rfl (vs := [_]) rfl rfl rfl) rfl (Zg (Zaq rfl rfl Tryz.s22 rfl) rfl (Zg (Zbn rfl rfl rfl) rfl (Zf (ρ' := [(1, _), (3, _), (19, _)]) ⟨rfl, rfl, rfl, trivial⟩ ?_))))))))
   refine Zc ?_
   refine Zo rfl (fun hb4 => ?_) (fun hb4 => ?_)
   ·
    have hlt : i < d.mts.length := by have := of_decide_eq_true hb4; omega
    have hg := List.getElem?_eq_getElem hlt
    have hcc := cut_pairsC hg
    have hsl := hms _ (List.mem_of_getElem? hg)
    refine Zr (Zc (Zd (Zad (Zd (Za (Zg (Zh rfl Tryz.f25' rfl (by decide) rfl) rfl (Zg (Zi rfl Tryz.k22 rfl rfl rfl (vs := [_]) rfl rfl rfl) rfl ?_)))))))
    refine ym rfl rfl (Zg (Zai rfl Tryz.s22 rfl rfl (by assumption) (by first | rfl | omega) (by omega)) rfl (Zg (Zag rfl Tryz.k56 rfl (by assumption) (by omega) (by assumption) (vs := [_, _]) rfl rfl rfl rfl) rfl (Zv rfl rfl ?_)))
    refine Zas trivial Tryz.z56 rfl rfl rfl ?_
    refine Zv rfl rfl ?_
    refine Zm trivial rfl Tryz.k56 rfl rfl rfl (vs := [_, _]) rfl rfl (by first | rfl | assumption | simp [Value.oneCell', str]) (Nat.le_of_ble_eq_true rfl) rfl ?_
    refine Zf (ρ' := [(1, _), (3, _), (4, _)]) ⟨rfl, rfl, rfl, trivial⟩ ?_
    refine Zc (Zd (Zd (Za (Zg (Zh rfl Tryz.f56' rfl (by decide) rfl) rfl (Zg (Zi rfl Tryz.k9 rfl rfl rfl (vs := [_]) rfl rfl rfl) rfl (Zv rfl rfl ?_))))))
    refine Zaa (caps := []) trivial rfl rfl Tryz.c34 rfl (FnP.mono (name_fn _ (by omega) u) ?_)
    rintro v u1 hle1 ⟨b1, rfl, _⟩
    refine Zg (Zbr rfl rfl) rfl (Zf (ρ' := [(1, _), (3, _), (4, _), (30, _)]) ⟨rfl, rfl, rfl, rfl, trivial⟩ ?_)
    refine Zc ?_
    refine Zo rfl (fun hb7 => ?_) (fun hb7 => ?_)
    ·
     refine Zd (Za (ya rfl rfl (Zf (ρ' := [(2, _)]) ⟨rfl, trivial⟩ ?_)))
     refine Zc (Zw (Zj (Zu (Zj (Zj (Zu (Zj ?_)))))))
     refine Zbe (.tmp rfl) ?_
     first
     | exact ⟨_, rfl, he⟩
     | exact ⟨_, rfl, fun h => absurd h (by decide)⟩
    ·
     refine Zr (Zc (Zd (Zd (Za ?_))))
     refine Zbh 10 40 (fun _ => True) (ρk := [(1, _), (3, _), (4, _)]) ⟨rfl, rfl, rfl, trivial⟩ ?_ fun mb9_9 hm9_9 => ?_
     ·
      refine Zg (Zh rfl Tryz.f56' rfl (by decide) rfl) rfl (Zg (Zi rfl Tryz.k9 rfl rfl rfl (vs := [_]) rfl rfl rfl) rfl (Zv rfl rfl ?_))
      refine Zaa (caps := []) trivial rfl rfl Tryz.c35 rfl (FnP.mono (line4_fn _ (by omega) u) ?_)
      rintro v u1 hle1 ⟨b2, rfl, _⟩
      refine Zg (Zbr rfl rfl) rfl (ym rfl rfl ?_)
      refine Zae 35 rfl (fun hg9_4 => ?_) (fun hg9_4 => ?_)
      ·
       iterate 4 refine Zt rfl rfl rfl rfl ?_
       refine Zg (Zl rfl rfl rfl) rfl ?_
       exact Zac rfl ⟨rfl, rfl, rfl, trivial⟩ (trivial)
      ·
       refine Zk rfl rfl (Zg (Zh rfl Tryz.f56' rfl (by decide) rfl) rfl (Zk rfl rfl (Zg (Zi rfl Tryz.k9 rfl rfl rfl (vs := [_]) rfl rfl rfl) rfl (Zk rfl rfl (Zv rfl rfl ?_)))))
       refine Zaa (caps := []) trivial rfl rfl Tryz.c36 rfl (FnP.mono (trimmed4_fn _ (by omega) u) ?_)
       rintro v u1 hle1 ⟨b3, rfl⟩
       refine Zk rfl rfl (Zg (Zbr rfl rfl) rfl (Zg (Zn rfl rfl rfl) rfl ?_))
       exact Zac rfl ⟨rfl, rfl, rfl, trivial⟩ (trivial)
     refine Zf (ρ' := [(1, _), (3, _), (4, _), (40, _)]) ⟨rfl, rfl, rfl, rfl, trivial⟩ ?_
     refine Zc ?_
     refine Zo rfl (fun hb9 => ?_) (fun hb9 => ?_)
     ·
      refine Zd (Za (ya rfl rfl (Zf (ρ' := [(2, _)]) ⟨rfl, trivial⟩ ?_)))
      refine Zc (Zw (Zj (Zu (Zj (Zj (Zu (Zj ?_)))))))
      refine Zbe (.tmp rfl) ?_
      first
      | exact ⟨_, rfl, he⟩
      | exact ⟨_, rfl, fun h => absurd h (by decide)⟩
     ·
      refine Zr (Zc (Zd (Za (ya rfl rfl (Zf (ρ' := [(1, _), (3, _), (4, _), (5, _)]) ⟨rfl, rfl, rfl, rfl, trivial⟩ ?_)))))
      refine Zc (Zad ?_)
      refine Zbc (fun m ρ σ u' => ∃ j : Nat, j + m = i ∧ VLe u u' ∧ σ = [(1, (none, .box [.slice ad d.mts.length cap, vb])), (4, (none, .box [str d.mts[i].1, str d.mts[i].2]))] ∧ ρ = [(1, .p 1 0), (3, .v (.int .i64 i)), (4, .p 4 0), (5, .v (.int .i64 j))] ∧ (u = u')) (i) ?_ ?_
      ·
       refine ⟨[(1, _), (3, _), (4, _), (5, _)], [(1, _), (4, _)], ⟨rfl, rfl, rfl, rfl, trivial⟩, ⟨rfl, rfl, trivial⟩, 0, by omega, VLe.refl _, (by first | rfl | simp), (by first | rfl | (simp only [List.cons.injEq, Prod.mk.injEq, SV.v.injEq, Value.int.injEq, true_and, and_true]; omega) | simp), ?_⟩
       rfl
      ·
       rintro mj ρ σ u' ⟨j, hi12, hle12, rfl, rfl, rfl⟩
       refine Zd (Zd (Za (ym rfl rfl (ym rfl rfl (Zg (Zbn rfl rfl rfl) rfl (Zf (ρ' := [(1, _), (3, _), (4, _), (5, _), (43, _)]) ⟨rfl, rfl, rfl, rfl, rfl, trivial⟩ ?_))))))
       refine Zc ?_
       refine Zo rfl (fun hb12 => ?_) (fun hb12 => ?_)
       ·
        have hlt3 : j < i := by have := of_decide_eq_true hb12; omega
        have hlt2 : j < d.mts.length := by omega
        have hcc2 := cut_pairsC (List.getElem?_eq_getElem hlt2)
        refine Zr (Zc (Zd (Zad (Zd ?_))))
        refine Zbk Tryz.mixed rfl [(1, _), (4, _)] ⟨rfl, rfl, trivial⟩ ?_
        refine Zal 0 rfl (by kernel_rfl) (Zb (Ze (Zb (Zb (Ze (Ze (Zb (Zb (Ze (Zb (Zan))))))))))) (Zh rfl Tryz.f25' rfl (by decide) rfl) rfl ?_
        refine Zal 1 rfl (by kernel_rfl) (Zb (Ze (Zb (Zb (Ze (Ze (Zb (Zb (Ze (Zb (Zan))))))))))) (Zi rfl Tryz.k22 rfl rfl rfl (vs := [_]) rfl rfl rfl) rfl ?_
        refine Zal 2 rfl (by kernel_rfl) (Zb (Ze (Zb (Zb (Ze (Ze (Zb (Zb (Ze (Zb (Zan))))))))))) (Zap rfl rfl) rfl ?_
        refine Zal 3 rfl (by kernel_rfl) (Zb (Ze (Zb (Zb (Ze (Ze (Zb (Zb (Ze (Zb (Zan))))))))))) (Zai rfl Tryz.s22 rfl rfl (by assumption) (by first | rfl | omega) (by omega)) rfl ?_
        refine Zal 4 rfl (by kernel_rfl) (Zb (Ze (Zb (Zb (Ze (Ze (Zb (Zb (Ze (Zb (Zan))))))))))) (Zau rfl Tryz.f56' rfl (by decide) rfl) rfl ?_
        refine Zal 5 rfl (by kernel_rfl) (Zb (Ze (Zb (Zb (Ze (Ze (Zb (Zb (Ze (Zb (Zan))))))))))) (Zag rfl Tryz.k9 rfl (by assumption) (by omega) (by assumption) (vs := [_]) rfl rfl rfl rfl) rfl ?_
        refine Zal 6 rfl (by kernel_rfl) (Zb (Ze (Zb (Zb (Ze (Ze (Zb (Zb (Ze (Zb (Zan))))))))))) (Zh rfl Tryz.f56' rfl (by decide) rfl) rfl ?_
        refine Zal 7 rfl (by kernel_rfl) (Zb (Ze (Zb (Zb (Ze (Ze (Zb (Zb (Ze (Zb (Zan))))))))))) (Zi rfl Tryz.k9 rfl rfl rfl (vs := [_]) rfl rfl rfl) rfl ?_
        refine Zal 8 rfl (by kernel_rfl) (Zb (Ze (Zb (Zb (Ze (Ze (Zb (Zb (Ze (Zb (Zan))))))))))) (Zba rfl rfl rfl) rfl ?_
        refine Zbl (by kernel_rfl) (ρ' := [(1, _), (3, _), (4, _), (5, _), (54, _)]) ⟨rfl, rfl, rfl, rfl, rfl, trivial⟩ ?_
        refine Zc ?_
        refine Zo rfl (fun hb14 => ?_) (fun hb14 => ?_)
        ·
         refine Zd (Za (ya rfl rfl (Zf (ρ' := [(2, _)]) ⟨rfl, trivial⟩ ?_)))
         refine Zc (Zw (Zu (Zj (Zj (Zu (Zu (Zj ?_)))))))
         refine Zj (Zu (Zj (Zbe (.tmp rfl) ?_)))
         first
         | exact ⟨_, rfl, he⟩
         | exact ⟨_, rfl, fun h => absurd h (by decide)⟩
        ·
         refine Zr (Zah (Zc (Za (ym rfl rfl (Zg (Zav rfl rfl rfl (Zs (by omega))) rfl ?_)))))
         refine ya rfl rfl (Zf (ρ' := [(1, _), (3, _), (4, _), (5, _)]) ⟨rfl, rfl, rfl, rfl, trivial⟩ ?_)
         refine Zab ?_
         refine ⟨mj - 1, [(1, _), (3, _), (4, _), (5, _)], [(1, _), (4, _)], by omega, ⟨rfl, rfl, rfl, rfl, trivial⟩, ⟨rfl, rfl, trivial⟩, j + 1, by omega, hle12, (by first | rfl | simp), (by first | rfl | (simp only [List.cons.injEq, Prod.mk.injEq, SV.v.injEq, Value.int.injEq, true_and, and_true]; omega) | simp), ?_⟩
         rfl
       ·
        skip
        refine Zax ?_
        refine Zq (Zq ?_)
        refine Zaf ?_
        refine Zah (Zc (Za (ym rfl rfl (Zg (Zav rfl rfl rfl (Zs (by omega))) rfl ?_))))
        refine ya rfl rfl (Zf (ρ' := [(1, _), (3, _)]) ⟨rfl, rfl, trivial⟩ ?_)
        refine Zab ?_
        refine ⟨m - 1, [(1, _), (3, _)], [(1, _)], by omega, ⟨rfl, rfl, trivial⟩, ⟨rfl, trivial⟩, i + 1, by omega, hle4, (by first | rfl | simp), (by first | rfl | (simp only [List.cons.injEq, Prod.mk.injEq, SV.v.injEq, Value.int.injEq, true_and, and_true]; omega) | simp), ?_⟩
        rfl
   ·
    skip
    refine Zax ?_
    refine Zq (Zq ?_)
    refine Zaf ?_
    refine Zc (Zd (Za (Zg (Zh rfl Tryz.f25' rfl (by decide) rfl) rfl (Zg (Zi rfl Tryz.k23 rfl rfl rfl (vs := [_]) rfl rfl rfl) rfl (Zv rfl rfl ?_)))))
    refine Zaa (caps := []) trivial rfl rfl Tryz.c37 rfl (FnP.mono (allBlocks_fn vb d.blocks u hbig hsm hb) ?_)
    rintro v u1 hle1 ⟨e, rfl, he⟩
    refine ya rfl rfl (Zf (ρ' := [(2, _)]) ⟨rfl, trivial⟩ ?_)
    refine Zc (Zw (Zbe (.tmp rfl) ?_))
    first
    | exact ⟨_, rfl, he⟩
    | exact ⟨_, rfl, fun h => absurd h (by decide)⟩
set_option linter.unusedSimpArgs false
set_option linter.unusedVariables false
set_option maxRecDepth 4000
def refPlainP : Inl → Prop
 | .mk k _ _ _ a _ _ kids => k = 14 → a.id = [] ∧ kids = []
theorem fF_ref {t d ti : Bs} {a : DAttr} {n m q : Nat} (h : fF8 14 t d ti a n m q = true) : a.id = [] ∧ n = 0 := by
 unfold fF8 at h
 have h7 := (Bool.and_eq_true _ _ ▸ h).1
 unfold fF7 at h7
 have h6 := (Bool.and_eq_true _ _ ▸ h7).1
 unfold fF6 at h6
 have h6' := Bool.and_eq_true _ _ ▸ h6
 have h5 := h6'.1
 unfold fF5 at h5
 have h5' := (Bool.and_eq_true _ _ ▸ h5).2
 constructor
 ·
  have e : inB 14 [10, 11] = false := by decide
  rw [e, Bool.false_or] at h5'
  unfold noA at h5'
  have := (Bool.and_eq_true _ _ ▸ (Bool.and_eq_true _ _ ▸ h5').1).1
  exact of_decide_eq_true this
 ·
  have h := h6'.2
  have e : inB 14 [6, 7, 8, 9, 10, 11] = false := by decide
  rw [e, Bool.false_or] at h
  have := of_decide_eq_true h
  omega
mutual
theorem ok_ref1 : ∀ x : Inl, okI1 x → ∀ y ∈ deep1 x, refPlainP y
 | .mk k t d ti a args cites kids, h, y, hy => by
  unfold okI1 at h
  rw [deep1] at hy
  rcases List.mem_cons.1 hy with rfl | hy
  ·
   intro hk
   subst hk
   obtain ⟨h1, h2⟩ := fF_ref (show fF8 14 t d ti a kids.length args.length cites.length = true from h.1)
   exact ⟨h1, List.eq_nil_of_length_eq_zero h2⟩
  ·
   exact ok_ref 0 kids h.2.2 y hy
theorem ok_ref : ∀ (bf : Int) (xs : List Inl), okL bf xs → ∀ y ∈ deep xs, refPlainP y
 | bf, [], _, y, hy => by simp [deep] at hy
 | bf, x :: xs, h, y, hy => by
  unfold okL at h
  rw [deep] at hy
  rcases List.mem_append.1 hy with hy | hy
  ·
   exact ok_ref1 x h.1 y hy
  ·
   exact ok_ref _ xs h.2.2 y hy
end
mutual
theorem ok_line1 : ∀ x : Blk, okC1 x → ∀ b ∈ listb x, okL 0 (lineOf b)
 | .mk k lv inf t d ti a line kids, h, b, hb => by
  unfold okC1 at h
  rw [listb] at hb
  rcases List.mem_cons.1 hb with rfl | hb
  ·
   exact h.1
  ·
   exact ok_line kids h.2 b hb
theorem ok_line : ∀ xs : List Blk, okC xs → ∀ b ∈ listB xs, okL 0 (lineOf b)
 | [], _, b, hb => by simp [listB] at hb
 | x :: xs, h, b, hb => by
  unfold okC at h
  rw [listB] at hb
  rcases List.mem_append.1 hb with hb | hb
  ·
   exact ok_line1 x h.1 b hb
  ·
   exact ok_line xs h.2 b hb
end
theorem okC_refs {bs : List Blk} (h : okC bs) : ∀ b ∈ listB bs, ∀ y ∈ deep (lineOf b), refPlainP y := fun b hb => ok_ref 0 _ (ok_line bs h b hb)
def expI (f : Bs → Bs → Bs) : Inl → List Inl
 | .mk k t d ti a args cites kids => if k = 14 then [linkI t (f t ti), textI (f t ti)] else [.mk k t d ti a args cites (resI f kids)]
mutual
theorem deep_res1 (f : Bs → Bs → Bs) : ∀ x : Inl, (∀ y ∈ deep1 x, refPlainP y) → deep1 (resI1 f x) = (deep1 x).flatMap (expI f)
 | .mk k t d ti a args cites kids, h => by
  have h0 := h (.mk k t d ti a args cites kids) (by simp [deep1])
  have ih := deep_res f kids fun y hy => h y (by rw [deep1]; exact List.mem_cons_of_mem _ hy)
  rw [resI1, deep1, List.flatMap_cons, expI]
  by_cases e : k = 14
  ·
   obtain ⟨-, h2⟩ := h0 e
   rw [if_pos e, if_pos e, h2]
   simp [linkI, textI, deep1, deep]
  ·
   rw [if_neg e, if_neg e, deep1, ih]
   rfl
theorem deep_res (f : Bs → Bs → Bs) : ∀ xs : List Inl, (∀ y ∈ deep xs, refPlainP y) → deep (resI f xs) = (deep xs).flatMap (expI f)
 | [], _ => by simp [resI, deep]
 | x :: xs, h => by
  rw [resI, deep, deep, List.flatMap_append, deep_res1 f x fun y hy => h y (by rw [deep]; exact List.mem_append_left _ hy), deep_res f xs fun y hy => h y (by rw [deep]; exact List.mem_append_right _ hy)]
end
def reb1 (g : List Inl → List Inl) : Blk → Blk
 | .mk k lv inf t d ti a line kids => .mk k lv inf t d ti a (g line) (rebB (fun _ => true) g kids)
theorem rebb_tt (g : List Inl → List Inl) : ∀ x : Blk, rebb (fun _ => true) g x = [reb1 g x]
 | .mk k lv inf t d ti a line kids => by rw [rebb, if_pos rfl, reb1]
mutual
theorem listb_reb (g : List Inl → List Inl) : ∀ x : Blk, listb (reb1 g x) = (listb x).map (reb1 g)
 | .mk k lv inf t d ti a line kids => by
  rw [reb1, listb, listb, List.map_cons, listB_reb g kids, reb1]
theorem listB_reb (g : List Inl → List Inl) : ∀ xs : List Blk, listB (rebB (fun _ => true) g xs) = (listB xs).map (reb1 g)
 | [] => by simp [rebB, listB]
 | x :: xs => by
  rw [rebB, rebb_tt, List.singleton_append, listB, listB, List.map_append, listb_reb g x, listB_reb g xs]
end
theorem line_reb (g : List Inl → List Inl) (b : Blk) : lineOf (reb1 g b) = g (lineOf b) := by cases b; rfl
theorem inls_res (f : Bs → Bs → Bs) (bs : List Blk) (h : ∀ b ∈ listB bs, ∀ y ∈ deep (lineOf b), refPlainP y) : inls (listB (rebB (fun _ => true) (resI f) bs)) = (inls (listB bs)).flatMap (expI f) := by
 rw [listB_reb]
 generalize listB bs = L at h
 induction L with
 | nil => rfl
 | cons b L ih =>
  have e : ∀ (b : Blk) (L : List Blk), inls (b :: L) = deep (lineOf b) ++ inls L := fun _ _ => rfl
  rw [List.map_cons, e, e, List.flatMap_append, line_reb, deep_res f _ (h b (List.mem_cons_self ..)), ih fun b hb => h b (List.mem_cons_of_mem _ hb)]
mutual
theorem res_sz1 (f : Bs → Bs → Bs) : ∀ x : Inl, sz1 (resI1 f x) ≤ 2 * sz1 x
 | .mk k t d ti a args cites kids => by
  have ih := res_sz f kids
  rw [resI1]
  split
  ·
   simp only [linkI, textI, sz1, szI]; omega
  ·
   simp only [sz1]; omega
theorem res_sz (f : Bs → Bs → Bs) : ∀ xs : List Inl, szI (resI f xs) ≤ 2 * szI xs
 | [] => by simp [resI, szI]
 | x :: xs => by
  have h1 := res_sz1 f x
  have h2 := res_sz f xs
  simp only [resI, szI]; omega
end
mutual
theorem reb_sz1 (f : Bs → Bs → Bs) : ∀ x : Blk, szB (rebb (fun _ => true) (resI f) x) ≤ 2 * szb x
 | .mk k lv inf t d ti a line kids => by
  have ih := reb_sz f kids
  have h1 := res_sz f line
  rw [rebb, if_pos rfl]
  simp only [szB, szb]; omega
theorem reb_sz (f : Bs → Bs → Bs) : ∀ xs : List Blk, szB (rebB (fun _ => true) (resI f) xs) ≤ 2 * szB xs
 | [] => by simp [rebB, szB]
 | x :: xs => by
  have h1 := reb_sz1 f x
  have h2 := reb_sz f xs
  rw [rebB]
  have e : ∀ a b : List Blk, szB (a ++ b) = szB a + szB b := by
   intro a b
   induction a with
   | nil => simp [szB]
   | cons x a ih => rw [List.cons_append]; simp only [szB, ih, Nat.add_assoc]
  rw [e]
  simp only [szB]; omega
end
set_option linter.unusedSimpArgs false
set_option linter.unusedVariables false
set_option maxRecDepth 4000
def NlP (N : Nat) (l : List DNum) : Prop := ∀ n ∈ l, szI n.line ≤ N ∧ smI n.line
theorem NlP.snoc {N : Nat} {l : List DNum} {x : DNum} (h : NlP N l) (hx : szI x.line ≤ N ∧ smI x.line) : NlP N (l ++ [x]) := by
 intro y hy
 rcases List.mem_append.1 hy with h1 | h1
 ·
  exact h y h1
 ·
  rw [List.mem_singleton.1 h1]; exact hx
theorem smB_drop1 : ∀ {bs : List Blk}, smB bs → smB (bs.drop 1)
 | [], h => h
 | b :: bs, h => by unfold smB at h; exact h.2
theorem szB_drop1 : ∀ (bs : List Blk), szB (bs.drop 1) ≤ szB bs
 | [] => Nat.le_refl _
 | b :: bs => by simp only [List.drop_succ_cons, List.drop_zero, szB]; omega
theorem cap_sm (k : Int) {kids : List Blk} (h : smB kids) : smI (capIf k kids) ∧ szI (capIf k kids) ≤ szB kids := by
 unfold capIf capOf
 split
 ·
  obtain ⟨h1, h2⟩ := firstPara_sm _ (smB_drop1 h)
  exact ⟨h1, Nat.le_trans h2 (szB_drop1 kids)⟩
 ·
  exact ⟨by unfold smI; trivial, by simp [szI]⟩
mutual
theorem numb1_nl {free : Bool} {N : Nat} : ∀ (b : Blk) (x : Cs), smB1 b → szb b ≤ N → NlP N x.out → NlP N (numb1 free x b).out
 | .mk k lv inf t d ti a line kids, x, hs, hb, h => by
  unfold smB1 at hs
  simp only [szb] at hb
  simp only [numb1]
  have h1 : NlP N (headStep free k lv a line x).out := by
   unfold headStep
   split
   ·
    exact h.snoc ⟨by show szI line ≤ N; omega, hs.2.2.2.2.1⟩
   ·
    exact h
  refine numbB_nl kids _ hs.2.2.2.2.2 (by omega) ?_
  unfold kindStep
  split
  ·
   obtain ⟨c1, c2⟩ := cap_sm k hs.2.2.2.2.2
   exact h1.snoc ⟨by show szI (capIf k kids) ≤ N; omega, c1⟩
  ·
   exact h1
theorem numbB_nl {free : Bool} {N : Nat} : ∀ (bs : List Blk) (x : Cs), smB bs → szB bs ≤ N → NlP N x.out → NlP N (numbB free x bs).out
 | [], x, _, _, h => by simpa [numbB] using h
 | b :: bs, x, hs, hb, h => by
  unfold smB at hs
  simp only [szB] at hb
  simp only [numbB]
  exact numbB_nl bs _ hs.2 (by omega) (numb1_nl b x hs.1 (by omega) h)
end
theorem nums_nl (bs : List Blk) (hs : smB bs) : NlP (szB bs) (numsOf bs) := by
 intro n hn
 unfold numsOf at hn
 rcases List.mem_append.1 hn with hn | hn
 ·
  exact numbB_nl (free := true) bs cs0 hs (Nat.le_refl _) (fun n hn => by cases hn) n hn
 ·
  unfold noteNums at hn
  obtain ⟨i, -, rfl⟩ := List.mem_map.1 hn
  exact ⟨by simp [szI], by unfold smI; trivial⟩
theorem flat_take {α β : Type} (g : α → List β) {A : List α} {i : Nat} {x : α} (h : A[i]? = some x) : (A.take (i + 1)).flatMap g = (A.take i).flatMap g ++ g x := by
 obtain ⟨hlt, rfl⟩ := List.getElem?_eq_some_iff.1 h
 rw [List.take_succ_eq_append_getElem hlt, List.flatMap_append]
 simp
theorem flat_split {α β : Type} (g : α → List β) {A : List α} {i : Nat} {x : α} (h : A[i]? = some x) : A.flatMap g = (A.take i).flatMap g ++ (g x ++ (A.drop (i + 1)).flatMap g) := by
 obtain ⟨hlt, rfl⟩ := List.getElem?_eq_some_iff.1 h
 have e : A = A.take i ++ A[i] :: A.drop (i + 1) := by rw [← List.drop_eq_getElem_cons hlt, List.take_append_drop]
 conv => lhs; rw [e]
 rw [List.flatMap_append, List.flatMap_cons]
theorem exp_ref {f : Bs → Bs → Bs} {k : Int} {t d ti : Bs} {a : DAttr} {args : List Bs} {cites : List DCite} {kids : List Inl} (hk : k = 14) : expI f (.mk k t d ti a args cites kids) = [linkI t (f t ti), textI (f t ti)] := by rw [expI, if_pos hk]
theorem exp_one {f : Bs → Bs → Bs} {k : Int} {t d ti : Bs} {a : DAttr} {args : List Bs} {cites : List DCite} {kids : List Inl} (hk : ¬ k = 14) : (expI f (.mk k t d ti a args cites kids)).length = 1 := by rw [expI, if_neg hk]; rfl
theorem at_ref {f : Bs → Bs → Bs} {A : List Inl} {i : Nat} {t d ti : Bs} {a : DAttr} {args : List Bs} {cites : List DCite} {kids : List Inl} (h : A[i]? = some (.mk 14 t d ti a args cites kids)) :
  (A.flatMap (expI f))[((A.take i).flatMap (expI f)).length]? = some (linkI t (f t ti)) ∧ (A.flatMap (expI f))[((A.take i).flatMap (expI f)).length + 1]? = some (textI (f t ti)) := by
 rw [flat_split (expI f) h, exp_ref rfl]
 constructor
 ·
  rw [List.getElem?_append_right (Nat.le_refl _), Nat.sub_self]; rfl
 ·
  rw [List.getElem?_append_right (by omega), show ((A.take i).flatMap (expI f)).length + 1 - ((A.take i).flatMap (expI f)).length = 1 by omega]; rfl
theorem at_len {f : Bs → Bs → Bs} {A : List Inl} {i : Nat} {x : Inl} (h : A[i]? = some x) : ((A.take (i + 1)).flatMap (expI f)).length = ((A.take i).flatMap (expI f)).length + (expI f x).length := by
 rw [flat_take (expI f) h, List.length_append]
theorem at_le {f : Bs → Bs → Bs} (A : List Inl) (i : Nat) : ((A.take i).flatMap (expI f)).length ≤ (A.flatMap (expI f)).length := by
 have e : A.flatMap (expI f) = (A.take i).flatMap (expI f) ++ (A.drop i).flatMap (expI f) := by rw [← List.flatMap_append, List.take_append_drop]
 rw [e, List.length_append]
 omega
theorem num_text {ns : List DNum} {bs : List Blk} {lang t : Bs} {n : DNum} (hf : findN t ns = some n) (hk : n.kind = secS ∨ n.kind = figS ∨ n.kind = tabS) : refT ns bs lang [] t [] = wordOf lang n.kind ++ ([32] ++ n.value) := by
 unfold findN at hf
 obtain ⟨hp, l1, l2, he, hn⟩ := List.find?_eq_some_iff_append.1 hf
 have hp := of_decide_eq_true hp
 have hns : n.kind ≠ notS := by rcases hk with h | h | h <;> rw [h] <;> decide
 have heq : n.kind ≠ equS := by rcases hk with h | h | h <;> rw [h] <;> decide
 have hnum : numFor ns t = some n := by
  unfold numFor
  rw [List.find?_eq_some_iff_append]
  refine ⟨by simpa using ⟨hp.1, hns⟩, l1, l2, he, fun a ha => ?_⟩
  have := hn a ha
  have : ¬ (a.id = t ∧ t ≠ []) := fun hh => by rw [decide_eq_true hh] at this; cases this
  have : a.id ≠ t := fun e => this ⟨e, hp.2⟩
  simp [this]
 unfold refT
 rw [if_neg (by decide)]
 unfold refTx
 rw [hnum]
 show (if t = [] then _ else numT lang n) = _
 rw [if_neg hp.2]
 unfold numT
 rw [if_neg heq, List.append_assoc]
set_option linter.unusedSimpArgs false
set_option linter.unusedVariables false
set_option maxRecDepth 4000
theorem ResR.one {u : View} {mts : List (Bs × Bs)} {lang : Bs} {ps : List (Bs × Bs)} {bs : List Blk} {r : Value} (h : ResR u mts lang ps bs r) : ∃ (Y : List (Bs × Bs)) (X : List Blk) (pad : Option Addr) (pcap : Nat) (bad : Option Addr) (bcap : Nat), r = .tuple #[.agg #[.slice pad Y.length pcap, .slice bad X.length bcap], .int .i64 (resErr lang bs)] ∧ PrS u (.slice pad Y.length pcap) Y ∧ BlkS u (.slice bad X.length bcap) X ∧ (resErr lang bs ≠ 0 → Y = [] ∧ X = []) ∧ (resErr lang bs = 0 → Y = mts ∧ X = resDoc lang ps bs) := by
 obtain ⟨pad, pcap, bad, bcap, h1, h2, h3⟩ := h.norm
 exact ⟨_, _, pad, pcap, bad, bcap, h1, h2, h3, fun e => ⟨if_neg e, if_neg e⟩, fun e => ⟨if_pos e, if_pos e⟩⟩
theorem resErr_check {lang : Bs} {bs : List Blk} (h : resErr lang bs = 0) : (checkOf bs).2 = 0 := by
 unfold resErr at h
 split at h
 ·
  exact h
 ·
  cases h
theorem lawEnds_fn (s t : Bs) (h : ∃ w, s = w ++ t) (hs : s.length ≤ 1000000000) (u : View) : FnP Tryz.prog 19 [str s, str t] u fun r _ => r = .bool true := by
 obtain ⟨w, rfl⟩ := h
 have hl : (w ++ t).length = w.length + t.length := List.length_append
 have h1 : decide (((w ++ t).length : Int) ≥ (t.length : Int)) = true := decide_eq_true (by omega)
 have hz : IntKind.i64.wrap (((w ++ t).length : Int) - (t.length : Int)) = (w.length : Int) := by rw [Zs (by omega)]; omega
 have h2 : ((w ++ t).drop w.length).take ((w ++ t).length - w.length) = t := by
  rw [List.drop_left, hl, Nat.add_sub_cancel_left, List.take_length]
 refine FnP.intro [.tmp 4] Tryz.func19 rfl rfl rfl ?_
 intro w0 D hw0
 refine Zd (Za (ya rfl rfl (Zf (ρ' := [(0, _), (1, _)]) ⟨rfl, rfl, trivial⟩ ?_)))
 refine Zc (Zd (Za (ym rfl rfl (Zg (Zao rfl rfl Tryz.str9 rfl) rfl (ym rfl rfl (Zg (Zao rfl rfl Tryz.str9 rfl) rfl (Zg (Zci rfl rfl rfl) rfl ?_)))))))
 rw [h1]
 refine ym rfl rfl (Zk rfl rfl (ym rfl rfl (Zk rfl rfl (ym rfl rfl (Zk rfl rfl (Zg (Zao rfl rfl Tryz.str9 rfl) rfl (Zk rfl rfl ?_)))))))
 refine ym rfl rfl (Zk rfl rfl (Zg (Zao rfl rfl Tryz.str9 rfl) rfl (Zk rfl rfl (Zg (y_sub rfl rfl rfl (Zs (by omega))) rfl ?_))))
 rw [show ((w ++ t).length : Int) - (t.length : Int) = ((w.length : Nat) : Int) by omega]
 refine Zk rfl rfl (Zg (Zcc rfl Tryz.str9 rfl (i := w.length) (j := (w ++ t).length) (k' := .i64) rfl rfl (by omega) (Nat.le_refl _)) rfl ?_)
 rw [h2]
 refine Zk rfl rfl (ym rfl rfl (Zk rfl rfl (Zg (Zba rfl rfl rfl) rfl (Zg (Zl rfl rfl rfl) rfl (ya rfl rfl (Zf (ρ' := [(4, _)]) ⟨rfl, trivial⟩ ?_))))))
 refine Zc (Zw (Zbe (.tmp rfl) ?_))
 simp
theorem inl_sm {bs : List Blk} (hs : smB bs) : ∀ x ∈ inls (listB bs), smI1 x := by
 intro x hx
 unfold inls at hx
 obtain ⟨b, hb, hy⟩ := List.mem_flatMap.1 hx
 obtain ⟨q1, -⟩ := smB_mem _ bs (Nat.le_refl _) hs b hb
 obtain ⟨k, lv, inf, t, d, ti, a, line, kids⟩ := b
 unfold smB1 at q1
 exact (smI_mem _ line (Nat.le_refl _) q1.2.2.2.2.1 x hy).1
set_option maxHeartbeats 8000000 in
theorem labelNumbers_fn (d : DDoc) (vm vb : Value) (lang : Bs) (u : View) (hT : TabU u) (hm : PrS u vm d.mts) (hb : BlkS u vb d.blocks) (hok : DocOk d) :
  FnP Tryz.prog 5 [.agg #[vm, vb], str lang] u fun r _ => r = .bool true := by
 have hsl := len_szB d.blocks
 refine FnP.intro [.tmp 4] Tryz.func5 rfl rfl rfl ?_
 intro w0 D hw0
 refine Zd (Za (Zv rfl rfl ?_))
 refine Zbx trivial rfl (cs := [_, _]) rfl rfl rfl rfl ?_
 refine ya rfl rfl (Zf (ρ' := [(1, _), (2, _)]) ⟨rfl, rfl, trivial⟩ ?_)
 refine Zc (Zd (Zd (Za (Zg (Zi rfl Tryz.k25 rfl rfl rfl (vs := [_, _]) rfl rfl rfl) rfl (Zv rfl rfl ?_)))))
 refine Zaa (caps := []) trivial rfl rfl Tryz.c6 rfl (FnP.mono (small_fn d vm vb u hm hb hok) ?_)
 rintro v u1 hle1 ⟨b, rfl, hsm⟩
 refine Zg (Zbr rfl rfl) rfl (ym rfl rfl ?_)
 refine Zae 17 rfl (fun hg1_3 => ?_) (fun hg1_3 => ?_)
 ·
  iterate 3 refine Zt rfl rfl rfl rfl ?_
  refine Zg (Zl rfl rfl rfl) rfl (Zf (ρ' := [(1, _), (2, _), (21, _)]) ⟨rfl, rfl, rfl, trivial⟩ ?_)
  refine Zc (Zcr rfl (rfl) (Zd (Za (Zv rfl rfl ?_))))
  refine Zaa (caps := []) trivial rfl rfl Tryz.c8 rfl (FnP.mono (lawawake_fn u hT) ?_)
  rintro v u1 hle1 rfl
  refine ya rfl rfl (Zf (ρ' := [(4, _)]) ⟨rfl, trivial⟩ ?_)
  refine Zc (Zw (Zj (Zbe (.tmp rfl) ?_)))
  rfl
 ·
  refine Zk rfl rfl (Zg (Zi rfl Tryz.k25 rfl rfl rfl (vs := [_, _]) rfl rfl rfl) rfl ?_)
  have hbt : b = true := by simpa using hg1_3
  obtain ⟨hml, hms, hsz, hsm2⟩ := hsm hbt
  have hms2 : ∀ p ∈ d.mts, p.1.length + p.2.length ≤ 1000000 := fun p hp => Nat.le_trans (hms p hp) (by omega)
  refine Zk rfl rfl (Zv rfl rfl ?_)
  refine Zaa (caps := []) trivial rfl rfl Tryz.c12 rfl (FnP.mono (docCheck_fn d vm vb u hm hb (by omega) hms2 (by omega) hsm2) ?_)
  rintro v u1 hle1 ⟨e, rfl, he⟩
  refine Zk rfl rfl (Zg (Zck rfl rfl rfl) rfl (Zg (Zn rfl rfl rfl) rfl (Zf (ρ' := [(1, _), (2, _), (21, _)]) ⟨rfl, rfl, rfl, trivial⟩ ?_)))
  refine Zc ?_
  refine Zo rfl (fun hb1 => ?_) (fun hb1 => ?_)
  ·
   refine Zd (Za (Zv rfl rfl ?_))
   refine Zaa (caps := []) trivial rfl rfl Tryz.c8 rfl (FnP.mono (lawawake_fn u hT) ?_)
   rintro v u1 hle1 rfl
   refine ya rfl rfl (Zf (ρ' := [(4, _)]) ⟨rfl, trivial⟩ ?_)
   refine Zc (Zw (Zj (Zbe (.tmp rfl) ?_)))
   rfl
  ·
   refine Zr (Zc (Zd ?_))
   have he0 : okC d.blocks := he (by first | exact Decidable.of_not_not (of_decide_eq_false hb2) | exact Decidable.of_not_not (of_decide_eq_false hb1))
   have hrp := okC_refs he0
   have hp0 : ∀ p ∈ ([] : List (Bs × Bs)), p.2.length ≤ 100000 := fun p hp => by cases hp
   refine Za (Zg (Zi rfl Tryz.k25 rfl rfl rfl (vs := [_, _]) rfl rfl rfl) rfl (ym rfl rfl (Zv rfl rfl ?_)))
   refine Zbm (caps := []) trivial rfl rfl Tryz.c9 rfl (FnP.mono (labResolve_fn vm vb _ d.mts lang d.blocks [] u hT (by omega) hsm2 (by omega) (by simp) hp0 hm hb (nilPr _)) ?_)
   rintro v uA hle0 hR1 hleA
   obtain ⟨Y, X, pad, pcap, bad, bcap, rfl, hp1, hb1x, hX0, hX1⟩ := hR1.one
   refine ym rfl rfl (Zg (Zbj rfl rfl rfl) rfl (Zg (Zbj rfl rfl rfl) rfl (Zv rfl rfl ?_)))
   refine Zas trivial Tryz.z25 rfl rfl rfl ?_
   refine Zv rfl rfl ?_
   refine Zm trivial rfl Tryz.k25 rfl rfl rfl (vs := [_, _]) rfl rfl (by first | rfl | assumption | simp [Value.oneCell', str]) (Nat.le_of_ble_eq_true rfl) rfl ?_
   refine ya rfl rfl (Zf (ρ' := [(2, _), (5, _), (6, _)]) ⟨rfl, rfl, rfl, trivial⟩ ?_)
   refine Zc (Zd (Zd (Za (ym rfl rfl (Zg (Zck rfl rfl rfl) rfl (Zf (ρ' := [(2, _), (5, _), (30, _)]) ⟨rfl, rfl, rfl, trivial⟩ ?_))))))
   refine Zc ?_
   refine Zo rfl (fun hb4 => ?_) (fun hb4 => ?_)
   ·
    skip
    refine Zd (Za (Zv rfl rfl ?_))
    refine Zaa (caps := []) trivial rfl rfl Tryz.c8 rfl (FnP.mono (lawawake_fn uA (hT.mono hleA)) ?_)
    rintro v u1 hle1 rfl
    refine ya rfl rfl (Zf (ρ' := [(4, _)]) ⟨rfl, trivial⟩ ?_)
    refine Zc (Zw (Zj (Zbe (.tmp rfl) ?_)))
    rfl
   ·
    have h4 : resErr lang d.blocks = 0 := Decidable.of_not_not (of_decide_eq_false hb4)
    obtain ⟨-, hX⟩ := hX1 h4
    have hc0 := resErr_check h4
    have hszX : szB X ≤ 240 := by rw [hX]; exact Nat.le_trans (reb_sz _ _) (by omega)
    have hinX : inls (listB X) = (inls (listB d.blocks)).flatMap (expI (refT (numsOf d.blocks) d.blocks lang [])) := by rw [hX]; exact inls_res _ _ hrp
    have hll := inls_len (listB X)
    have hls := szL_listB X
    have hll2 := inls_len (listB d.blocks)
    have hls2 := szL_listB d.blocks
    have hns := nsOk_numsOf d.blocks hsm2 (by omega)
    have hnl := nums_nl d.blocks hsm2
    have hnl2 : ∀ x ∈ numsOf d.blocks, szI x.line ≤ 100000 ∧ smI x.line := fun x hx => ⟨Nat.le_trans (hnl x hx).1 (by omega), (hnl x hx).2⟩
    have hism := inl_sm hsm2
    refine Zr (Zc (Zd ?_))
    refine Zbk Tryz.mixed rfl [(2, _), (5, _)] ⟨rfl, rfl, trivial⟩ ?_
    refine Zal 0 rfl (by kernel_rfl) (Zb (Zan)) (Zh rfl Tryz.f25' rfl (by decide) rfl) rfl ?_
    refine Zal 1 rfl (by kernel_rfl) (Zb (Zan)) (Zi rfl Tryz.k23 rfl rfl rfl (vs := [_]) rfl rfl rfl) rfl ?_
    refine Zal 3 rfl (by kernel_rfl) (Zb (Zan)) (Zh rfl Tryz.f25' rfl (by decide) rfl) rfl ?_
    refine Zal 4 rfl (by kernel_rfl) (Zb (Zan)) (Zi rfl Tryz.k23 rfl rfl rfl (vs := [_]) rfl rfl rfl) rfl ?_
    refine Zar (i := 2) rfl rfl (by kernel_rfl) ?_
    refine Zbm (caps := []) ⟨rfl, rfl, trivial⟩ rfl rfl Tryz.c13 rfl (FnP.mono (inlines_fn _ d.blocks uA (by omega) (hb.mono hleA)) ?_)
    rintro v uI hle0 ⟨acs, ⟨aas, cas, rfl, ha1⟩, ha2⟩ hleI
    refine Zar (i := 5) rfl rfl (by kernel_rfl) ?_
    refine Zbm (caps := []) ⟨rfl, rfl, trivial⟩ rfl rfl Tryz.c13 rfl (FnP.mono (inlines_fn _ X uI (by omega) (hb1x.mono hleI)) ?_)
    rintro v uJ hle0 ⟨xcs, ⟨axs, cxs, rfl, hx1⟩, hx2⟩ hleJ
    refine Zal 6 rfl (by kernel_rfl) (Zb (Zan)) (Zcf rfl rfl) rfl (Zal 7 rfl (by kernel_rfl) (Zb (Zan)) (Zcf rfl rfl) rfl ?_)
    refine Zbl (by kernel_rfl) (ρ' := [(2, _), (7, _), (8, _)]) ⟨rfl, rfl, rfl, trivial⟩ ?_
    refine Zc (Zd (Za (Zg (Zi rfl Tryz.k25 rfl rfl rfl (vs := [_, _]) rfl rfl rfl) rfl (Zv rfl rfl ?_))))
    refine Zbm (caps := []) trivial rfl rfl Tryz.c17 rfl (FnP.mono (numbers_fn vm vb d.blocks uJ (((hT.mono hleA).mono hleI).mono hleJ) (by omega) hsm2 (((hb.mono hleA).mono hleI).mono hleJ)) ?_)
    rintro v uN hle0 hnS hleN
    have hnS2 := hnS
    obtain ⟨ncs, ⟨nad, ncap, rfl, -⟩, -⟩ := hnS2
    have ha1 := (ha1.mono hleJ).mono hleN
    have ha2 := (ha2.mono hleJ).mono hleN
    have hx1 := hx1.mono hleN
    have hx2 := hx2.mono hleN
    have hTN := (((hT.mono hleA).mono hleI).mono hleJ).mono hleN
    refine ya rfl rfl (Zf (ρ' := [(7, _), (8, _), (9, _)]) ⟨rfl, rfl, rfl, trivial⟩ ?_)
    refine Zc (Zd (Za (ya rfl rfl (Zf (ρ' := [(7, _), (8, _), (9, _), (10, _)]) ⟨rfl, rfl, rfl, rfl, trivial⟩ ?_))))
    refine Zc (Zd (Zd (Za (ya rfl rfl (Zf (ρ' := [(7, _), (8, _), (9, _), (10, _), (11, _)]) ⟨rfl, rfl, rfl, rfl, rfl, trivial⟩ ?_)))))
    refine Zc (Zad ?_)
    refine Zbc (fun m_0 ρ σ u' => ∃ i : Nat, i + m_0 = (inls (listB d.blocks)).length ∧ VLe uN u' ∧ ∃ (kk : Nat), σ = [] ∧ ρ = [(7, .v (.slice aas (inls (listB d.blocks)).length cas)), (8, .v (.slice axs (inls (listB X)).length cxs)), (9, .v (.slice nad (numsOf d.blocks).length ncap)), (10, .v (.int .i64 (kk : Nat))), (11, .v (.int .i64 i))] ∧ (kk = (((inls (listB d.blocks)).take i).flatMap (expI (refT (numsOf d.blocks) d.blocks lang []))).length)) ((inls (listB d.blocks)).length) ?_ ?_
    ·
     refine ⟨[(7, _), (8, _), (9, _), (10, _), (11, _)], [], ⟨rfl, rfl, rfl, rfl, rfl, trivial⟩, trivial, 0, by omega, VLe.refl _, 0, rfl, rfl, ?_⟩
     simp
    ·
     rintro m ρ σ u' ⟨i, hi10, hle10, kk, rfl, rfl, hkk⟩
     refine Zd (Zd (Za (ym rfl rfl (ym rfl rfl (Zg (Zaq rfl rfl Tryz.s35 rfl) rfl (Zg (Zbn rfl rfl rfl) rfl (Zf (ρ' := [(7, _), (8, _), (9, _), (10, _), (11, _), (43, _)]) ⟨rfl, rfl, rfl, rfl, rfl, rfl, trivial⟩ ?_)))))))
     refine Zc ?_
     refine Zo rfl (fun hb10 => ?_) (fun hb10 => ?_)
     ·
      have hlt : i < (inls (listB d.blocks)).length := by have := of_decide_eq_true hb10; omega
      have ha1 := ha1.mono hle10
      have hx1 := hx1.mono hle10
      have hx2 := hx2.mono hle10
      obtain ⟨k, t, dd, ti, a, args, cites, kids, vc, vq, va, vt, vk, hg, hcut1, s1, s2, s3, s4, s5, hok1⟩ := (ha2.mono hle10).at hlt
      have htl : smI1 (.mk k t dd ti a args cites kids) := hism _ (List.mem_of_getElem? hg)
      unfold smI1 NodeSm at htl
      have hat := at_len (f := refT (numsOf d.blocks) d.blocks lang []) hg
      have hkl := at_le (f := refT (numsOf d.blocks) d.blocks lang []) (inls (listB d.blocks)) (i + 1)
      rw [← hinX] at hkl
      refine Zr (Zc (Zd (Zad (Zd (Zd (Za (ym rfl rfl ?_)))))))
      refine ym rfl rfl (Zg (Zai rfl Tryz.s35 rfl rfl (by assumption) (by first | rfl | omega) (by omega)) rfl (Zg (Zau rfl Tryz.f42' rfl (by decide) rfl) rfl (Zg (Zag rfl Tryz.k3 rfl (by assumption) (by omega) (by assumption) (vs := [_]) rfl rfl rfl rfl) rfl (Zg (Zck rfl rfl rfl) rfl (Zf (ρ' := [(7, _), (8, _), (9, _), (10, _), (11, _), (51, _)]) ⟨rfl, rfl, rfl, rfl, rfl, rfl, trivial⟩ ?_)))))
      refine Zc ?_
      refine Zo rfl (fun hb12 => ?_) (fun hb12 => ?_)
      ·
       have h12 : ¬ k = 14 := of_decide_eq_true hb12
       rw [exp_one h12] at hat
       obtain ⟨kk2, hkk2⟩ : ∃ kk2, kk2 = kk + 1 := ⟨_, rfl⟩
       refine Zd (Za (ym rfl rfl (Zg (Zav rfl rfl rfl (Zs (by omega))) rfl ?_)))
       refine ya rfl rfl (Zf (ρ' := [(7, _), (8, _), (9, _), (10, _), (11, _)]) ⟨rfl, rfl, rfl, rfl, rfl, trivial⟩ ?_)
       refine Zc ?_
       refine Zax ?_
       refine Zq ?_
       refine Zaf ?_
       refine Zc (Za (ym rfl rfl (Zg (Zav rfl rfl rfl (Zs (by omega))) rfl ?_)))
       refine ya rfl rfl (Zf (ρ' := [(7, _), (8, _), (9, _), (10, _), (11, _)]) ⟨rfl, rfl, rfl, rfl, rfl, trivial⟩ ?_)
       refine Zab ?_
       refine ⟨m - 1, [(7, _), (8, _), (9, _), (10, _), (11, _)], [], by omega, ⟨rfl, rfl, rfl, rfl, rfl, trivial⟩, trivial, i + 1, by omega, (by first | exact hle10.trans hleF | exact hle10), kk2, rfl, (by first | rfl | (simp only [List.cons.injEq, Prod.mk.injEq, SV.v.injEq, Value.int.injEq, true_and, and_true]; omega) | (subst hkk2; rfl)), ?_⟩
       omega
      ·
       have h12 : k = 14 := Decidable.of_not_not (of_decide_eq_false hb12)
       subst h12
       rw [exp_ref rfl] at hat
       obtain ⟨kk2, hkk2⟩ : ∃ kk2, kk2 = kk + 2 := ⟨_, rfl⟩
       simp only [List.length_cons, List.length_nil] at hat
       obtain ⟨hB1, hB2⟩ := at_ref (f := refT (numsOf d.blocks) d.blocks lang []) hg
       rw [← hinX, ← hkk] at hB1 hB2
       have hk2 : kk + 1 < (inls (listB X)).length := by omega
       obtain ⟨k3, t3, d3, ti3, a3, args3, cites3, kids3, vc3, vq3, va3, vt3, vk3, hg3, hcut3, -, -, -, -, -, -⟩ := hx2.at (i := kk) (by omega)
       obtain ⟨k4, t4, d4, ti4, a4, args4, cites4, kids4, vc4, vq4, va4, vt4, vk4, hg4, hcut4, -, -, -, -, -, -⟩ := hx2.at (i := kk + 1) hk2
       have e3 := Option.some.inj (hg3.symm.trans hB1)
       have e4 := Option.some.inj (hg4.symm.trans hB2)
       unfold linkI at e3
       unfold textI at e4
       cases e3
       cases e4
       refine Zr (Zc (Zd (Zd ?_)))
       refine Zcj 80 (false) (ρk := [(7, _), (8, _), (9, _), (10, _), (11, _)]) ⟨rfl, rfl, rfl, rfl, rfl, trivial⟩ ?_ ?_
       ·
        refine Zbk Tryz.mixed rfl [] trivial ?_
        refine Zal 0 rfl (by kernel_rfl) (Zx) (Zap rfl rfl) rfl ?_
        refine Zal 1 rfl (by kernel_rfl) (Zx) (Zav rfl rfl rfl (Zs (by omega))) rfl ?_
        refine Zal 2 rfl (by kernel_rfl) (Zx) (Zap rfl rfl) rfl ?_
        refine Zal 3 rfl (by kernel_rfl) (Zx) (Zaq rfl rfl Tryz.s35 rfl) rfl ?_
        refine Zal 4 rfl (by kernel_rfl) (Zx) (Zci rfl rfl rfl) rfl ?_
        refine Zal 5 rfl (by kernel_rfl) (Zx) (Zap rfl rfl) rfl ?_
        refine ra_case 59 rfl (fun hg14_5 => ?_) (fun hg14_5 => ?_)
        ·
         refine Zay 6 rfl rfl rfl rfl (by kernel_rfl) (Zx) rfl (Zay 7 rfl rfl rfl rfl (by kernel_rfl) (Zx) rfl (Zay 8 rfl rfl rfl rfl (by kernel_rfl) (Zx) rfl (Zay 9 rfl rfl rfl rfl (by kernel_rfl) (Zx) rfl (Zay 10 rfl rfl rfl rfl (by kernel_rfl) (Zx) rfl (Zay 11 rfl rfl rfl rfl (by kernel_rfl) (Zx) rfl ?_)))))
         refine Zal 12 rfl (by kernel_rfl) (Zx) (Zl rfl rfl rfl) rfl ?_
         refine Zal 13 rfl (by kernel_rfl) (Zx) (Zap rfl rfl) rfl (Zay 14 rfl rfl rfl rfl (by kernel_rfl) (Zx) rfl (Zay 15 rfl rfl rfl rfl (by kernel_rfl) (Zx) rfl (Zay 16 rfl rfl rfl rfl (by kernel_rfl) (Zx) rfl (Zay 17 rfl rfl rfl rfl (by kernel_rfl) (Zx) rfl (Zay 18 rfl rfl rfl rfl (by kernel_rfl) (Zx) rfl (Zay 19 rfl rfl rfl rfl (by kernel_rfl) (Zx) rfl (Zay 20 rfl rfl rfl rfl (by kernel_rfl) (Zx) rfl ?_)))))))
         refine Zay 21 rfl rfl rfl rfl (by kernel_rfl) (Zx) rfl (Zay 22 rfl rfl rfl rfl (by kernel_rfl) (Zx) rfl (Zay 23 rfl rfl rfl rfl (by kernel_rfl) (Zx) rfl (Zay 24 rfl rfl rfl rfl (by kernel_rfl) (Zx) rfl (Zay 25 rfl rfl rfl rfl (by kernel_rfl) (Zx) rfl ?_))))
         refine Zal 26 rfl (by kernel_rfl) (Zx) (Zl rfl rfl rfl) rfl ?_
         exact Zcu (by kernel_rfl) rfl ⟨rfl, rfl, rfl, rfl, rfl, trivial⟩ (by
         first
         | rfl
         | (exfalso; first
            | (have := of_decide_eq_true hg14_5; omega)
            | exact absurd (of_decide_eq_true hg14_13) (by decide))
         | (refine decide_eq_false ?_; simp))
        ·
         refine Zbq 6 rfl rfl rfl (by kernel_rfl) (Zx) (Zap rfl rfl) rfl (Zbq 7 rfl rfl rfl (by kernel_rfl) (Zx) (Zap rfl rfl) rfl ?_)
         refine Zbq 8 rfl rfl rfl (by kernel_rfl) (Zx) (Zai rfl Tryz.s35 rfl rfl (by assumption) (by first | rfl | omega) (by omega)) rfl ?_
         refine Zbq 9 rfl rfl rfl (by kernel_rfl) (Zx) (Zau rfl Tryz.f42' rfl (by decide) rfl) rfl ?_
         refine Zbq 10 rfl rfl rfl (by kernel_rfl) (Zx) (Zag rfl Tryz.k3 rfl (by assumption) (by omega) (by assumption) (vs := [_]) rfl rfl rfl rfl) rfl ?_
         refine Zbq 11 rfl rfl rfl (by kernel_rfl) (Zx) (Zck rfl rfl rfl) rfl ?_
         refine Zal 12 rfl (by kernel_rfl) (Zx) (Zn rfl rfl rfl) rfl ?_
         refine Zal 13 rfl (by kernel_rfl) (Zx) (Zap rfl rfl) rfl ?_
         refine ra_case 67 rfl (fun hg14_13 => ?_) (fun hg14_13 => ?_)
         ·
          refine Zay 14 rfl rfl rfl rfl (by kernel_rfl) (Zx) rfl (Zay 15 rfl rfl rfl rfl (by kernel_rfl) (Zx) rfl (Zay 16 rfl rfl rfl rfl (by kernel_rfl) (Zx) rfl (Zay 17 rfl rfl rfl rfl (by kernel_rfl) (Zx) rfl (Zay 18 rfl rfl rfl rfl (by kernel_rfl) (Zx) rfl (Zay 19 rfl rfl rfl rfl (by kernel_rfl) (Zx) rfl (Zay 20 rfl rfl rfl rfl (by kernel_rfl) (Zx) rfl (Zay 21 rfl rfl rfl rfl (by kernel_rfl) (Zx) rfl ?_)))))))
          refine Zay 22 rfl rfl rfl rfl (by kernel_rfl) (Zx) rfl (Zay 23 rfl rfl rfl rfl (by kernel_rfl) (Zx) rfl (Zay 24 rfl rfl rfl rfl (by kernel_rfl) (Zx) rfl (Zay 25 rfl rfl rfl rfl (by kernel_rfl) (Zx) rfl ?_)))
          refine Zal 26 rfl (by kernel_rfl) (Zx) (Zl rfl rfl rfl) rfl ?_
          exact Zcu (by kernel_rfl) rfl ⟨rfl, rfl, rfl, rfl, rfl, trivial⟩ (by
          first
          | rfl
          | (exfalso; first
             | (have := of_decide_eq_true hg14_5; omega)
             | exact absurd (of_decide_eq_true hg14_13) (by decide))
          | (refine decide_eq_false ?_; simp))
         ·
          refine Zbq 14 rfl rfl rfl (by kernel_rfl) (Zx) (Zap rfl rfl) rfl (Zbq 15 rfl rfl rfl (by kernel_rfl) (Zx) (Zap rfl rfl) rfl ?_)
          refine Zbq 16 rfl rfl rfl (by kernel_rfl) (Zx) (Zai rfl Tryz.s35 rfl rfl (by assumption) (by first | rfl | omega) (by omega)) rfl ?_
          refine Zbq 17 rfl rfl rfl (by kernel_rfl) (Zx) (Zau rfl Tryz.f42' rfl (by decide) rfl) rfl ?_
          refine Zbq 18 rfl rfl rfl (by kernel_rfl) (Zx) (Zag rfl Tryz.k9 rfl (by assumption) (by omega) (by assumption) (vs := [_]) rfl rfl rfl rfl) rfl ?_
          refine Zbq 19 rfl rfl rfl (by kernel_rfl) (Zx) (Zap rfl rfl) rfl (Zbq 20 rfl rfl rfl (by kernel_rfl) (Zx) (Zap rfl rfl) rfl ?_)
          refine Zbq 21 rfl rfl rfl (by kernel_rfl) (Zx) (Zai rfl Tryz.s35 rfl rfl (by assumption) (by first | rfl | omega) (by omega)) rfl ?_
          refine Zbq 22 rfl rfl rfl (by kernel_rfl) (Zx) (Zau rfl Tryz.f42' rfl (by decide) rfl) rfl ?_
          refine Zbq 23 rfl rfl rfl (by kernel_rfl) (Zx) (Zag rfl Tryz.k9 rfl (by assumption) (by omega) (by assumption) (vs := [_]) rfl rfl rfl rfl) rfl ?_
          refine Zbq 24 rfl rfl rfl (by kernel_rfl) (Zx) (Zcd (l := [35]) rfl rfl rfl (by simp only [List.length_cons, List.length_nil]; omega)) rfl ?_
          refine Zbq 25 rfl rfl rfl (by kernel_rfl) (Zx) (Zbv rfl rfl rfl) rfl ?_
          refine Zal 26 rfl (by kernel_rfl) (Zx) (Zn rfl rfl rfl) rfl ?_
          exact Zcu (by kernel_rfl) rfl ⟨rfl, rfl, rfl, rfl, rfl, trivial⟩ (by
          first
          | rfl
          | (exfalso; first
             | (have := of_decide_eq_true hg14_5; omega)
             | exact absurd (of_decide_eq_true hg14_13) (by decide))
          | (refine decide_eq_false ?_; simp))
       refine Zc (Zce rfl (rfl) (Zr (Zc (Zd (Za (ym rfl rfl (ym rfl rfl ?_)))))))
       refine ym rfl rfl (Zg (Zai rfl Tryz.s35 rfl rfl (by assumption) (by first | rfl | omega) (by omega)) rfl (Zg (Zau rfl Tryz.f42' rfl (by decide) rfl) rfl (Zg (Zag rfl Tryz.k9 rfl (by assumption) (by omega) (by assumption) (vs := [_]) rfl rfl rfl rfl) rfl (Zv rfl rfl ?_))))
       refine Zbm (caps := []) trivial rfl rfl Tryz.c18 rfl (FnP.mono (countFind_fn _ (numsOf d.blocks) t (by have := hns.1; omega) hnl2 u' (hnS.mono hle10)) ?_)
       rintro v uF hle0 ⟨cF, rfl, vlF, rfl, lF, ⟨aF, pF, rfl, hlF⟩, hlF2⟩ hleF
       have ha1 := ha1.mono hleF
       have hx1 := hx1.mono hleF
       refine ym rfl rfl (Zg (Zbj rfl rfl rfl) rfl (Zg (Zbj rfl rfl rfl) rfl (Zv rfl rfl ?_)))
       refine Zas trivial Tryz.z50 rfl rfl rfl ?_
       refine Zv rfl rfl ?_
       refine Zm trivial rfl Tryz.k50 rfl rfl rfl (vs := [_, _, _, _]) rfl rfl (by first | rfl | assumption | simp [Value.oneCell', str]) (Nat.le_of_ble_eq_true rfl) rfl ?_
       refine ya rfl rfl (Zf (ρ' := [(7, _), (8, _), (9, _), (10, _), (11, _), (12, _), (13, _)]) ⟨rfl, rfl, rfl, rfl, rfl, rfl, rfl, trivial⟩ ?_)
       refine Zc (Zd (Zd ?_))
       refine Zcj 127 (false) (ρk := [(7, _), (8, _), (9, _), (10, _), (11, _)]) ⟨rfl, rfl, rfl, rfl, rfl, trivial⟩ ?_ ?_
       ·
        refine Zbk Tryz.mixed rfl [(12, _)] ⟨rfl, trivial⟩ ?_
        refine Zal 0 rfl (by kernel_rfl) (Zx) (Zap rfl rfl) rfl (Zal 1 rfl (by kernel_rfl) (Zx) (Zap rfl rfl) rfl ?_)
        refine ra_case 92 rfl (fun hg17_1 => ?_) (fun hg17_1 => ?_)
        ·
         refine Zbq 2 rfl rfl rfl (by kernel_rfl) (Zx) (Zap rfl rfl) rfl (Zbq 3 rfl rfl rfl (by kernel_rfl) (Zx) (Zap rfl rfl) rfl ?_)
         refine Zbq 4 rfl rfl rfl (by kernel_rfl) (Zx) (Zai rfl Tryz.s35 rfl rfl (by assumption) (by first | rfl | omega) (by omega)) rfl ?_
         refine Zbq 5 rfl rfl rfl (by kernel_rfl) (Zx) (Zau rfl Tryz.f42' rfl (by decide) rfl) rfl ?_
         refine Zbq 6 rfl rfl rfl (by kernel_rfl) (Zx) (Zag rfl Tryz.k9 rfl (by assumption) (by omega) (by assumption) (vs := [_]) rfl rfl rfl rfl) rfl ?_
         refine Zbq 7 rfl rfl rfl (by kernel_rfl) (Zx) (Zba rfl rfl rfl) rfl ?_
         refine Zal 8 rfl (by kernel_rfl) (Zx) (Zl rfl rfl rfl) rfl ?_
         refine Zal 9 rfl (by kernel_rfl) (Zx) (Zap rfl rfl) rfl ?_
         refine ra_case 100 rfl (fun hg17_9 => ?_) (fun hg17_9 => ?_)
         ·
          refine Zbq 10 rfl rfl rfl (by kernel_rfl) (Zx) (Zh rfl Tryz.f50' rfl (by decide) rfl) rfl ?_
          refine Zbq 11 rfl rfl rfl (by kernel_rfl) (Zx) (Zi rfl Tryz.k9 rfl rfl rfl (vs := [_]) rfl rfl rfl) rfl ?_
          refine Zbq 12 rfl rfl rfl (by kernel_rfl) (Zx) (Zba rfl rfl rfl) rfl ?_
          refine Zbq 13 rfl rfl rfl (by kernel_rfl) (Zx) (Zap rfl rfl) rfl ?_
          refine ra_case 104 rfl (fun hg17_13 => ?_) (fun hg17_13 => ?_)
          ·
           refine Zay 14 rfl rfl rfl rfl (by kernel_rfl) (Zx) rfl (Zay 15 rfl rfl rfl rfl (by kernel_rfl) (Zx) rfl (Zay 16 rfl rfl rfl rfl (by kernel_rfl) (Zx) rfl ?_))
           refine Zbq 17 rfl rfl rfl (by kernel_rfl) (Zx) (Zl rfl rfl rfl) rfl ?_
           refine Zbq 18 rfl rfl rfl (by kernel_rfl) (Zx) (Zap rfl rfl) rfl (Zay 19 rfl rfl rfl rfl (by kernel_rfl) (Zx) rfl (Zay 20 rfl rfl rfl rfl (by kernel_rfl) (Zx) rfl (Zay 21 rfl rfl rfl rfl (by kernel_rfl) (Zx) rfl ?_)))
           refine Zbq 22 rfl rfl rfl (by kernel_rfl) (Zx) (Zl rfl rfl rfl) rfl ?_
           refine Zal 23 rfl (by kernel_rfl) (Zx) (Zl rfl rfl rfl) rfl ?_
           refine Zal 24 rfl (by kernel_rfl) (Zx) (Zap rfl rfl) rfl (Zbq 25 rfl rfl rfl (by kernel_rfl) (Zx) (Zap rfl rfl) rfl (Zbq 26 rfl rfl rfl (by kernel_rfl) (Zx) (Zap rfl rfl) rfl ?_))
           refine Zbq 27 rfl rfl rfl (by kernel_rfl) (Zx) (Zav rfl rfl rfl (Zs (by omega))) rfl ?_
           refine Zbq 28 rfl rfl rfl (by kernel_rfl) (Zx) (Zai rfl Tryz.s35 rfl rfl (by assumption) (by first | rfl | omega) (by omega)) rfl ?_
           refine Zbq 29 rfl rfl rfl (by kernel_rfl) (Zx) (Zau rfl Tryz.f42' rfl (by decide) rfl) rfl ?_
           refine Zbq 30 rfl rfl rfl (by kernel_rfl) (Zx) (Zag rfl Tryz.k9 rfl (by assumption) (by omega) (by assumption) (vs := [_]) rfl rfl rfl rfl) rfl ?_
           refine Zbq 31 rfl rfl rfl (by kernel_rfl) (Zx) (Zh rfl Tryz.f50' rfl (by decide) rfl) rfl ?_
           refine Zbq 32 rfl rfl rfl (by kernel_rfl) (Zx) (Zi rfl Tryz.k9 rfl rfl rfl (vs := [_]) rfl rfl rfl) rfl ?_
           obtain ⟨n, hn⟩ := Option.isSome_iff_exists.1 hg17_1
           have hti : ti = [] := of_decide_eq_true hg17_9
           have hn2 : (findN t (numsOf d.blocks)).getD num0 = n := by rw [hn]; rfl
           have hk3 : n.kind = secS ∨ n.kind = figS ∨ n.kind = tabS := by
            rw [← hn2]
            first
            | exact .inl (of_decide_eq_true hg17_13)
            | exact .inr (.inl (of_decide_eq_true hg17_18))
            | exact .inr (.inr (of_decide_eq_true hg17_24))
           have hnt := num_text (bs := d.blocks) (lang := lang) hn hk3
           have hvl := (hns.2 n (List.mem_of_find?_eq_some hn)).2.2
           have hwl := wordOf_len lang n.kind
           refine Zbq 33 rfl rfl rfl (by kernel_rfl) (Zx) (Zcd (l := [32]) rfl rfl rfl (by rw [hn2]; simp only [List.length_cons, List.length_nil]; omega)) rfl ?_
           refine ra_do_on (i := 34) rfl rfl rfl (by kernel_rfl) ?_
           refine Zaa (caps := []) ⟨rfl, trivial⟩ rfl rfl Tryz.c19 rfl (FnP.mono (lawEnds_fn _ _ (by rw [hti, hnt, hn]; exact ⟨_, rfl⟩) (by rw [hti, hnt]; simp; omega) uF) ?_)
           rintro v u1 hle1 rfl
           refine Zbq 35 rfl rfl rfl (by kernel_rfl) (Zx) (Zbr rfl rfl) rfl ?_
           refine Zal 36 rfl (by kernel_rfl) (Zx) (Zl rfl rfl rfl) rfl ?_
           exact Zcu (by kernel_rfl) rfl ⟨rfl, rfl, rfl, rfl, rfl, trivial⟩ (rfl)
          ·
           refine Zbq 14 rfl rfl rfl (by kernel_rfl) (Zx) (Zh rfl Tryz.f50' rfl (by decide) rfl) rfl ?_
           refine Zbq 15 rfl rfl rfl (by kernel_rfl) (Zx) (Zi rfl Tryz.k9 rfl rfl rfl (vs := [_]) rfl rfl rfl) rfl ?_
           refine Zbq 16 rfl rfl rfl (by kernel_rfl) (Zx) (Zba rfl rfl rfl) rfl ?_
           refine Zbq 17 rfl rfl rfl (by kernel_rfl) (Zx) (Zn rfl rfl rfl) rfl ?_
           refine Zbq 18 rfl rfl rfl (by kernel_rfl) (Zx) (Zap rfl rfl) rfl ?_
           refine ra_case 109 rfl (fun hg17_18 => ?_) (fun hg17_18 => ?_)
           ·
            refine Zay 19 rfl rfl rfl rfl (by kernel_rfl) (Zx) rfl (Zay 20 rfl rfl rfl rfl (by kernel_rfl) (Zx) rfl (Zay 21 rfl rfl rfl rfl (by kernel_rfl) (Zx) rfl ?_))
            refine Zbq 22 rfl rfl rfl (by kernel_rfl) (Zx) (Zl rfl rfl rfl) rfl ?_
            refine Zal 23 rfl (by kernel_rfl) (Zx) (Zl rfl rfl rfl) rfl ?_
            refine Zal 24 rfl (by kernel_rfl) (Zx) (Zap rfl rfl) rfl (Zbq 25 rfl rfl rfl (by kernel_rfl) (Zx) (Zap rfl rfl) rfl (Zbq 26 rfl rfl rfl (by kernel_rfl) (Zx) (Zap rfl rfl) rfl ?_))
            refine Zbq 27 rfl rfl rfl (by kernel_rfl) (Zx) (Zav rfl rfl rfl (Zs (by omega))) rfl ?_
            refine Zbq 28 rfl rfl rfl (by kernel_rfl) (Zx) (Zai rfl Tryz.s35 rfl rfl (by assumption) (by first | rfl | omega) (by omega)) rfl ?_
            refine Zbq 29 rfl rfl rfl (by kernel_rfl) (Zx) (Zau rfl Tryz.f42' rfl (by decide) rfl) rfl ?_
            refine Zbq 30 rfl rfl rfl (by kernel_rfl) (Zx) (Zag rfl Tryz.k9 rfl (by assumption) (by omega) (by assumption) (vs := [_]) rfl rfl rfl rfl) rfl ?_
            refine Zbq 31 rfl rfl rfl (by kernel_rfl) (Zx) (Zh rfl Tryz.f50' rfl (by decide) rfl) rfl ?_
            refine Zbq 32 rfl rfl rfl (by kernel_rfl) (Zx) (Zi rfl Tryz.k9 rfl rfl rfl (vs := [_]) rfl rfl rfl) rfl ?_
            obtain ⟨n, hn⟩ := Option.isSome_iff_exists.1 hg17_1
            have hti : ti = [] := of_decide_eq_true hg17_9
            have hn2 : (findN t (numsOf d.blocks)).getD num0 = n := by rw [hn]; rfl
            have hk3 : n.kind = secS ∨ n.kind = figS ∨ n.kind = tabS := by
             rw [← hn2]
             first
             | exact .inl (of_decide_eq_true hg17_13)
             | exact .inr (.inl (of_decide_eq_true hg17_18))
             | exact .inr (.inr (of_decide_eq_true hg17_24))
            have hnt := num_text (bs := d.blocks) (lang := lang) hn hk3
            have hvl := (hns.2 n (List.mem_of_find?_eq_some hn)).2.2
            have hwl := wordOf_len lang n.kind
            refine Zbq 33 rfl rfl rfl (by kernel_rfl) (Zx) (Zcd (l := [32]) rfl rfl rfl (by rw [hn2]; simp only [List.length_cons, List.length_nil]; omega)) rfl ?_
            refine ra_do_on (i := 34) rfl rfl rfl (by kernel_rfl) ?_
            refine Zaa (caps := []) ⟨rfl, trivial⟩ rfl rfl Tryz.c19 rfl (FnP.mono (lawEnds_fn _ _ (by rw [hti, hnt, hn]; exact ⟨_, rfl⟩) (by rw [hti, hnt]; simp; omega) uF) ?_)
            rintro v u1 hle1 rfl
            refine Zbq 35 rfl rfl rfl (by kernel_rfl) (Zx) (Zbr rfl rfl) rfl ?_
            refine Zal 36 rfl (by kernel_rfl) (Zx) (Zl rfl rfl rfl) rfl ?_
            exact Zcu (by kernel_rfl) rfl ⟨rfl, rfl, rfl, rfl, rfl, trivial⟩ (rfl)
           ·
            refine Zbq 19 rfl rfl rfl (by kernel_rfl) (Zx) (Zh rfl Tryz.f50' rfl (by decide) rfl) rfl ?_
            refine Zbq 20 rfl rfl rfl (by kernel_rfl) (Zx) (Zi rfl Tryz.k9 rfl rfl rfl (vs := [_]) rfl rfl rfl) rfl ?_
            refine Zbq 21 rfl rfl rfl (by kernel_rfl) (Zx) (Zba rfl rfl rfl) rfl ?_
            refine Zbq 22 rfl rfl rfl (by kernel_rfl) (Zx) (Zn rfl rfl rfl) rfl ?_
            refine Zal 23 rfl (by kernel_rfl) (Zx) (Zl rfl rfl rfl) rfl ?_
            refine Zal 24 rfl (by kernel_rfl) (Zx) (Zap rfl rfl) rfl ?_
            refine ra_case 115 rfl (fun hg17_24 => ?_) (fun hg17_24 => ?_)
            ·
             refine Zbq 25 rfl rfl rfl (by kernel_rfl) (Zx) (Zap rfl rfl) rfl (Zbq 26 rfl rfl rfl (by kernel_rfl) (Zx) (Zap rfl rfl) rfl ?_)
             refine Zbq 27 rfl rfl rfl (by kernel_rfl) (Zx) (Zav rfl rfl rfl (Zs (by omega))) rfl ?_
             refine Zbq 28 rfl rfl rfl (by kernel_rfl) (Zx) (Zai rfl Tryz.s35 rfl rfl (by assumption) (by first | rfl | omega) (by omega)) rfl ?_
             refine Zbq 29 rfl rfl rfl (by kernel_rfl) (Zx) (Zau rfl Tryz.f42' rfl (by decide) rfl) rfl ?_
             refine Zbq 30 rfl rfl rfl (by kernel_rfl) (Zx) (Zag rfl Tryz.k9 rfl (by assumption) (by omega) (by assumption) (vs := [_]) rfl rfl rfl rfl) rfl ?_
             refine Zbq 31 rfl rfl rfl (by kernel_rfl) (Zx) (Zh rfl Tryz.f50' rfl (by decide) rfl) rfl ?_
             refine Zbq 32 rfl rfl rfl (by kernel_rfl) (Zx) (Zi rfl Tryz.k9 rfl rfl rfl (vs := [_]) rfl rfl rfl) rfl ?_
             obtain ⟨n, hn⟩ := Option.isSome_iff_exists.1 hg17_1
             have hti : ti = [] := of_decide_eq_true hg17_9
             have hn2 : (findN t (numsOf d.blocks)).getD num0 = n := by rw [hn]; rfl
             have hk3 : n.kind = secS ∨ n.kind = figS ∨ n.kind = tabS := by
              rw [← hn2]
              first
              | exact .inl (of_decide_eq_true hg17_13)
              | exact .inr (.inl (of_decide_eq_true hg17_18))
              | exact .inr (.inr (of_decide_eq_true hg17_24))
             have hnt := num_text (bs := d.blocks) (lang := lang) hn hk3
             have hvl := (hns.2 n (List.mem_of_find?_eq_some hn)).2.2
             have hwl := wordOf_len lang n.kind
             refine Zbq 33 rfl rfl rfl (by kernel_rfl) (Zx) (Zcd (l := [32]) rfl rfl rfl (by rw [hn2]; simp only [List.length_cons, List.length_nil]; omega)) rfl ?_
             refine ra_do_on (i := 34) rfl rfl rfl (by kernel_rfl) ?_
             refine Zaa (caps := []) ⟨rfl, trivial⟩ rfl rfl Tryz.c19 rfl (FnP.mono (lawEnds_fn _ _ (by rw [hti, hnt, hn]; exact ⟨_, rfl⟩) (by rw [hti, hnt]; simp; omega) uF) ?_)
             rintro v u1 hle1 rfl
             refine Zbq 35 rfl rfl rfl (by kernel_rfl) (Zx) (Zbr rfl rfl) rfl ?_
             refine Zal 36 rfl (by kernel_rfl) (Zx) (Zl rfl rfl rfl) rfl ?_
             exact Zcu (by kernel_rfl) rfl ⟨rfl, rfl, rfl, rfl, rfl, trivial⟩ (rfl)
            ·
             refine Zay 25 rfl rfl rfl rfl (by kernel_rfl) (Zx) rfl (Zay 26 rfl rfl rfl rfl (by kernel_rfl) (Zx) rfl (Zay 27 rfl rfl rfl rfl (by kernel_rfl) (Zx) rfl (Zay 28 rfl rfl rfl rfl (by kernel_rfl) (Zx) rfl (Zay 29 rfl rfl rfl rfl (by kernel_rfl) (Zx) rfl (Zay 30 rfl rfl rfl rfl (by kernel_rfl) (Zx) rfl (Zay 31 rfl rfl rfl rfl (by kernel_rfl) (Zx) rfl (Zay 32 rfl rfl rfl rfl (by kernel_rfl) (Zx) rfl ?_)))))))
             refine Zay 33 rfl rfl rfl rfl (by kernel_rfl) (Zx) rfl (Zay 34 rfl rfl rfl rfl (by kernel_rfl) (Zx) rfl (Zay 35 rfl rfl rfl rfl (by kernel_rfl) (Zx) rfl ?_))
             refine Zal 36 rfl (by kernel_rfl) (Zx) (Zn rfl rfl rfl) rfl ?_
             exact Zcu (by kernel_rfl) rfl ⟨rfl, rfl, rfl, rfl, rfl, trivial⟩ (rfl)
         ·
          refine Zay 10 rfl rfl rfl rfl (by kernel_rfl) (Zx) rfl (Zay 11 rfl rfl rfl rfl (by kernel_rfl) (Zx) rfl (Zay 12 rfl rfl rfl rfl (by kernel_rfl) (Zx) rfl (Zay 13 rfl rfl rfl rfl (by kernel_rfl) (Zx) rfl (rk_un 14 rfl rfl rfl (by kernel_rfl) (Zx) rfl (rk_un 15 rfl rfl rfl (by kernel_rfl) (Zx) rfl (rk_un 16 rfl rfl rfl (by kernel_rfl) (Zx) rfl (Zay 17 rfl rfl rfl rfl (by kernel_rfl) (Zx) rfl ?_)))))))
          refine Zay 18 rfl rfl rfl rfl (by kernel_rfl) (Zx) rfl (rk_un 19 rfl rfl rfl (by kernel_rfl) (Zx) rfl (rk_un 20 rfl rfl rfl (by kernel_rfl) (Zx) rfl (rk_un 21 rfl rfl rfl (by kernel_rfl) (Zx) rfl (Zay 22 rfl rfl rfl rfl (by kernel_rfl) (Zx) rfl ?_))))
          refine Zal 23 rfl (by kernel_rfl) (Zx) (Zn rfl rfl rfl) rfl ?_
          refine Zal 24 rfl (by kernel_rfl) (Zx) (Zap rfl rfl) rfl (Zay 25 rfl rfl rfl rfl (by kernel_rfl) (Zx) rfl (Zay 26 rfl rfl rfl rfl (by kernel_rfl) (Zx) rfl (Zay 27 rfl rfl rfl rfl (by kernel_rfl) (Zx) rfl (Zay 28 rfl rfl rfl rfl (by kernel_rfl) (Zx) rfl (Zay 29 rfl rfl rfl rfl (by kernel_rfl) (Zx) rfl (Zay 30 rfl rfl rfl rfl (by kernel_rfl) (Zx) rfl (Zay 31 rfl rfl rfl rfl (by kernel_rfl) (Zx) rfl ?_)))))))
          refine Zay 32 rfl rfl rfl rfl (by kernel_rfl) (Zx) rfl (Zay 33 rfl rfl rfl rfl (by kernel_rfl) (Zx) rfl (Zay 34 rfl rfl rfl rfl (by kernel_rfl) (Zx) rfl (Zay 35 rfl rfl rfl rfl (by kernel_rfl) (Zx) rfl ?_)))
          refine Zal 36 rfl (by kernel_rfl) (Zx) (Zn rfl rfl rfl) rfl ?_
          exact Zcu (by kernel_rfl) rfl ⟨rfl, rfl, rfl, rfl, rfl, trivial⟩ (rfl)
        ·
         refine Zay 2 rfl rfl rfl rfl (by kernel_rfl) (Zx) rfl (Zay 3 rfl rfl rfl rfl (by kernel_rfl) (Zx) rfl (Zay 4 rfl rfl rfl rfl (by kernel_rfl) (Zx) rfl (Zay 5 rfl rfl rfl rfl (by kernel_rfl) (Zx) rfl (Zay 6 rfl rfl rfl rfl (by kernel_rfl) (Zx) rfl (Zay 7 rfl rfl rfl rfl (by kernel_rfl) (Zx) rfl ?_)))))
         refine Zal 8 rfl (by kernel_rfl) (Zx) (Zn rfl rfl rfl) rfl ?_
         refine Zal 9 rfl (by kernel_rfl) (Zx) (Zap rfl rfl) rfl (Zay 10 rfl rfl rfl rfl (by kernel_rfl) (Zx) rfl (Zay 11 rfl rfl rfl rfl (by kernel_rfl) (Zx) rfl (Zay 12 rfl rfl rfl rfl (by kernel_rfl) (Zx) rfl (Zay 13 rfl rfl rfl rfl (by kernel_rfl) (Zx) rfl (rk_un 14 rfl rfl rfl (by kernel_rfl) (Zx) rfl (rk_un 15 rfl rfl rfl (by kernel_rfl) (Zx) rfl (rk_un 16 rfl rfl rfl (by kernel_rfl) (Zx) rfl ?_)))))))
         refine Zay 17 rfl rfl rfl rfl (by kernel_rfl) (Zx) rfl (Zay 18 rfl rfl rfl rfl (by kernel_rfl) (Zx) rfl (rk_un 19 rfl rfl rfl (by kernel_rfl) (Zx) rfl (rk_un 20 rfl rfl rfl (by kernel_rfl) (Zx) rfl (rk_un 21 rfl rfl rfl (by kernel_rfl) (Zx) rfl (Zay 22 rfl rfl rfl rfl (by kernel_rfl) (Zx) rfl ?_)))))
         refine Zal 23 rfl (by kernel_rfl) (Zx) (Zn rfl rfl rfl) rfl ?_
         refine Zal 24 rfl (by kernel_rfl) (Zx) (Zap rfl rfl) rfl (Zay 25 rfl rfl rfl rfl (by kernel_rfl) (Zx) rfl (Zay 26 rfl rfl rfl rfl (by kernel_rfl) (Zx) rfl (Zay 27 rfl rfl rfl rfl (by kernel_rfl) (Zx) rfl (Zay 28 rfl rfl rfl rfl (by kernel_rfl) (Zx) rfl (Zay 29 rfl rfl rfl rfl (by kernel_rfl) (Zx) rfl (Zay 30 rfl rfl rfl rfl (by kernel_rfl) (Zx) rfl (Zay 31 rfl rfl rfl rfl (by kernel_rfl) (Zx) rfl ?_)))))))
         refine Zay 32 rfl rfl rfl rfl (by kernel_rfl) (Zx) rfl (Zay 33 rfl rfl rfl rfl (by kernel_rfl) (Zx) rfl (Zay 34 rfl rfl rfl rfl (by kernel_rfl) (Zx) rfl (Zay 35 rfl rfl rfl rfl (by kernel_rfl) (Zx) rfl ?_)))
         refine Zal 36 rfl (by kernel_rfl) (Zx) (Zn rfl rfl rfl) rfl ?_
         exact Zcu (by kernel_rfl) rfl ⟨rfl, rfl, rfl, rfl, rfl, trivial⟩ (rfl)
       refine Zc (Zce rfl (rfl) (Zr (Zc (Za (ym rfl rfl (Zg (Zav rfl rfl rfl (Zs (by omega))) rfl ?_))))))
       refine ya rfl rfl (Zf (ρ' := [(7, _), (8, _), (9, _), (10, _), (11, _)]) ⟨rfl, rfl, rfl, rfl, rfl, trivial⟩ ?_)
       refine Zah (Zc (Za (ym rfl rfl (Zg (Zav rfl rfl rfl (Zs (by omega))) rfl ?_))))
       refine ya rfl rfl (Zf (ρ' := [(7, _), (8, _), (9, _), (10, _), (11, _)]) ⟨rfl, rfl, rfl, rfl, rfl, trivial⟩ ?_)
       refine Zab ?_
       refine ⟨m - 1, [(7, _), (8, _), (9, _), (10, _), (11, _)], [], by omega, ⟨rfl, rfl, rfl, rfl, rfl, trivial⟩, trivial, i + 1, by omega, (by first | exact hle10.trans hleF | exact hle10), kk2, rfl, (by first | rfl | (simp only [List.cons.injEq, Prod.mk.injEq, SV.v.injEq, Value.int.injEq, true_and, and_true]; omega) | (subst hkk2; rfl)), ?_⟩
       omega
     ·
      have hge := of_decide_eq_false hb10
      rw [List.take_of_length_le (by omega), ← hinX] at hkk
      have hdd : decide ((kk : Int) = ((inls (listB X)).length : Int)) = true := decide_eq_true (by omega)
      refine Zax ?_
      refine Zq (Zq ?_)
      refine Zaf ?_
      refine Zc (Zd (Za (ym rfl rfl (ym rfl rfl (Zg (Zaq rfl rfl Tryz.s35 rfl) rfl (Zg (Zaw rfl rfl rfl) rfl ?_))))))
      rw [hdd]
      refine ym rfl rfl (Zk rfl rfl (Zv rfl rfl ?_))
      refine Zaa (caps := []) trivial rfl rfl Tryz.c8 rfl (FnP.mono (lawawake_fn u' (hTN.mono hle10)) ?_)
      rintro v u1 hle1 rfl
      refine Zg (Zl rfl rfl rfl) rfl (ya rfl rfl (Zf (ρ' := [(4, _)]) ⟨rfl, trivial⟩ ?_))
      refine Zc (Zw (Zbe (.tmp rfl) ?_))
      rfl
def docT : DocTys Tryz.prog where
 int := 3
 bool := 4
 s := 9
 ss := 37
 pair := 56
 pairs := 22
 cite := 124
 cites := 40
 attr := 39
 inl := 42
 inls := 35
 blk := 59
 blks := 23
 hint := by kernel_rfl
 hbool := by kernel_rfl
 hs := by kernel_rfl
 hss := by kernel_rfl
 hpairs := by kernel_rfl
 hcites := by kernel_rfl
 hinls := by kernel_rfl
 hblks := by kernel_rfl
 hpair := ⟨Tryz.prog.fieldsOf 56, by kernel_rfl, by kernel_rfl⟩
 hcite := ⟨Tryz.prog.fieldsOf 124, by kernel_rfl, by kernel_rfl⟩
 hattr := ⟨Tryz.prog.fieldsOf 39, by kernel_rfl, by kernel_rfl⟩
 hinl := ⟨Tryz.prog.fieldsOf 42, by kernel_rfl, by kernel_rfl⟩
 hblk := ⟨Tryz.prog.fieldsOf 59, by kernel_rfl, by kernel_rfl⟩
 cint := by kernel_rfl
 cbool := by kernel_rfl
 cs := by kernel_rfl
 css := by kernel_rfl
 cpairs := by kernel_rfl
 ccites := by kernel_rfl
 cinls := by kernel_rfl
 cblks := by kernel_rfl
 cpair := by kernel_rfl
 ccite := by kernel_rfl
 cattr := by kernel_rfl
 cinl := by kernel_rfl
 cblk := by kernel_rfl
 ys := of_decide_eq_true (by kernel_rfl)
 ypair := of_decide_eq_true (by kernel_rfl)
 ycite := of_decide_eq_true (by kernel_rfl)
 yinl := of_decide_eq_true (by kernel_rfl)
 yblk := of_decide_eq_true (by kernel_rfl)
theorem docFl : FldsAre Tryz.prog 25 [(0, docT.pairs), (1, docT.blks)] := ⟨Tryz.prog.fieldsOf 25, by kernel_rfl, by kernel_rfl⟩
end Go.Proofs.Ythkgcakpjknlbaa
namespace Go.Eng
open Go Go.RowKit
open Go.ChangeShapes Go.WideShapes
set_option linter.unusedSimpArgs false
set_option linter.unusedVariables false
theorem laidMet_tail {P : Program} {x : String × DataW Unit} {r : List (String × DataW Unit)} {W : World} (h : laidMet P (x :: r) W) : laidMet P r W := by
 obtain ⟨ps, ⟨g, t, cs, fuel, p, q, _, _, _, _, hq, rfl⟩, hnd, hc⟩ := h
 exact ⟨q, hq, (List.nodup_append.1 hnd).2.1, fun b off hm => hc b off (List.mem_append_right _ hm)⟩
theorem wok_of {H : Type} {P : Program} {ts : List TypeId} {ds : List (DataW H)} (h : (DataW.weightsEach P ts ds).all (· ≤ reachBytes) = true) (i : Nat) {t : TypeId} {d : DataW H} (ht : ts[i]? = some t) (hd : ds[i]? = some d) : WOk P t d := by
 intro n hn
 have := List.all_eq_true.1 h n (weightsEach_mem ht hd hn)
 have h2 := of_decide_eq_true this
 unfold reachBytes at h2
 omega
def litCell : DataW Unit → Value
 | .lit (.int k n) => .int k n
 | _ => undef
def datCells : DataW Unit → Array Value
 | .agg l => (l.flatMap fun d => match d with
  | .agg m => m.map litCell
  | x => [litCell x]).toArray
 | _ => #[]
section
variable {H : Type} {enc : TypeId × Value → H} {P : Program} {w : World} {base b0 : Nat} {spare : Nat → Bool} {held : Bool} {r : Reach}
theorem open_docV (T : DocTys P) {t : TypeId} {v : Value} {d : DataW H} {ps : List MemPlace} (ht : FldsAre P t [(0, T.pairs), (1, T.blks)]) (hc : P.cellsOf t = 2) (hw : WOk P t d) (hval : Value.okWide P w r b0 t v) (hd : DataW.Trod enc P w base spare held t v d ps) :
  ∃ (d : DDoc) (vm vb : Value), v = .agg #[vm, vb] ∧ PrS (wview w) vm d.mts ∧ BlkS (wview w) vb d.blocks ∧ DocOk d := by
 obtain ⟨fs, hu, _⟩ := id ht
 unfold Value.okWide at hval
 rw [hu] at hval
 obtain ⟨cs, rfl, hsz, _⟩ := hval
 obtain ⟨fuel, hf⟩ := hd
 obtain ⟨d, vm, vb, h1, h2⟩ := open_doc T ht hc hw hf
 refine ⟨d, vm, vb, ?_, h2⟩
 have h3 : cs.toList = [vm, vb] := h1
 have : cs = #[vm, vb] := by
  cases cs
  simpa using h3
 rw [this]
theorem open_str {t : TypeId} {v : Value} {d : DataW H} {ps : List MemPlace} (ht : P.underlying t = some .string) (hval : Value.okWide P w r b0 t v) (hd : DataW.Trod enc P w base spare held t v d ps) :
  ∃ l : List UInt8, v = str l ∧ l.length ≤ maxLen := by
 obtain ⟨s, rfl, _, _, hs⟩ := Go.ChangeMaps.open_string ht hval hd
 refine ⟨s.data.toList, ?_, (show s.data.toList.length = s.size from Array.length_toList) ▸ hs⟩
 cases s
 rfl
end
end Go.Eng
namespace Go.Proofs.Ythkgcakpjknlbaa
open Go Go.Eng
theorem tabU_of {W : World} (h : Lib.TabIs Tryz.prog W "internal/strconv.uint64pow10" .u64 Lib.pow10Tab) : TabU (wview W) := by
 unfold Lib.TabIs World.var? at h
 rw [gTab] at h
 unfold TabU wview
 cases hg : W.heap[0]? with
 | none => simp [hg] at h
 | some o =>
  cases o with
  | cells c T fr =>
   simp [hg] at h
   exact ⟨T, fr, by rw [h]⟩
  | _ => simp [hg] at h
end Go.Proofs.Ythkgcakpjknlbaa
