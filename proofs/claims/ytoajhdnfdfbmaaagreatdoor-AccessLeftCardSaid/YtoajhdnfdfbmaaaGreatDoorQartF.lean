/- Texts for a law, part 6: they walk the functions that the law reaches, and state what holds of them; without conditions beyond each theorem's own. -/
import Derived.Test.YtoajhdnfdfbmaaaGreatDoorQartE
namespace Go.Proofs.Ytoajhdnfdfbmaaa
open Go Go.Eng
set_option linter.unusedSimpArgs false
set_option linter.unusedVariables false
set_option maxRecDepth 4000
def AttrSm (a : DAttr) : Prop := longN a ≤ 9000 ∧ a.classes.length ≤ 40 ∧ a.pairs.length ≤ 40
theorem le_sumC : ∀ {l : List Nat} {x : Nat}, x ∈ l → x ≤ l.sum
 | [], x, h => by simp at h
 | y :: l, x, h => by
  rw [List.sum_cons]
  rcases List.mem_cons.1 h with rfl | h
  ·
   omega
  ·
   have := le_sumC h; omega
theorem AttrSm.id {a : DAttr} (h : AttrSm a) : a.id.length ≤ 9000 := by have := h.1; unfold longN at this; omega
theorem AttrSm.cls {a : DAttr} (h : AttrSm a) {c : Bs} (hc : c ∈ a.classes) : c.length ≤ 9000 := by
 have h1 := h.1
 unfold longN at h1
 have : c.length ≤ (a.classes.map List.length).sum := le_sumC (List.mem_map.2 ⟨c, hc, rfl⟩)
 omega
theorem AttrSm.prs {a : DAttr} (h : AttrSm a) {p : Bs × Bs} (hp : p ∈ a.pairs) : p.1.length + p.2.length ≤ 9000 := by
 have h1 := h.1
 unfold longN at h1
 have : p.1.length + p.2.length ≤ (a.pairs.map fun p => p.1.length + p.2.length).sum := le_sumC (List.mem_map.2 ⟨p, hp, rfl⟩)
 omega
theorem strS_take {u : View} {ad : Option Addr} {cap : Nat} {xs : List Bs} (h : SlC u ad xs.length cap 1 (strsC xs)) {i : Nat} (hi : i ≤ xs.length) : StrS u (.slice (if cap = 0 then ad else ad.map (·.add (0 * 1))) i cap) (xs.take i) := by
 have h2 := h.uptoK (i := i) hi
 refine ⟨_, _, by rw [List.length_take, Nat.min_eq_left hi], ?_⟩
 rw [List.length_take, Nat.min_eq_left hi]
 simpa [strsC, List.map_take] using h2
theorem pairsC_take : ∀ (ps : List (Bs × Bs)) (i : Nat), (pairsC ps).take (i * 2) = pairsC (ps.take i)
 | [], i => by simp [pairsC]
 | p :: ps, 0 => by simp [pairsC]
 | p :: ps, i + 1 => by
  have ih := pairsC_take ps i
  have e : pairsC (p :: ps) = str p.1 :: str p.2 :: pairsC ps := rfl
  rw [e, show (i + 1) * 2 = i * 2 + 1 + 1 by omega, List.take_succ_cons, List.take_succ_cons, ih, List.take_succ_cons]
  rfl
theorem prS_take {u : View} {ad : Option Addr} {cap : Nat} {xs : List (Bs × Bs)} (h : SlC u ad xs.length cap 2 (pairsC xs)) {i : Nat} (hi : i ≤ xs.length) : PrS u (.slice (if cap = 0 then ad else ad.map (·.add (0 * 2))) i cap) (xs.take i) := by
 have h2 := h.uptoK (i := i) hi
 refine ⟨_, _, by rw [List.length_take, Nat.min_eq_left hi], ?_⟩
 rw [List.length_take, Nat.min_eq_left hi]
 rw [pairsC_take] at h2
 exact h2
theorem attrCheck_fn (a : DAttr) (vc vp : Value) (ha : AttrSm a) (u : View) (h1 : StrS u vc a.classes) (h2 : PrS u vp a.pairs) : FnP Tryz.prog 116 [.agg #[str a.id, vc, vp]] u fun r _ => ∃ e, r = .int .i64 e := by
 obtain ⟨ad, cap, rfl, h1⟩ := h1
 obtain ⟨ad2, cap2, rfl, h2⟩ := h2
 have hid := ha.id
 have hcl := ha.2.1
 have hpl := ha.2.2
 have hcap := h1.2.1
 have hcap2 := h2.2.1
 refine FnP.intro [.tmp 2] Tryz.func116 rfl rfl rfl ?_
 intro w0 D hw0
 refine Zc (Za (Zq rfl rfl ?_))
 refine Zbl trivial rfl (cs := [_, _, _]) rfl rfl rfl rfl ?_
 refine ya rfl rfl (Zd (ρ' := [(1, _)]) ⟨rfl, trivial⟩ ?_)
 refine Zb (Zc (Zc (Za ?_)))
 refine Zbc 9 13 (fun _ => True) (ρk := [(1, _)]) ⟨rfl, trivial⟩ ?_ fun mb1_8 hm1_8 => ?_
 ·
  refine Zf (Zi rfl Tryz.f36' rfl (by decide) rfl) rfl ?_
  refine Zf (Zj rfl Tryz.k9 rfl rfl rfl (vs := [_]) rfl rfl rfl) rfl ?_
  refine Zf (Zbk rfl rfl rfl) rfl ?_
  refine ym rfl rfl ?_
  refine Zad 8 rfl (fun hg1_3 => ?_) (fun hg1_3 => ?_)
  ·
   refine Zk rfl rfl (Zf (Zi rfl Tryz.f36' rfl (by decide) rfl) rfl ?_)
   refine Zk rfl rfl (Zf (Zj rfl Tryz.k9 rfl rfl rfl (vs := [_]) rfl rfl rfl) rfl ?_)
   refine Zk rfl rfl (Zq rfl rfl ?_)
   refine Zw (caps := []) trivial rfl rfl Tryz.c28 rfl (FnP.mono (name_fn a.id (by omega) u) ?_)
   rintro v u1 hle1 ⟨b, rfl, _⟩
   refine Zk rfl rfl (Zf (Zbs rfl rfl) rfl ?_)
   refine Zf (Zl rfl rfl rfl) rfl ?_
   exact Zx rfl ⟨rfl, trivial⟩ (trivial)
  ·
   iterate 4 refine Zo rfl rfl rfl rfl ?_
   refine Zf (Zm rfl rfl rfl) rfl ?_
   exact Zx rfl ⟨rfl, trivial⟩ (trivial)
 refine Zd (ρ' := [(1, _), (13, _)]) ⟨rfl, rfl, trivial⟩ ?_
 refine Zb ?_
 refine Zn rfl (fun hb1 => ?_) (fun hb1 => ?_)
 ·
  refine Zc (Za (ya rfl rfl (Zd (ρ' := [(2, _)]) ⟨rfl, trivial⟩ ?_)))
  refine Zb (Zv (Zh ?_))
  refine Zav (.tmp rfl) ?_
  exact ⟨_, rfl⟩
 ·
  refine Zs (Zb (Zc (Zc (Za (ya rfl rfl (Zd (ρ' := [(1, _), (3, _)]) ⟨rfl, rfl, trivial⟩ ?_))))))
  refine Zb (Zaa ?_)
  refine Zau (fun m ρ σ u' => ∃ i : Nat, i + m = a.classes.length ∧ VLe u u' ∧ σ = [(1, (none, .box [str a.id, .slice ad a.classes.length cap, .slice ad2 a.pairs.length cap2]))] ∧ ρ = [(1, .p 1 0), (3, .v (.int .i64 i))] ∧ (u = u')) (a.classes.length) ?_ ?_
  ·
   refine ⟨[(1, _), (3, _)], [(1, _)], ⟨rfl, rfl, trivial⟩, ⟨rfl, trivial⟩, 0, by omega, VLe.refl _, (by first | rfl | simp), (by first | rfl | (simp only [List.cons.injEq, Prod.mk.injEq, SV.v.injEq, Value.int.injEq, true_and, and_true]; omega) | simp), ?_⟩
   rfl
  ·
   rintro m ρ σ u' ⟨i, hi4, hle4, rfl, rfl, rfl⟩
   refine Zc (Zc (Za (ym rfl rfl (Zf (Zi rfl Tryz.f36' rfl (by decide) rfl) rfl ?_))))
   refine Zf (Zj rfl Tryz.k34 rfl rfl rfl (vs := [_]) rfl rfl rfl) rfl ?_
   refine Zf (Zal rfl rfl Tryz.s34 rfl) rfl ?_
   refine Zf (Zbh rfl rfl rfl) rfl ?_
   refine Zd (ρ' := [(1, _), (3, _), (18, _)]) ⟨rfl, rfl, rfl, trivial⟩ ?_
   refine Zb ?_
   refine Zn rfl (fun hb4 => ?_) (fun hb4 => ?_)
   ·
    have hlt : i < a.classes.length := by have := of_decide_eq_true hb4; omega
    have hcc := cut_strsC (List.getElem?_eq_getElem hlt)
    have hl := ha.cls (List.getElem_mem hlt)
    refine Zs (Zb (Zc (Zaa (Zc (Zc (Za (Zf (Zi rfl Tryz.f36' rfl (by decide) rfl) rfl ?_)))))))
    refine Zf (Zj rfl Tryz.k34 rfl rfl rfl (vs := [_]) rfl rfl rfl) rfl ?_
    refine ym rfl rfl (Zf (Zai rfl Tryz.s34 rfl rfl (by assumption) (by first | rfl | omega) (by omega)) rfl ?_)
    refine Zf (Zag rfl Tryz.k9 rfl (by assumption) (by omega) (by assumption) (vs := [_]) rfl rfl rfl rfl) rfl ?_
    refine Zq rfl rfl ?_
    refine Zw (caps := []) trivial rfl rfl Tryz.c28 rfl (FnP.mono (name_fn _ (by omega) u) ?_)
    rintro v u1 hle1 ⟨b, rfl, _⟩
    refine Zf (Zbs rfl rfl) rfl ?_
    refine Zd (ρ' := [(1, _), (3, _), (27, _)]) ⟨rfl, rfl, rfl, trivial⟩ ?_
    refine Zb ?_
    refine Zn rfl (fun hb6 => ?_) (fun hb6 => ?_)
    ·
     refine Zc (Za (ya rfl rfl (Zd (ρ' := [(2, _)]) ⟨rfl, trivial⟩ ?_)))
     refine Zb (Zv (Zh (Zr (Zh (Zh (Zr (Zh ?_)))))))
     refine Zav (.tmp rfl) ?_
     exact ⟨_, rfl⟩
    ·
     refine Zs (Zb (Zc ?_))
     refine Zbu Tryz.mixed rfl [(1, _)] ⟨rfl, trivial⟩ ?_
     refine ra_y (i := 0) rfl (by kernel_rfl) (by kernel_rfl) (by kernel_rfl) (Ze (Zg (Ze (Ze (Zg (Ze (Zam))))))) (Zi rfl Tryz.f36' rfl (by decide) rfl) rfl ?_
     refine ra_y (i := 1) rfl (by kernel_rfl) (by kernel_rfl) (by kernel_rfl) (Ze (Zg (Ze (Ze (Zg (Ze (Zam))))))) (Zj rfl Tryz.k34 rfl rfl rfl (vs := [_]) rfl rfl rfl) rfl ?_
     refine ra_y (i := 2) rfl (by kernel_rfl) (by kernel_rfl) (by kernel_rfl) (Ze (Zg (Ze (Ze (Zg (Ze (Zam))))))) (Zbj rfl rfl) rfl ?_
     refine ra_y (i := 3) rfl (by kernel_rfl) (by kernel_rfl) (by kernel_rfl) (Ze (Zg (Ze (Ze (Zg (Ze (Zam))))))) (y_slice_hiK rfl Tryz.s34 rfl rfl (i := i) rfl (by omega)) rfl ?_
     refine ra_y (i := 4) rfl (by kernel_rfl) (by kernel_rfl) (by kernel_rfl) (Ze (Zg (Ze (Ze (Zg (Ze (Zam))))))) (Zi rfl Tryz.f36' rfl (by decide) rfl) rfl ?_
     refine ra_y (i := 5) rfl (by kernel_rfl) (by kernel_rfl) (by kernel_rfl) (Ze (Zg (Ze (Ze (Zg (Ze (Zam))))))) (Zj rfl Tryz.k34 rfl rfl rfl (vs := [_]) rfl rfl rfl) rfl ?_
     refine ra_y (i := 6) rfl (by kernel_rfl) (by kernel_rfl) (by kernel_rfl) (Ze (Zg (Ze (Ze (Zg (Ze (Zam))))))) (Zbj rfl rfl) rfl ?_
     refine ra_y (i := 7) rfl (by kernel_rfl) (by kernel_rfl) (by kernel_rfl) (Ze (Zg (Ze (Ze (Zg (Ze (Zam))))))) (Zai rfl Tryz.s34 rfl rfl (by assumption) (by first | rfl | omega) (by omega)) rfl ?_
     refine ra_y (i := 8) rfl (by kernel_rfl) (by kernel_rfl) (by kernel_rfl) (Ze (Zg (Ze (Ze (Zg (Ze (Zam))))))) (Zag rfl Tryz.k9 rfl (by assumption) (by omega) (by assumption) (vs := [_]) rfl rfl rfl rfl) rfl ?_
     refine ra_do (i := 9) rfl rfl (by kernel_rfl) ?_
     refine Zw (caps := []) ⟨rfl, trivial⟩ rfl rfl Tryz.c132 rfl (FnP.mono (hasText_fn _ (a.classes.take i) _ (by rw [List.length_take]; omega) u (strS_take h1 (by omega))) ?_)
     rintro v u1 hle1 ⟨b, rfl⟩
     refine ra_end (by kernel_rfl) (ρ' := [(1, _), (3, _), (37, _)]) ⟨rfl, rfl, rfl, trivial⟩ ?_
     refine Zb ?_
     refine Zn rfl (fun hb8 => ?_) (fun hb8 => ?_)
     ·
      refine Zc (Za (ya rfl rfl (Zd (ρ' := [(2, _)]) ⟨rfl, trivial⟩ ?_)))
      refine Zb (Zv (Zr (Zh (Zh (Zr (Zh ?_))))))
      refine Zav (.tmp rfl) ?_
      exact ⟨_, rfl⟩
     ·
      refine Zs (Zaf (Zb (Za (ym rfl rfl (Zf (Zas rfl rfl rfl (Zu (by omega))) rfl ?_)))))
      refine ya rfl rfl (Zd (ρ' := [(1, _), (3, _)]) ⟨rfl, rfl, trivial⟩ ?_)
      refine Zae ?_
      refine ⟨m - 1, [(1, _), (3, _)], [(1, _)], by omega, ⟨rfl, rfl, trivial⟩, ⟨rfl, trivial⟩, i + 1, by omega, hle4, (by first | rfl | simp), (by first | rfl | (simp only [List.cons.injEq, Prod.mk.injEq, SV.v.injEq, Value.int.injEq, true_and, and_true]; omega) | simp), ?_⟩
      rfl
   ·
    skip
    refine Zat ?_
    refine Zp (Zp ?_)
    refine Zah ?_
    refine Zb (Zc (Zc (Za (ya rfl rfl (Zd (ρ' := [(1, _), (4, _)]) ⟨rfl, rfl, trivial⟩ ?_)))))
    refine Zb (Zaa ?_)
    refine Zau (fun m ρ σ u' => ∃ j : Nat, j + m = a.pairs.length ∧ VLe u u' ∧ σ = [(1, (none, .box [str a.id, .slice ad a.classes.length cap, .slice ad2 a.pairs.length cap2]))] ∧ ρ = [(1, .p 1 0), (4, .v (.int .i64 j))] ∧ (u = u')) (a.pairs.length) ?_ ?_
    ·
     refine ⟨[(1, _), (4, _)], [(1, _)], ⟨rfl, rfl, trivial⟩, ⟨rfl, trivial⟩, 0, by omega, VLe.refl _, (by first | rfl | simp), (by first | rfl | (simp only [List.cons.injEq, Prod.mk.injEq, SV.v.injEq, Value.int.injEq, true_and, and_true]; omega) | simp), ?_⟩
     rfl
    ·
     rintro mj ρ σ u' ⟨j, hi11, hle11, rfl, rfl, rfl⟩
     refine Zc (Zc (Za (ym rfl rfl (Zf (Zi rfl Tryz.f36' rfl (by decide) rfl) rfl ?_))))
     refine Zf (Zj rfl Tryz.k22 rfl rfl rfl (vs := [_]) rfl rfl rfl) rfl ?_
     refine Zf (Zal rfl rfl Tryz.s22 rfl) rfl ?_
     refine Zf (Zbh rfl rfl rfl) rfl ?_
     refine Zd (ρ' := [(1, _), (4, _), (42, _)]) ⟨rfl, rfl, rfl, trivial⟩ ?_
     refine Zb ?_
     refine Zn rfl (fun hb11 => ?_) (fun hb11 => ?_)
     ·
      have hlt2 : j < a.pairs.length := by have := of_decide_eq_true hb11; omega
      have hcc2 := cut_pairsC (List.getElem?_eq_getElem hlt2)
      have hl2 := ha.prs (List.getElem_mem hlt2)
      refine Zs (Zb (Zc (Zaa (Zc (Zc (Za (Zf (Zi rfl Tryz.f36' rfl (by decide) rfl) rfl ?_)))))))
      refine Zf (Zj rfl Tryz.k22 rfl rfl rfl (vs := [_]) rfl rfl rfl) rfl ?_
      refine ym rfl rfl (Zf (Zai rfl Tryz.s22 rfl rfl (by assumption) (by first | rfl | omega) (by omega)) rfl ?_)
      refine Zf (Zap rfl Tryz.f49' rfl (by decide) rfl) rfl ?_
      refine Zf (Zag rfl Tryz.k9 rfl (by assumption) (by omega) (by assumption) (vs := [_]) rfl rfl rfl rfl) rfl ?_
      refine Zq rfl rfl ?_
      refine Zw (caps := []) trivial rfl rfl Tryz.c28 rfl (FnP.mono (name_fn _ (by omega) u) ?_)
      rintro v u1 hle1 ⟨b, rfl, _⟩
      refine Zf (Zbs rfl rfl) rfl ?_
      refine Zd (ρ' := [(1, _), (4, _), (52, _)]) ⟨rfl, rfl, rfl, trivial⟩ ?_
      refine Zb ?_
      refine Zn rfl (fun hb13 => ?_) (fun hb13 => ?_)
      ·
       refine Zc (Za (ya rfl rfl (Zd (ρ' := [(2, _)]) ⟨rfl, trivial⟩ ?_)))
       refine Zb (Zv (Zh (Zr (Zh (Zh (Zr (Zh ?_)))))))
       refine Zav (.tmp rfl) ?_
       exact ⟨_, rfl⟩
      ·
       refine Zs (Zb (Zc (Zc (Za (Zf (Zi rfl Tryz.f36' rfl (by decide) rfl) rfl ?_)))))
       refine Zf (Zj rfl Tryz.k22 rfl rfl rfl (vs := [_]) rfl rfl rfl) rfl ?_
       refine ym rfl rfl (Zf (Zai rfl Tryz.s22 rfl rfl (by assumption) (by first | rfl | omega) (by omega)) rfl ?_)
       refine Zf (Zap rfl Tryz.f49' rfl (by decide) rfl) rfl ?_
       refine Zf (Zag rfl Tryz.k9 rfl (by assumption) (by omega) (by assumption) (vs := [_]) rfl rfl rfl rfl) rfl ?_
       refine Zq rfl rfl ?_
       refine Zw (caps := []) trivial rfl rfl Tryz.c133 rfl (FnP.mono (line3_fn _ (by omega) u) ?_)
       rintro v u1 hle1 ⟨b, rfl⟩
       refine Zf (Zbs rfl rfl) rfl ?_
       refine Zd (ρ' := [(1, _), (4, _), (60, _)]) ⟨rfl, rfl, rfl, trivial⟩ ?_
       refine Zb ?_
       refine Zn rfl (fun hb15 => ?_) (fun hb15 => ?_)
       ·
        refine Zc (Za (ya rfl rfl (Zd (ρ' := [(2, _)]) ⟨rfl, trivial⟩ ?_)))
        refine Zb (Zv (Zh (Zr (Zh (Zh (Zr (Zh ?_)))))))
        refine Zav (.tmp rfl) ?_
        exact ⟨_, rfl⟩
       ·
        refine Zs (Zb (Zc ?_))
        refine Zbu Tryz.mixed rfl [(1, _)] ⟨rfl, trivial⟩ ?_
        refine ra_y (i := 0) rfl (by kernel_rfl) (by kernel_rfl) (by kernel_rfl) (Ze (Zg (Ze (Ze (Zg (Ze (Zam))))))) (Zi rfl Tryz.f36' rfl (by decide) rfl) rfl ?_
        refine ra_y (i := 1) rfl (by kernel_rfl) (by kernel_rfl) (by kernel_rfl) (Ze (Zg (Ze (Ze (Zg (Ze (Zam))))))) (Zj rfl Tryz.k22 rfl rfl rfl (vs := [_]) rfl rfl rfl) rfl ?_
        refine ra_y (i := 2) rfl (by kernel_rfl) (by kernel_rfl) (by kernel_rfl) (Ze (Zg (Ze (Ze (Zg (Ze (Zam))))))) (Zbj rfl rfl) rfl ?_
        refine ra_y (i := 3) rfl (by kernel_rfl) (by kernel_rfl) (by kernel_rfl) (Ze (Zg (Ze (Ze (Zg (Ze (Zam))))))) (y_slice_hiK rfl Tryz.s22 rfl rfl (i := j) rfl (by omega)) rfl ?_
        refine ra_y (i := 4) rfl (by kernel_rfl) (by kernel_rfl) (by kernel_rfl) (Ze (Zg (Ze (Ze (Zg (Ze (Zam))))))) (Zi rfl Tryz.f36' rfl (by decide) rfl) rfl ?_
        refine ra_y (i := 5) rfl (by kernel_rfl) (by kernel_rfl) (by kernel_rfl) (Ze (Zg (Ze (Ze (Zg (Ze (Zam))))))) (Zj rfl Tryz.k22 rfl rfl rfl (vs := [_]) rfl rfl rfl) rfl ?_
        refine ra_y (i := 6) rfl (by kernel_rfl) (by kernel_rfl) (by kernel_rfl) (Ze (Zg (Ze (Ze (Zg (Ze (Zam))))))) (Zbj rfl rfl) rfl ?_
        refine ra_y (i := 7) rfl (by kernel_rfl) (by kernel_rfl) (by kernel_rfl) (Ze (Zg (Ze (Ze (Zg (Ze (Zam))))))) (Zai rfl Tryz.s22 rfl rfl (by assumption) (by first | rfl | omega) (by omega)) rfl ?_
        refine ra_y (i := 8) rfl (by kernel_rfl) (by kernel_rfl) (by kernel_rfl) (Ze (Zg (Ze (Ze (Zg (Ze (Zam))))))) (Zap rfl Tryz.f49' rfl (by decide) rfl) rfl ?_
        refine ra_y (i := 9) rfl (by kernel_rfl) (by kernel_rfl) (by kernel_rfl) (Ze (Zg (Ze (Ze (Zg (Ze (Zam))))))) (Zag rfl Tryz.k9 rfl (by assumption) (by omega) (by assumption) (vs := [_]) rfl rfl rfl rfl) rfl ?_
        refine ra_do (i := 10) rfl rfl (by kernel_rfl) ?_
        refine Zw (caps := []) ⟨rfl, trivial⟩ rfl rfl Tryz.c134 rfl (FnP.mono (hasKey_fn _ (a.pairs.take j) _ (by rw [List.length_take]; omega) u (prS_take h2 (by omega))) ?_)
        rintro v u1 hle1 ⟨b, rfl⟩
        refine ra_end (by kernel_rfl) (ρ' := [(1, _), (4, _), (71, _)]) ⟨rfl, rfl, rfl, trivial⟩ ?_
        refine Zb ?_
        refine Zn rfl (fun hb17 => ?_) (fun hb17 => ?_)
        ·
         refine Zc (Za (ya rfl rfl (Zd (ρ' := [(2, _)]) ⟨rfl, trivial⟩ ?_)))
         refine Zb (Zv (Zr (Zh (Zh (Zr (Zh ?_))))))
         refine Zav (.tmp rfl) ?_
         exact ⟨_, rfl⟩
        ·
         refine Zs (Zaf (Zb (Za (ym rfl rfl (Zf (Zas rfl rfl rfl (Zu (by omega))) rfl ?_)))))
         refine ya rfl rfl (Zd (ρ' := [(1, _), (4, _)]) ⟨rfl, rfl, trivial⟩ ?_)
         refine Zae ?_
         refine ⟨mj - 1, [(1, _), (4, _)], [(1, _)], by omega, ⟨rfl, rfl, trivial⟩, ⟨rfl, trivial⟩, j + 1, by omega, hle11, (by first | rfl | simp), (by first | rfl | (simp only [List.cons.injEq, Prod.mk.injEq, SV.v.injEq, Value.int.injEq, true_and, and_true]; omega) | simp), ?_⟩
         rfl
     ·
      skip
      refine Zat ?_
      refine Zp (Zp ?_)
      refine Zah ?_
      refine Zb (Zc (Zc (Za ?_)))
      refine Zbc 10 81 (fun _ => True) (ρk := []) trivial ?_ fun mb19_9 hm19_9 => ?_
      ·
       refine Zf (Zi rfl Tryz.f36' rfl (by decide) rfl) rfl ?_
       refine Zf (Zj rfl Tryz.k34 rfl rfl rfl (vs := [_]) rfl rfl rfl) rfl ?_
       refine Zf (Zal rfl rfl Tryz.s34 rfl) rfl ?_
       refine Zf (Zcd rfl rfl rfl) rfl ?_
       refine ym rfl rfl ?_
       refine Zad 76 rfl (fun hg19_4 => ?_) (fun hg19_4 => ?_)
       ·
        iterate 4 refine Zo rfl rfl rfl rfl ?_
        refine Zf (Zl rfl rfl rfl) rfl ?_
        exact Zx rfl trivial (trivial)
       ·
        refine Zk rfl rfl (Zf (Zi rfl Tryz.f36' rfl (by decide) rfl) rfl ?_)
        refine Zk rfl rfl (Zf (Zj rfl Tryz.k22 rfl rfl rfl (vs := [_]) rfl rfl rfl) rfl ?_)
        refine Zk rfl rfl (Zf (Zal rfl rfl Tryz.s22 rfl) rfl ?_)
        refine Zk rfl rfl (Zf (Zcd rfl rfl rfl) rfl ?_)
        refine Zf (Zm rfl rfl rfl) rfl ?_
        exact Zx rfl trivial (trivial)
      refine Zd (ρ' := [(81, _)]) ⟨rfl, trivial⟩ ?_
      refine Zb ?_
      refine Zn rfl (fun hb19 => ?_) (fun hb19 => ?_)
      ·
       refine Zc (Za (ya rfl rfl (Zd (ρ' := [(2, _)]) ⟨rfl, trivial⟩ ?_)))
       refine Zb (Zv (Zh ?_))
       refine Zav (.tmp rfl) ?_
       exact ⟨_, rfl⟩
      ·
       refine Zs (Zb (Zc (Za (ya rfl rfl (Zd (ρ' := [(2, _)]) ⟨rfl, trivial⟩ ?_)))))
       refine Zb (Zv ?_)
       refine Zav (.tmp rfl) ?_
       exact ⟨_, rfl⟩
theorem kvalue_fn (s : Bs) (i : Nat) (hi : i ≤ s.length) (hs : s.length ≤ 1000000) (u : View) : FnP Tryz.prog 169 [str s, .int .i64 i] u fun r _ => ∃ (v : Bs) (t : Nat) (b : Bool), r = .tuple #[str v, .int .i64 t, .bool b] ∧ t ≤ s.length := by
 refine FnP.intro [.tmp 4, .tmp 5, .tmp 6] Tryz.func169 rfl rfl rfl ?_
 intro w0 D hw0
 refine Zc (Za (ya rfl rfl (ya rfl rfl (ya rfl rfl (Zd (ρ' := [(0, _), (1, _)]) ⟨rfl, rfl, trivial⟩ ?_)))))
 refine Zb (Zc (Zc (Za ?_)))
 refine Zbc 10 18 (fun _ => True) (ρk := [(0, _), (1, _)]) ⟨rfl, rfl, trivial⟩ ?_ fun mb1_9 hm1_9 => ?_
 ·
  refine ym rfl rfl (ym rfl rfl (Zf (Zan rfl rfl Tryz.str9 rfl) rfl ?_))
  refine Zf (Zbw rfl rfl rfl) rfl ?_
  refine ym rfl rfl ?_
  refine Zad 13 rfl (fun hg1_4 => ?_) (fun hg1_4 => ?_)
  ·
   iterate 4 refine Zo rfl rfl rfl rfl ?_
   refine Zf (Zl rfl rfl rfl) rfl ?_
   exact Zx rfl ⟨rfl, rfl, trivial⟩ (trivial)
  ·
   refine Zk rfl rfl (ym rfl rfl ?_)
   have hlt : i < s.length := by have := of_decide_eq_false hg1_4; omega
   obtain ⟨c, hc, hc2⟩ := byte_at hlt
   refine Zk rfl rfl (ym rfl rfl (Zk rfl rfl (Zf (Zao rfl Tryz.str9 rfl rfl (j := i) rfl hc) rfl ?_)))
   refine Zk rfl rfl (Zf (Zcc rfl rfl rfl) rfl ?_)
   refine Zf (Zm rfl rfl rfl) rfl ?_
   exact Zx rfl ⟨rfl, rfl, trivial⟩ (trivial)
 refine Zd (ρ' := [(0, _), (1, _), (18, _)]) ⟨rfl, rfl, rfl, trivial⟩ ?_
 refine Zb ?_
 refine Zn rfl (fun hb1 => ?_) (fun hb1 => ?_)
 ·
  refine Zc (Za (ym rfl rfl (ym rfl rfl (Zq rfl rfl ?_))))
  refine Zw (caps := []) trivial rfl rfl Tryz.c67 rfl (FnP.mono (kword_fn s i hi (by omega) u) ?_)
  rintro v u1 hle1 ⟨t, rfl, ht1, ht2⟩
  refine ya rfl rfl (Zd (ρ' := [(0, _), (1, _), (7, _)]) ⟨rfl, rfl, rfl, trivial⟩ ?_)
  refine Zb (Zc (Zc (Za ?_)))
  refine Zbc 12 33 (fun _ => True) (ρk := [(0, _), (1, _), (7, _)]) ⟨rfl, rfl, rfl, trivial⟩ ?_ fun mb3_11 hm3_11 => ?_
  ·
   refine ym rfl rfl (ym rfl rfl (Zf (Zan rfl rfl Tryz.str9 rfl) rfl ?_))
   refine Zf (Zcd rfl rfl rfl) rfl ?_
   refine ym rfl rfl ?_
   refine Zad 26 rfl (fun hg3_4 => ?_) (fun hg3_4 => ?_)
   ·
    iterate 6 refine Zo rfl rfl rfl rfl ?_
    refine Zf (Zl rfl rfl rfl) rfl ?_
    exact Zx rfl ⟨rfl, rfl, rfl, trivial⟩ (trivial)
   ·
    refine Zk rfl rfl (ym rfl rfl (Zk rfl rfl (ym rfl rfl (Zk rfl rfl (ym rfl rfl (Zk rfl rfl (Zf (Zbt rfl Tryz.str9 rfl (i := i) (j := t) rfl rfl ht1 ht2) rfl ?_)))))))
    refine Zk rfl rfl (Zq rfl rfl ?_)
    refine Zw (caps := []) trivial rfl rfl Tryz.c28 rfl (FnP.mono (name_fn _ (by simp; omega) u) ?_)
    rintro v u1 hle1 ⟨b, rfl, _⟩
    refine Zk rfl rfl (Zf (Zbs rfl rfl) rfl ?_)
    refine Zf (Zm rfl rfl rfl) rfl ?_
    exact Zx rfl ⟨rfl, rfl, rfl, trivial⟩ (trivial)
  refine Zd (ρ' := [(0, _), (1, _), (7, _), (33, _)]) ⟨rfl, rfl, rfl, rfl, trivial⟩ ?_
  refine Zb ?_
  refine Zn rfl (fun hb3 => ?_) (fun hb3 => ?_)
  ·
   refine Zc (Za (ya rfl rfl (ya rfl rfl (ya rfl rfl (Zd (ρ' := [(4, _), (5, _), (6, _)]) ⟨rfl, rfl, rfl, trivial⟩ ?_)))))
   refine Zb (Zv (Zh (Zh ?_)))
   refine fin3 (.tmp rfl) (.tmp rfl) (.tmp rfl) ?_
   first | exact ⟨_, 0, _, rfl, Nat.zero_le _⟩ | exact ⟨_, t, _, rfl, ht2⟩ | exact ⟨_, i + 1 + j + 1, _, rfl, by have := hm15_8 hb15; omega⟩
  ·
   refine Zs (Zb (Zc (Za (ym rfl rfl (ym rfl rfl (ym rfl rfl (Zf (Zbt rfl Tryz.str9 rfl (i := i) (j := t) rfl rfl ht1 ht2) rfl ?_)))))))
   refine ym rfl rfl (ya rfl rfl (ya rfl rfl (ya rfl rfl (Zd (ρ' := [(4, _), (5, _), (6, _)]) ⟨rfl, rfl, rfl, trivial⟩ ?_))))
   refine Zb (Zv (Zh ?_))
   refine fin3 (.tmp rfl) (.tmp rfl) (.tmp rfl) ?_
   first | exact ⟨_, 0, _, rfl, Nat.zero_le _⟩ | exact ⟨_, t, _, rfl, ht2⟩ | exact ⟨_, i + 1 + j + 1, _, rfl, by have := hm15_8 hb15; omega⟩
 ·
  refine Zs (Zb (Zc (Za (ya rfl rfl (Zd (ρ' := [(0, _), (1, _), (8, _)]) ⟨rfl, rfl, rfl, trivial⟩ ?_)))))
  refine Zb (Zc (Za (ym rfl rfl (Zf (Zas rfl rfl rfl (Zu (by omega))) rfl ?_))))
  refine ya rfl rfl (Zd (ρ' := [(0, _), (1, _), (8, _)]) ⟨rfl, rfl, rfl, trivial⟩ ?_)
  refine Zb (Zc (Zaa ?_))
  refine Zau (fun m ρ σ u' => ∃ j : Nat, j + m = s.length + 2 ∧ VLe u u' ∧ ∃ (out : Bs), σ = [] ∧ ρ = [(0, .v (str s)), (1, .v (.int .i64 ((i + 1 + j : Nat) : Int))), (8, .v (str out))] ∧ (u = u' ∧ out.length ≤ j)) (s.length + 2) ?_ ?_
  ·
   refine ⟨[(0, _), (1, _), (8, _)], [], ⟨rfl, rfl, rfl, trivial⟩, trivial, 0, by omega, VLe.refl _, [], rfl, rfl, ?_⟩
   exact ⟨rfl, Nat.le_refl _⟩
  ·
   rintro mj ρ σ u' ⟨j, hi8, hle8, out, rfl, rfl, ⟨rfl, hol⟩⟩
   refine Zc (Zc (Za ?_))
   refine Zbc 10 50 (fun b => b = true → i + 1 + j < s.length) (ρk := [(0, _), (1, _), (8, _)]) ⟨rfl, rfl, rfl, trivial⟩ ?_ fun mb8_9 hm8_9 => ?_
   ·
    refine ym rfl rfl (ym rfl rfl (Zf (Zan rfl rfl Tryz.str9 rfl) rfl ?_))
    refine Zf (Zbh rfl rfl rfl) rfl ?_
    refine ym rfl rfl ?_
    refine Zad 45 rfl (fun hg8_4 => ?_) (fun hg8_4 => ?_)
    ·
     refine Zk rfl rfl (ym rfl rfl ?_)
     have hlt : i + 1 + j < s.length := by have := of_decide_eq_true hg8_4; omega
     obtain ⟨c, hc, hc2⟩ := byte_at hlt
     refine Zk rfl rfl (ym rfl rfl (Zk rfl rfl (Zf (Zao rfl Tryz.str9 rfl rfl (j := i + 1 + j) rfl hc) rfl ?_)))
     refine Zk rfl rfl (Zf (Zcc rfl rfl rfl) rfl ?_)
     refine Zf (Zl rfl rfl rfl) rfl ?_
     exact Zx rfl ⟨rfl, rfl, rfl, trivial⟩ (by (first | exact fun _ => hlt | exact fun h => absurd h (by decide)))
    ·
     iterate 4 refine Zo rfl rfl rfl rfl ?_
     refine Zf (Zm rfl rfl rfl) rfl ?_
     exact Zx rfl ⟨rfl, rfl, rfl, trivial⟩ (by (first | exact fun _ => hlt | exact fun h => absurd h (by decide)))
   refine Zd (ρ' := [(0, _), (1, _), (8, _), (50, _)]) ⟨rfl, rfl, rfl, rfl, trivial⟩ ?_
   refine Zb ?_
   refine Zn rfl (fun hb8 => ?_) (fun hb8 => ?_)
   ·
    have hlt := hm8_9 hb8; obtain ⟨c, hc, hc2⟩ := byte_at hlt
    refine Zs (Zb (Zaa ?_))
    refine Zbv (fun ρ σ uc13 => ∃ (q : Nat), VLe u uc13 ∧ σ = [] ∧ ρ = [(0, .v (str s)), (1, .v (.int .i64 (q : Nat))), (8, .v (str out))] ∧ (u = uc13 ∧ q < s.length ∧ i + 1 + j ≤ q ∧ q ≤ i + 2 + j)) ?_ ?_
    ·
     refine Zc (Za (ym rfl rfl (ym rfl rfl (Zf (Zao rfl Tryz.str9 rfl rfl (j := i + 1 + j) rfl hc) rfl ?_))))
     refine Zf (Zay rfl rfl rfl) rfl ?_
     refine Zd (ρ' := [(0, _), (1, _), (8, _), (54, _)]) ⟨rfl, rfl, rfl, rfl, trivial⟩ ?_
     refine Zb ?_
     refine Zn rfl (fun hb9 => ?_) (fun hb9 => ?_)
     ·
      refine Zc (Za (ym rfl rfl (Zf (Zas rfl rfl rfl (Zu (by omega))) rfl ?_)))
      refine ya rfl rfl (Zd (ρ' := [(0, _), (1, _), (8, _)]) ⟨rfl, rfl, rfl, trivial⟩ ?_)
      refine Zb (Zc (Za ?_))
      refine Zbc 16 72 (fun b => b = false → i + 1 + j + 1 < s.length) (ρk := [(0, _), (1, _), (8, _)]) ⟨rfl, rfl, rfl, trivial⟩ ?_ fun mb11_15 hm11_15 => ?_
      ·
       refine ym rfl rfl (ym rfl rfl (Zf (Zan rfl rfl Tryz.str9 rfl) rfl ?_))
       refine Zf (Zbw rfl rfl rfl) rfl ?_
       refine ym rfl rfl ?_
       refine Zad 61 rfl (fun hg11_4 => ?_) (fun hg11_4 => ?_)
       ·
        iterate 5 refine Zo rfl rfl rfl rfl ?_
        refine Zab rfl rfl rfl ?_
        refine Zab rfl rfl rfl ?_
        refine Zab rfl rfl rfl ?_
        refine Zab rfl rfl rfl ?_
        refine Zo rfl rfl rfl rfl (Zf (Zl rfl rfl rfl) rfl ?_)
        exact Zx rfl ⟨rfl, rfl, rfl, trivial⟩ (by (first | exact fun _ => hlt2 | exact fun h => absurd h (by decide)))
       ·
        refine Zk rfl rfl (ym rfl rfl ?_)
        have hlt2 : i + 1 + j + 1 < s.length := by have := of_decide_eq_false hg11_4; omega
        obtain ⟨c2, hc3, hc4⟩ := byte_at hlt2
        refine Zk rfl rfl (ym rfl rfl (Zk rfl rfl (Zf (Zao rfl Tryz.str9 rfl rfl (j := i + 1 + j + 1) rfl hc3) rfl ?_)))
        refine Zk rfl rfl (Zf (Zcc rfl rfl rfl) rfl ?_)
        refine Zk rfl rfl (ym rfl rfl ?_)
        refine Zad 66 rfl (fun hg11_9 => ?_) (fun hg11_9 => ?_)
        ·
         refine Zk rfl rfl (ym rfl rfl (Zk rfl rfl (ym rfl rfl (Zk rfl rfl (Zf (Zao rfl Tryz.str9 rfl rfl (j := i + 1 + j + 1) rfl hc3) rfl ?_)))))
         refine Zk rfl rfl (Zf (Zcc rfl rfl rfl) rfl ?_)
         refine Zk rfl rfl (Zf (Zl rfl rfl rfl) rfl (Zf (Zm rfl rfl rfl) rfl ?_))
         exact Zx rfl ⟨rfl, rfl, rfl, trivial⟩ (by (first | exact fun _ => hlt2 | exact fun h => absurd h (by decide)))
        ·
         iterate 4 refine Zo rfl rfl rfl rfl ?_
         refine Zk rfl rfl (Zf (Zm rfl rfl rfl) rfl (Zf (Zm rfl rfl rfl) rfl ?_))
         exact Zx rfl ⟨rfl, rfl, rfl, trivial⟩ (by (first | exact fun _ => hlt2 | exact fun h => absurd h (by decide)))
      refine Zd (ρ' := [(0, _), (1, _), (8, _), (72, _)]) ⟨rfl, rfl, rfl, rfl, trivial⟩ ?_
      refine Zb ?_
      refine Zn rfl (fun hb11 => ?_) (fun hb11 => ?_)
      ·
       skip
       refine Zc (Za (ya rfl rfl (ya rfl rfl (ya rfl rfl (Zd (ρ' := [(4, _), (5, _), (6, _)]) ⟨rfl, rfl, rfl, trivial⟩ ?_)))))
       refine Zb (Zv (Zh (Zr (Zh (Zr (Zh ?_))))))
       refine fin3 (.tmp rfl) (.tmp rfl) (.tmp rfl) ?_
       first | exact ⟨_, 0, _, rfl, Nat.zero_le _⟩ | exact ⟨_, t, _, rfl, ht2⟩ | exact ⟨_, i + 1 + j + 1, _, rfl, by have := hm15_8 hb15; omega⟩
      ·
       have hlt2 := hm11_15 hb11
       refine Zs (Zae ?_)
       first
        | (refine ⟨[(0, _), (1, _), (8, _)], [], ⟨rfl, rfl, rfl, trivial⟩, trivial, i + 1 + j, (VLe.refl _), rfl, rfl, ?_⟩
           exact ⟨rfl, hlt, by omega, by omega⟩)
        | (refine ⟨[(0, _), (1, _), (8, _)], [], ⟨rfl, rfl, rfl, trivial⟩, trivial, i + 1 + j + 1, (VLe.refl _), rfl, rfl, ?_⟩
           exact ⟨rfl, hlt2, by omega, by omega⟩)
     ·
      refine Zs (Zae ?_)
      first
       | (refine ⟨[(0, _), (1, _), (8, _)], [], ⟨rfl, rfl, rfl, trivial⟩, trivial, i + 1 + j, (VLe.refl _), rfl, rfl, ?_⟩
          exact ⟨rfl, hlt, by omega, by omega⟩)
       | (refine ⟨[(0, _), (1, _), (8, _)], [], ⟨rfl, rfl, rfl, trivial⟩, trivial, i + 1 + j + 1, (VLe.refl _), rfl, rfl, ?_⟩
          exact ⟨rfl, hlt2, by omega, by omega⟩)
    ·
     rintro ρ σ uc13 ⟨q, hlc13, rfl, rfl, ⟨rfl, hq1, hq2, hq3⟩⟩
     refine Zc (Za (ym rfl rfl (ym rfl rfl (ym rfl rfl (ym rfl rfl (Zf (Zas rfl rfl rfl (Zu (by omega))) rfl ?_))))))
     refine Zf (Zbt rfl Tryz.str9 rfl (i := q) (j := q + 1) rfl rfl (by omega) (by omega)) rfl ?_
     refine Zf (y_str_add rfl rfl rfl (by simp; omega)) rfl ?_
     refine ya rfl rfl (Zd (ρ' := [(0, _), (1, _), (8, _)]) ⟨rfl, rfl, rfl, trivial⟩ ?_)
     refine Zb (Za (ym rfl rfl (Zf (Zas rfl rfl rfl (Zu (by omega))) rfl ?_)))
     refine ya rfl rfl (Zd (ρ' := [(0, _), (1, _), (8, _)]) ⟨rfl, rfl, rfl, trivial⟩ ?_)
     refine Zaf (Zae ?_)
     refine ⟨s.length + 2 - (q - i), [(0, _), (1, _), (8, _)], [], by omega, ⟨rfl, rfl, rfl, trivial⟩, trivial, q - i, by omega, VLe.refl _, _, rfl, (by rw [show ((i + 1 + (q - i) : Nat) : Int) = (q : Int) + 1 by omega]; first | done | rfl), rfl, by simp; omega⟩
   ·
    skip
    refine Zat ?_
    refine Zp (Zp ?_)
    refine Zah ?_
    refine Zb (Zc (Zc (Za ?_)))
    refine Zbc 9 90 (fun b => b = false → i + 1 + j < s.length) (ρk := [(1, _), (8, _)]) ⟨rfl, rfl, trivial⟩ ?_ fun mb15_8 hm15_8 => ?_
    ·
     refine ym rfl rfl (ym rfl rfl (Zf (Zan rfl rfl Tryz.str9 rfl) rfl ?_))
     refine Zf (Zbw rfl rfl rfl) rfl ?_
     refine ym rfl rfl ?_
     refine Zad 86 rfl (fun hg15_4 => ?_) (fun hg15_4 => ?_)
     ·
      iterate 3 refine Zo rfl rfl rfl rfl ?_
      refine Zf (Zl rfl rfl rfl) rfl ?_
      exact Zx rfl ⟨rfl, rfl, trivial⟩ (by (first | exact fun h => absurd h (by decide) | exact fun _ => (by have := of_decide_eq_false hg15_4; omega)))
     ·
      refine Zk rfl rfl (ym rfl rfl (Zk rfl rfl (Zq rfl rfl ?_)))
      refine Zw (caps := []) trivial rfl rfl Tryz.c133 rfl (FnP.mono (line3_fn out (by omega) u) ?_)
      rintro v u1 hle1 ⟨b, rfl⟩
      refine Zk rfl rfl (Zf (Zbs rfl rfl) rfl ?_)
      refine Zf (Zm rfl rfl rfl) rfl ?_
      exact Zx rfl ⟨rfl, rfl, trivial⟩ (by (first | exact fun h => absurd h (by decide) | exact fun _ => (by have := of_decide_eq_false hg15_4; omega)))
    refine Zd (ρ' := [(1, _), (8, _), (90, _)]) ⟨rfl, rfl, rfl, trivial⟩ ?_
    refine Zb ?_
    refine Zn rfl (fun hb15 => ?_) (fun hb15 => ?_)
    ·
     refine Zc (Za (ya rfl rfl (ya rfl rfl (ya rfl rfl (Zd (ρ' := [(4, _), (5, _), (6, _)]) ⟨rfl, rfl, rfl, trivial⟩ ?_)))))
     refine Zb (Zv (Zh ?_))
     refine fin3 (.tmp rfl) (.tmp rfl) (.tmp rfl) ?_
     first | exact ⟨_, 0, _, rfl, Nat.zero_le _⟩ | exact ⟨_, t, _, rfl, ht2⟩ | exact ⟨_, i + 1 + j + 1, _, rfl, by have := hm15_8 hb15; omega⟩
    ·
     refine Zs (Zb (Zc (Za (ym rfl rfl (ym rfl rfl (Zf (Zas rfl rfl rfl (Zu (by omega))) rfl ?_))))))
     refine ya rfl rfl (ya rfl rfl (ya rfl rfl (Zd (ρ' := [(4, _), (5, _), (6, _)]) ⟨rfl, rfl, rfl, trivial⟩ ?_)))
     refine Zb (Zv ?_)
     refine fin3 (.tmp rfl) (.tmp rfl) (.tmp rfl) ?_
     first | exact ⟨_, 0, _, rfl, Nat.zero_le _⟩ | exact ⟨_, t, _, rfl, ht2⟩ | exact ⟨_, i + 1 + j + 1, _, rfl, by have := hm15_8 hb15; omega⟩
abbrev clsRow (vc : Value) (cs : List Bs) : PO := (none, .rwv vc 9 1 cs.length (strsC cs))
abbrev prsRow (vp : Value) (ps : List (Bs × Bs)) : PO := (none, .rwv vp 49 2 ps.length (pairsC ps))
theorem strsC_append (a b : List Bs) : strsC (a ++ b) = strsC a ++ strsC b := by simp [strsC]
theorem pairsC_append (a b : List (Bs × Bs)) : pairsC (a ++ b) = pairsC a ++ pairsC b := by simp [pairsC]
theorem class_fn (id name : Bs) (vc vp : Value) (cs : List Bs) (hcs : cs.length ≤ 40) (ho : Value.oneCell' vc = true) (ho2 : Value.oneCell' vp = true) (u : View) :
  FnO Tryz.prog 168 [.agg #[str id, vc, vp], str name] u [clsRow vc cs] fun r u' l' =>
   ∃ (vc' : Value) (cs' : List Bs) (e : Int), r = .tuple #[.agg #[str id, vc', vp], .int .i64 e] ∧ l' = [clsRow vc' cs'] ∧ Value.oneCell' vc' = true ∧ cs'.length ≤ 40 := by
 refine FnO.intro [.cell 4 36, .tmp 5] Tryz.func168 rfl rfl rfl ?_
 intro w0 D hw0
 refine Zc (Za (Zq rfl rfl ?_))
 refine Zbl trivial rfl (cs := [_, _, _]) rfl rfl rfl rfl ?_
 refine Zq rfl rfl ?_
 refine Zax trivial Tryz.z36 rfl rfl rfl ?_
 refine ya rfl rfl (Zd (ρ' := [(1, _), (2, _), (4, _)]) ⟨rfl, rfl, rfl, trivial⟩ ?_)
 refine Zb (Zc (Zc (Za (Zf (Zi rfl Tryz.f36' rfl (by decide) rfl) rfl ?_))))
 refine Zf (Zj rfl Tryz.k34 rfl rfl rfl (vs := [_]) rfl rfl rfl) rfl ?_
 refine ym rfl rfl (Zq rfl rfl ?_)
 refine do_call_bw (caps := []) 1000 trivial rfl rfl Tryz.c132 rfl rfl ?_
 intro ub hleb hslb
 refine FnP.mono (hasText_fn vc cs name (by omega) ub hslb) ?_
 rintro v u1 hle1 ⟨b, rfl⟩
 refine Zd (ρ' := [(1, _), (2, _), (4, _), (9, _)]) ⟨rfl, rfl, rfl, rfl, trivial⟩ ?_
 refine Zb ?_
 refine Zn rfl (fun hb1 => ?_) (fun hb1 => ?_)
 ·
  refine Zc (Za (Zf (Zj rfl Tryz.k36 rfl rfl rfl (vs := [_, _, _]) rfl rfl rfl) rfl ?_))
  refine Zq rfl rfl ?_
  refine Zt trivial rfl Tryz.k36 rfl rfl rfl (vs := [_, _, _]) rfl rfl (by simp only [List.all_cons, List.all_nil, ho, ho2]; rfl) (Nat.le_of_ble_eq_true rfl) rfl ?_
  refine ya rfl rfl (Zd (ρ' := [(4, _), (5, _)]) ⟨rfl, rfl, trivial⟩ ?_)
  refine Zb (Zv (Zh ?_))
  refine finO2 [1000] (.cell rfl rfl Tryz.k36 (cs := _) (vs := [_, _, _]) rfl rfl rfl) (.tmp rfl) rfl rfl ?_
  first
  | exact ⟨vc, cs, _, rfl, rfl, ho, hcs⟩
  | (refine ⟨_, cs ++ [name], _, rfl, ?_, rfl, ?_⟩
     ·
      rw [clsRow, List.length_append, strsC_append]; rfl
     ·
      have := of_decide_eq_false hb3; rw [List.length_append]; simp; omega)
 ·
  refine Zs (Zb (Zc (Zc (Za (Zf (Zi rfl Tryz.f36' rfl (by decide) rfl) rfl ?_)))))
  refine Zf (Zj rfl Tryz.k34 rfl rfl rfl (vs := [_]) rfl rfl rfl) rfl ?_
  refine Zf (y_len_w 1000 rfl rfl Tryz.s34 rfl rfl) rfl ?_
  refine Zf (Zbw rfl rfl rfl) rfl ?_
  refine Zd (ρ' := [(1, _), (2, _), (4, _), (14, _)]) ⟨rfl, rfl, rfl, rfl, trivial⟩ ?_
  refine Zb ?_
  refine Zn rfl (fun hb3 => ?_) (fun hb3 => ?_)
  ·
   refine Zc (Za (Zf (Zj rfl Tryz.k36 rfl rfl rfl (vs := [_, _, _]) rfl rfl rfl) rfl ?_))
   refine Zq rfl rfl ?_
   refine Zt trivial rfl Tryz.k36 rfl rfl rfl (vs := [_, _, _]) rfl rfl (by simp only [List.all_cons, List.all_nil, ho, ho2]; rfl) (Nat.le_of_ble_eq_true rfl) rfl ?_
   refine ya rfl rfl (Zd (ρ' := [(4, _), (5, _)]) ⟨rfl, rfl, trivial⟩ ?_)
   refine Zb (Zv (Zh ?_))
   refine finO2 [1000] (.cell rfl rfl Tryz.k36 (cs := _) (vs := [_, _, _]) rfl rfl rfl) (.tmp rfl) rfl rfl ?_
   first
   | exact ⟨vc, cs, _, rfl, rfl, ho, hcs⟩
   | (refine ⟨_, cs ++ [name], _, rfl, ?_, rfl, ?_⟩
      ·
       rw [clsRow, List.length_append, strsC_append]; rfl
      ·
       have := of_decide_eq_false hb3; rw [List.length_append]; simp; omega)
  ·
   refine Zs (Zb (Zc (Za (Zf (Zi rfl Tryz.f36' rfl (by decide) rfl) rfl ?_))))
   refine Zf (Zj rfl Tryz.k34 rfl rfl rfl (vs := [_]) rfl rfl rfl) rfl ?_
   refine ym rfl rfl (Zq rfl rfl ?_)
   refine Zac trivial Tryz.s34 Tryz.z9 (ps := [(_, _)]) rfl (xs := [_]) rfl rfl rfl rfl rfl rfl rfl ?_
   refine Zq rfl rfl ?_
   refine Zbd 1000 trivial rfl rfl Tryz.s34 Tryz.z9 rfl rfl rfl rfl rfl rfl rfl (by omega) (by omega) rfl rfl ?_
   intro ad5 cap5
   refine Zf (Zi rfl Tryz.f36' rfl (by decide) rfl) rfl ?_
   refine Zq rfl rfl ?_
   refine Zt trivial rfl Tryz.k34 rfl rfl rfl (vs := [_]) rfl rfl (by first | rfl | assumption | simp [Value.oneCell', str]) (Nat.le_of_ble_eq_true rfl) rfl ?_
   refine Zd (ρ' := [(2, _), (4, _)]) ⟨rfl, rfl, trivial⟩ ?_
   refine Zb (Zc (Za (Zf (Zj rfl Tryz.k36 rfl rfl rfl (vs := [_, _, _]) rfl rfl rfl) rfl ?_)))
   refine Zq rfl rfl ?_
   refine Zt trivial rfl Tryz.k36 rfl rfl rfl (vs := [_, _, _]) rfl rfl (by simp only [List.all_cons, List.all_nil, ho, ho2]; rfl) (Nat.le_of_ble_eq_true rfl) rfl ?_
   refine ya rfl rfl (Zd (ρ' := [(4, _), (5, _)]) ⟨rfl, rfl, trivial⟩ ?_)
   refine Zb (Zv ?_)
   refine finO2 [1000] (.cell rfl rfl Tryz.k36 (cs := _) (vs := [_, _, _]) rfl rfl rfl) (.tmp rfl) rfl rfl ?_
   first
   | exact ⟨vc, cs, _, rfl, rfl, ho, hcs⟩
   | (refine ⟨_, cs ++ [name], _, rfl, ?_, rfl, ?_⟩
      ·
       rw [clsRow, List.length_append, strsC_append]; rfl
      ·
       have := of_decide_eq_false hb3; rw [List.length_append]; simp; omega)
set_option maxHeartbeats 1000000 in
theorem item_fn (id s : Bs) (i : Nat) (hi : i < s.length) (hs : s.length ≤ 1000000) (vc vp : Value) (cs : List Bs) (ps : List (Bs × Bs)) (hcs : cs.length ≤ 40) (hps : ps.length ≤ 40) (ho : Value.oneCell' vc = true) (ho2 : Value.oneCell' vp = true) (u : View) :
  FnO Tryz.prog 160 [.agg #[str id, vc, vp], str s, .int .i64 i] u [clsRow vc cs, prsRow vp ps] fun r u' l' =>
   ∃ (id' : Bs) (vc' vp' : Value) (cs' : List Bs) (ps' : List (Bs × Bs)) (t : Nat) (e : Int), r = .tuple #[.agg #[str id', vc', vp'], .int .i64 t, .int .i64 e] ∧ l' = [clsRow vc' cs', prsRow vp' ps'] ∧ Value.oneCell' vc' = true ∧ Value.oneCell' vp' = true ∧ cs'.length ≤ 40 ∧ ps'.length ≤ 40 ∧ t ≤ s.length := by
 obtain ⟨c, hc, hc2⟩ := byte_at hi
 refine FnO.intro [.cell 6 36, .tmp 7, .tmp 8] Tryz.func160 rfl rfl rfl ?_
 intro w0 D hw0
 refine Zc (Za (Zq rfl rfl ?_))
 refine Zbl trivial rfl (cs := [_, _, _]) rfl rfl rfl rfl ?_
 refine Zq rfl rfl ?_
 refine Zax trivial Tryz.z36 rfl rfl rfl ?_
 refine ya rfl rfl (ya rfl rfl (Zd (ρ' := [(1, _), (2, _), (3, _), (6, _)]) ⟨rfl, rfl, rfl, rfl, trivial⟩ ?_))
 refine Zb (Zc (Za (ym rfl rfl (ya rfl rfl (Zd (ρ' := [(1, _), (2, _), (3, _), (6, _), (9, _)]) ⟨rfl, rfl, rfl, rfl, rfl, trivial⟩ ?_)))))
 refine Zb ?_
 refine Zbv (fun ρ σ uc4 => ∃ (fr : Nat), VLe u uc4 ∧ σ = [(3, (none, .box [str id, vc, vp])), (6, (none, .box [str [], .slice none 0 0, .slice none 0 0])), (1000, clsRow vc cs), (1001, prsRow vp ps)] ∧ ρ = [(1, .v (str s)), (2, .v (.int .i64 i)), (3, .p 3 0), (6, .p 6 0), (9, .v (.int .i64 (fr : Nat)))] ∧ (u = uc4 ∧ fr ≤ s.length)) ?_ ?_
 ·
  refine Zc (Za ?_)
  refine Zbc 10 27 (fun _ => True) (ρk := [(1, _), (2, _), (3, _), (6, _), (9, _)]) ⟨rfl, rfl, rfl, rfl, rfl, trivial⟩ ?_ fun mb2_9 hm2_9 => ?_
  ·
   refine ym rfl rfl (ym rfl rfl (Zf (Zao rfl Tryz.str9 rfl rfl (j := i) rfl hc) rfl ?_))
   refine Zf (Zay rfl rfl rfl) rfl ?_
   refine ym rfl rfl ?_
   refine Zad 22 rfl (fun hg2_4 => ?_) (fun hg2_4 => ?_)
   ·
    iterate 4 refine Zo rfl rfl rfl rfl ?_
    refine Zf (Zl rfl rfl rfl) rfl ?_
    exact Zx rfl ⟨rfl, rfl, rfl, rfl, rfl, trivial⟩ (trivial)
   ·
    refine Zk rfl rfl (ym rfl rfl (Zk rfl rfl (ym rfl rfl (Zk rfl rfl (Zf (Zao rfl Tryz.str9 rfl rfl (j := i) rfl hc) rfl ?_)))))
    refine Zk rfl rfl (Zf (Zay rfl rfl rfl) rfl ?_)
    refine Zf (Zm rfl rfl rfl) rfl ?_
    exact Zx rfl ⟨rfl, rfl, rfl, rfl, rfl, trivial⟩ (trivial)
  refine Zd (ρ' := [(1, _), (2, _), (3, _), (6, _), (9, _), (27, _)]) ⟨rfl, rfl, rfl, rfl, rfl, rfl, trivial⟩ ?_
  refine Zb ?_
  refine Zn rfl (fun hb2 => ?_) (fun hb2 => ?_)
  ·
   refine Za (ym rfl rfl (Zf (Zas rfl rfl rfl (Zu (by omega))) rfl ?_))
   refine ya rfl rfl (Zd (ρ' := [(1, _), (2, _), (3, _), (6, _), (9, _)]) ⟨rfl, rfl, rfl, rfl, rfl, trivial⟩ ?_)
   refine Zae ?_
   first
    | (refine ⟨[(1, _), (2, _), (3, _), (6, _), (9, _)], [(3, _), (6, _), (1000, _), (1001, _)], ⟨rfl, rfl, rfl, rfl, rfl, trivial⟩, ⟨rfl, rfl, rfl, rfl, trivial⟩, i + 1, (VLe.refl _), rfl, rfl, ?_⟩
       exact ⟨rfl, hi⟩)
    | (refine ⟨[(1, _), (2, _), (3, _), (6, _), (9, _)], [(3, _), (6, _), (1000, _), (1001, _)], ⟨rfl, rfl, rfl, rfl, rfl, trivial⟩, ⟨rfl, rfl, rfl, rfl, trivial⟩, i, (VLe.refl _), rfl, rfl, ?_⟩
       exact ⟨rfl, by omega⟩)
  ·
   refine Zs (Zae ?_)
   first
    | (refine ⟨[(1, _), (2, _), (3, _), (6, _), (9, _)], [(3, _), (6, _), (1000, _), (1001, _)], ⟨rfl, rfl, rfl, rfl, rfl, trivial⟩, ⟨rfl, rfl, rfl, rfl, trivial⟩, i + 1, (VLe.refl _), rfl, rfl, ?_⟩
       exact ⟨rfl, hi⟩)
    | (refine ⟨[(1, _), (2, _), (3, _), (6, _), (9, _)], [(3, _), (6, _), (1000, _), (1001, _)], ⟨rfl, rfl, rfl, rfl, rfl, trivial⟩, ⟨rfl, rfl, rfl, rfl, trivial⟩, i, (VLe.refl _), rfl, rfl, ?_⟩
       exact ⟨rfl, by omega⟩)
 ·
  rintro ρ σ uc4 ⟨fr, hlc4, rfl, rfl, ⟨rfl, hfr⟩⟩
  refine Zc (Za (ym rfl rfl (ym rfl rfl (Zq rfl rfl ?_))))
  refine Zw (caps := []) trivial rfl rfl Tryz.c67 rfl (FnP.mono (kword_fn s fr hfr (by omega) u) ?_)
  rintro v u1 hle1 ⟨t, rfl, ht1, ht2⟩
  refine ya rfl rfl (Zd (ρ' := [(1, _), (2, _), (3, _), (6, _), (9, _), (10, _)]) ⟨rfl, rfl, rfl, rfl, rfl, rfl, trivial⟩ ?_)
  refine Zb (Zc (Zc (Za (ym rfl rfl (ym rfl rfl (ym rfl rfl (Zf (Zbt rfl Tryz.str9 rfl (i := fr) (j := t) rfl rfl ht1 ht2) rfl ?_)))))))
  refine Zq rfl rfl ?_
  refine Zw (caps := []) trivial rfl rfl Tryz.c28 rfl (FnP.mono (name_fn _ (by simp; omega) u) ?_)
  rintro v u1 hle1 ⟨b, rfl, _⟩
  refine Zf (Zbs rfl rfl) rfl ?_
  refine Zd (ρ' := [(1, _), (2, _), (3, _), (6, _), (9, _), (10, _), (38, _)]) ⟨rfl, rfl, rfl, rfl, rfl, rfl, rfl, trivial⟩ ?_
  refine Zb ?_
  refine Zn rfl (fun hb5 => ?_) (fun hb5 => ?_)
  ·
   refine Zc (Za (Zf (Zj rfl Tryz.k36 rfl rfl rfl (vs := [_, _, _]) rfl rfl rfl) rfl ?_))
   refine Zq rfl rfl ?_
   refine Zt trivial rfl Tryz.k36 rfl rfl rfl (vs := [_, _, _]) rfl rfl (by simp only [List.all_cons, List.all_nil, ho, ho2]; rfl) (Nat.le_of_ble_eq_true rfl) rfl ?_
   refine ya rfl rfl (ya rfl rfl (Zd (ρ' := [(6, _), (7, _), (8, _)]) ⟨rfl, rfl, rfl, trivial⟩ ?_))
   refine Zb (Zv (Zh ?_))
   refine finO3 [1000, 1001] (.cell rfl rfl Tryz.k36 (cs := _) (vs := [_, _, _]) rfl rfl rfl) (.tmp rfl) (.tmp rfl) rfl rfl ?_
   first
   | exact ⟨_, vc, vp, cs, ps, 0, _, rfl, rfl, ho, ho2, hcs, hps, Nat.zero_le _⟩
   | exact ⟨_, vc, vp, cs, ps, t, _, rfl, rfl, ho, ho2, hcs, hps, ht2⟩
   | exact ⟨_, vc2, vp, cs2, ps, t, _, rfl, rfl, o2, ho2, hcs2, hps, ht2⟩
   | (refine ⟨_, vc, _, cs, ps ++ [(nm, v7)], t7, _, rfl, ?_, ho, rfl, hcs, ?_, ht7⟩
      ·
       rw [prsRow, List.length_append, pairsC_append]; rfl
      ·
       have := of_decide_eq_false hb23; rw [List.length_append]; simp; omega)
  ·
   refine Zs (Zb (Zc (Za (ym rfl rfl (ym rfl rfl (ym rfl rfl (Zf (Zbt rfl Tryz.str9 rfl (i := fr) (j := t) rfl rfl ht1 ht2) rfl ?_)))))))
   generalize hnm : ((s.drop fr).take (t - fr)) = nm
   refine ya rfl rfl (Zd (ρ' := [(1, _), (2, _), (3, _), (6, _), (10, _), (11, _)]) ⟨rfl, rfl, rfl, rfl, rfl, rfl, trivial⟩ ?_)
   refine Zb (Zc (Zc (Za (ym rfl rfl (ym rfl rfl (Zf (Zao rfl Tryz.str9 rfl rfl (j := i) rfl hc) rfl ?_))))))
   refine Zf (Zay rfl rfl rfl) rfl ?_
   refine Zd (ρ' := [(1, _), (2, _), (3, _), (6, _), (10, _), (11, _), (47, _)]) ⟨rfl, rfl, rfl, rfl, rfl, rfl, rfl, trivial⟩ ?_
   refine Zb ?_
   refine Zn rfl (fun hb8 => ?_) (fun hb8 => ?_)
   ·
    refine Zc (Zc (Za (Zf (Zi rfl Tryz.f36' rfl (by decide) rfl) rfl ?_)))
    refine Zf (Zj rfl Tryz.k9 rfl rfl rfl (vs := [_]) rfl rfl rfl) rfl ?_
    refine Zf (Zbk rfl rfl rfl) rfl ?_
    refine Zd (ρ' := [(3, _), (6, _), (10, _), (11, _), (50, _)]) ⟨rfl, rfl, rfl, rfl, rfl, trivial⟩ ?_
    refine Zb ?_
    refine Zn rfl (fun hb9 => ?_) (fun hb9 => ?_)
    ·
     refine Zc (Za (Zf (Zj rfl Tryz.k36 rfl rfl rfl (vs := [_, _, _]) rfl rfl rfl) rfl ?_))
     refine Zq rfl rfl ?_
     refine Zt trivial rfl Tryz.k36 rfl rfl rfl (vs := [_, _, _]) rfl rfl (by simp only [List.all_cons, List.all_nil, ho, ho2]; rfl) (Nat.le_of_ble_eq_true rfl) rfl ?_
     refine ya rfl rfl (ya rfl rfl (Zd (ρ' := [(6, _), (7, _), (8, _)]) ⟨rfl, rfl, rfl, trivial⟩ ?_))
     refine Zb (Zv (Zh (Zh ?_)))
     refine finO3 [1000, 1001] (.cell rfl rfl Tryz.k36 (cs := _) (vs := [_, _, _]) rfl rfl rfl) (.tmp rfl) (.tmp rfl) rfl rfl ?_
     first
     | exact ⟨_, vc, vp, cs, ps, 0, _, rfl, rfl, ho, ho2, hcs, hps, Nat.zero_le _⟩
     | exact ⟨_, vc, vp, cs, ps, t, _, rfl, rfl, ho, ho2, hcs, hps, ht2⟩
     | exact ⟨_, vc2, vp, cs2, ps, t, _, rfl, rfl, o2, ho2, hcs2, hps, ht2⟩
     | (refine ⟨_, vc, _, cs, ps ++ [(nm, v7)], t7, _, rfl, ?_, ho, rfl, hcs, ?_, ht7⟩
        ·
         rw [prsRow, List.length_append, pairsC_append]; rfl
        ·
         have := of_decide_eq_false hb23; rw [List.length_append]; simp; omega)
    ·
     refine Zs (Zb (Zc (Za (ym rfl rfl (Zf (Zi rfl Tryz.f36' rfl (by decide) rfl) rfl ?_)))))
     refine Zq rfl rfl ?_
     refine Zt trivial rfl Tryz.k9 rfl rfl rfl (vs := [_]) rfl rfl (by first | rfl | assumption | simp [Value.oneCell', str]) (Nat.le_of_ble_eq_true rfl) rfl ?_
     refine Zd (ρ' := [(3, _), (6, _), (10, _)]) ⟨rfl, rfl, rfl, trivial⟩ ?_
     refine Zb (Zc (Za (Zf (Zj rfl Tryz.k36 rfl rfl rfl (vs := [_, _, _]) rfl rfl rfl) rfl ?_)))
     refine ym rfl rfl (Zq rfl rfl ?_)
     refine Zt trivial rfl Tryz.k36 rfl rfl rfl (vs := [_, _, _]) rfl rfl (by simp only [List.all_cons, List.all_nil, ho, ho2]; rfl) (Nat.le_of_ble_eq_true rfl) rfl ?_
     refine ya rfl rfl (ya rfl rfl (Zd (ρ' := [(6, _), (7, _), (8, _)]) ⟨rfl, rfl, rfl, trivial⟩ ?_))
     refine Zb (Zv (Zh ?_))
     refine finO3 [1000, 1001] (.cell rfl rfl Tryz.k36 (cs := _) (vs := [_, _, _]) rfl rfl rfl) (.tmp rfl) (.tmp rfl) rfl rfl ?_
     first
     | exact ⟨_, vc, vp, cs, ps, 0, _, rfl, rfl, ho, ho2, hcs, hps, Nat.zero_le _⟩
     | exact ⟨_, vc, vp, cs, ps, t, _, rfl, rfl, ho, ho2, hcs, hps, ht2⟩
     | exact ⟨_, vc2, vp, cs2, ps, t, _, rfl, rfl, o2, ho2, hcs2, hps, ht2⟩
     | (refine ⟨_, vc, _, cs, ps ++ [(nm, v7)], t7, _, rfl, ?_, ho, rfl, hcs, ?_, ht7⟩
        ·
         rw [prsRow, List.length_append, pairsC_append]; rfl
        ·
         have := of_decide_eq_false hb23; rw [List.length_append]; simp; omega)
   ·
    refine Zs (Zb (Zc (Zc (Za (ym rfl rfl (ym rfl rfl (Zf (Zao rfl Tryz.str9 rfl rfl (j := i) rfl hc) rfl ?_)))))))
    refine Zf (Zay rfl rfl rfl) rfl ?_
    refine Zd (ρ' := [(1, _), (3, _), (6, _), (10, _), (11, _), (59, _)]) ⟨rfl, rfl, rfl, rfl, rfl, rfl, trivial⟩ ?_
    refine Zb ?_
    refine Zn rfl (fun hb13 => ?_) (fun hb13 => ?_)
    ·
     refine Zc (Za (Zf (Zj rfl Tryz.k36 rfl rfl rfl (vs := [_, _, _]) rfl rfl rfl) rfl ?_))
     refine ym rfl rfl (Zq rfl rfl ?_)
     refine Zaz (caps := []) (ρ' := [(6, _), (10, _)]) [1000] [] trivial rfl rfl rfl Tryz.c168 rfl rfl ⟨rfl, rfl, trivial⟩ rfl rfl rfl (FnO.mono (class_fn id nm vc vp cs hcs ho ho2 u) ?_)
     rintro v uC l1 hleC ⟨vc2, cs2, e2, rfl, rfl, o2, hcs2⟩ -
     refine ⟨⟨fun _ h => h, trivial⟩, ?_⟩
     refine ym rfl rfl (Zf (Zbo rfl rfl rfl) rfl ?_)
     refine Zf (Zbo rfl rfl rfl) rfl ?_
     refine Zq rfl rfl ?_
     refine Zax trivial Tryz.z36 rfl rfl rfl ?_
     refine Zq rfl rfl ?_
     refine Zt trivial rfl Tryz.k36 rfl rfl rfl (vs := [_, _, _]) rfl rfl (by simp only [List.all_cons, List.all_nil, o2, ho2]; rfl) (Nat.le_of_ble_eq_true rfl) rfl ?_
     refine ya rfl rfl (Zd (ρ' := [(6, _), (10, _), (12, _), (13, _)]) ⟨rfl, rfl, rfl, rfl, trivial⟩ ?_)
     refine Zb (Zc (Za (Zf (Zj rfl Tryz.k36 rfl rfl rfl (vs := [_, _, _]) rfl rfl rfl) rfl ?_)))
     refine ym rfl rfl (ym rfl rfl (Zq rfl rfl ?_))
     refine Zt trivial rfl Tryz.k36 rfl rfl rfl (vs := [_, _, _]) rfl rfl (by simp only [List.all_cons, List.all_nil, o2, ho2]; rfl) (Nat.le_of_ble_eq_true rfl) rfl ?_
     refine ya rfl rfl (ya rfl rfl (Zd (ρ' := [(6, _), (7, _), (8, _)]) ⟨rfl, rfl, rfl, trivial⟩ ?_))
     refine Zb (Zv (Zh ?_))
     refine finO3 [1000, 1001] (.cell rfl rfl Tryz.k36 (cs := _) (vs := [_, _, _]) rfl rfl rfl) (.tmp rfl) (.tmp rfl) rfl rfl ?_
     first
     | exact ⟨_, vc, vp, cs, ps, 0, _, rfl, rfl, ho, ho2, hcs, hps, Nat.zero_le _⟩
     | exact ⟨_, vc, vp, cs, ps, t, _, rfl, rfl, ho, ho2, hcs, hps, ht2⟩
     | exact ⟨_, vc2, vp, cs2, ps, t, _, rfl, rfl, o2, ho2, hcs2, hps, ht2⟩
     | (refine ⟨_, vc, _, cs, ps ++ [(nm, v7)], t7, _, rfl, ?_, ho, rfl, hcs, ?_, ht7⟩
        ·
         rw [prsRow, List.length_append, pairsC_append]; rfl
        ·
         have := of_decide_eq_false hb23; rw [List.length_append]; simp; omega)
    ·
     refine Zs (Zb (Zc (Zc (Za ?_))))
     refine Zbc 10 78 (fun b => b = false → t < s.length) (ρk := [(1, _), (3, _), (6, _), (10, _), (11, _)]) ⟨rfl, rfl, rfl, rfl, rfl, trivial⟩ ?_ fun mb16_9 hm16_9 => ?_
     ·
      refine ym rfl rfl (ym rfl rfl (Zf (Zan rfl rfl Tryz.str9 rfl) rfl ?_))
      refine Zf (Zbw rfl rfl rfl) rfl ?_
      refine ym rfl rfl ?_
      refine Zad 73 rfl (fun hg16_4 => ?_) (fun hg16_4 => ?_)
      ·
       iterate 4 refine Zo rfl rfl rfl rfl ?_
       refine Zf (Zl rfl rfl rfl) rfl ?_
       exact Zx rfl ⟨rfl, rfl, rfl, rfl, rfl, trivial⟩ (by (first | exact fun _ => hlt | exact fun h => absurd h (by decide)))
      ·
       refine Zk rfl rfl (ym rfl rfl ?_)
       have hlt : t < s.length := by have := of_decide_eq_false hg16_4; omega
       obtain ⟨c5, hc5, hc6⟩ := byte_at hlt
       refine Zk rfl rfl (ym rfl rfl (Zk rfl rfl (Zf (Zao rfl Tryz.str9 rfl rfl (j := t) rfl hc5) rfl ?_)))
       refine Zk rfl rfl (Zf (Zcc rfl rfl rfl) rfl ?_)
       refine Zf (Zm rfl rfl rfl) rfl ?_
       exact Zx rfl ⟨rfl, rfl, rfl, rfl, rfl, trivial⟩ (by (first | exact fun _ => hlt | exact fun h => absurd h (by decide)))
     refine Zd (ρ' := [(1, _), (3, _), (6, _), (10, _), (11, _), (78, _)]) ⟨rfl, rfl, rfl, rfl, rfl, rfl, trivial⟩ ?_
     refine Zb ?_
     refine Zn rfl (fun hb16 => ?_) (fun hb16 => ?_)
     ·
      skip
      refine Zc (Za (Zf (Zj rfl Tryz.k36 rfl rfl rfl (vs := [_, _, _]) rfl rfl rfl) rfl ?_))
      refine Zq rfl rfl ?_
      refine Zt trivial rfl Tryz.k36 rfl rfl rfl (vs := [_, _, _]) rfl rfl (by simp only [List.all_cons, List.all_nil, ho, ho2]; rfl) (Nat.le_of_ble_eq_true rfl) rfl ?_
      refine ya rfl rfl (ya rfl rfl (Zd (ρ' := [(6, _), (7, _), (8, _)]) ⟨rfl, rfl, rfl, trivial⟩ ?_))
      refine Zb (Zv (Zh ?_))
      refine finO3 [1000, 1001] (.cell rfl rfl Tryz.k36 (cs := _) (vs := [_, _, _]) rfl rfl rfl) (.tmp rfl) (.tmp rfl) rfl rfl ?_
      first
      | exact ⟨_, vc, vp, cs, ps, 0, _, rfl, rfl, ho, ho2, hcs, hps, Nat.zero_le _⟩
      | exact ⟨_, vc, vp, cs, ps, t, _, rfl, rfl, ho, ho2, hcs, hps, ht2⟩
      | exact ⟨_, vc2, vp, cs2, ps, t, _, rfl, rfl, o2, ho2, hcs2, hps, ht2⟩
      | (refine ⟨_, vc, _, cs, ps ++ [(nm, v7)], t7, _, rfl, ?_, ho, rfl, hcs, ?_, ht7⟩
         ·
          rw [prsRow, List.length_append, pairsC_append]; rfl
         ·
          have := of_decide_eq_false hb23; rw [List.length_append]; simp; omega)
     ·
      have hlt := hm16_9 hb16
      refine Zs (Zb (Zc (Za (ym rfl rfl (ym rfl rfl (Zf (Zas rfl rfl rfl (Zu (by omega))) rfl ?_))))))
      refine Zq rfl rfl ?_
      refine Zw (caps := []) trivial rfl rfl Tryz.c169 rfl (FnP.mono (kvalue_fn s (t + 1) hlt hs _) ?_)
      rintro v u1 hle1 ⟨v7, t7, b7, rfl, ht7⟩
      refine ym rfl rfl (Zf (Zbo rfl rfl rfl) rfl ?_)
      refine Zf (Zbo rfl rfl rfl) rfl ?_
      refine Zf (Zbo rfl rfl rfl) rfl ?_
      refine ya rfl rfl (ya rfl rfl (ya rfl rfl (Zd (ρ' := [(3, _), (6, _), (11, _), (14, _), (15, _), (16, _)]) ⟨rfl, rfl, rfl, rfl, rfl, rfl, trivial⟩ ?_)))
      refine Zb (Zc (Zc (Za (ym rfl rfl (Zf (Zbs rfl rfl) rfl ?_)))))
      refine Zd (ρ' := [(3, _), (6, _), (11, _), (14, _), (15, _), (89, _)]) ⟨rfl, rfl, rfl, rfl, rfl, rfl, trivial⟩ ?_
      refine Zb ?_
      refine Zn rfl (fun hb19 => ?_) (fun hb19 => ?_)
      ·
       refine Zc (Za (Zf (Zj rfl Tryz.k36 rfl rfl rfl (vs := [_, _, _]) rfl rfl rfl) rfl ?_))
       refine Zq rfl rfl ?_
       refine Zt trivial rfl Tryz.k36 rfl rfl rfl (vs := [_, _, _]) rfl rfl (by simp only [List.all_cons, List.all_nil, ho, ho2]; rfl) (Nat.le_of_ble_eq_true rfl) rfl ?_
       refine ya rfl rfl (ya rfl rfl (Zd (ρ' := [(6, _), (7, _), (8, _)]) ⟨rfl, rfl, rfl, trivial⟩ ?_))
       refine Zb (Zv (Zh ?_))
       refine finO3 [1000, 1001] (.cell rfl rfl Tryz.k36 (cs := _) (vs := [_, _, _]) rfl rfl rfl) (.tmp rfl) (.tmp rfl) rfl rfl ?_
       first
       | exact ⟨_, vc, vp, cs, ps, 0, _, rfl, rfl, ho, ho2, hcs, hps, Nat.zero_le _⟩
       | exact ⟨_, vc, vp, cs, ps, t, _, rfl, rfl, ho, ho2, hcs, hps, ht2⟩
       | exact ⟨_, vc2, vp, cs2, ps, t, _, rfl, rfl, o2, ho2, hcs2, hps, ht2⟩
       | (refine ⟨_, vc, _, cs, ps ++ [(nm, v7)], t7, _, rfl, ?_, ho, rfl, hcs, ?_, ht7⟩
          ·
           rw [prsRow, List.length_append, pairsC_append]; rfl
          ·
           have := of_decide_eq_false hb23; rw [List.length_append]; simp; omega)
      ·
       refine Zs (Zb (Zc (Zc (Za (Zf (Zi rfl Tryz.f36' rfl (by decide) rfl) rfl ?_)))))
       refine Zf (Zj rfl Tryz.k22 rfl rfl rfl (vs := [_]) rfl rfl rfl) rfl ?_
       refine ym rfl rfl (Zq rfl rfl ?_)
       refine do_call_bw (caps := []) 1001 trivial rfl rfl Tryz.c134 rfl rfl ?_
       intro ub hleb hslb
       refine FnP.mono (hasKey_fn vp ps nm (by omega) ub hslb) ?_
       rintro v u1 hle1 ⟨b8, rfl⟩
       refine Zd (ρ' := [(3, _), (6, _), (11, _), (14, _), (15, _), (94, _)]) ⟨rfl, rfl, rfl, rfl, rfl, rfl, trivial⟩ ?_
       refine Zb ?_
       refine Zn rfl (fun hb21 => ?_) (fun hb21 => ?_)
       ·
        refine Zc (Za (Zf (Zj rfl Tryz.k36 rfl rfl rfl (vs := [_, _, _]) rfl rfl rfl) rfl ?_))
        refine Zq rfl rfl ?_
        refine Zt trivial rfl Tryz.k36 rfl rfl rfl (vs := [_, _, _]) rfl rfl (by simp only [List.all_cons, List.all_nil, ho, ho2]; rfl) (Nat.le_of_ble_eq_true rfl) rfl ?_
        refine ya rfl rfl (ya rfl rfl (Zd (ρ' := [(6, _), (7, _), (8, _)]) ⟨rfl, rfl, rfl, trivial⟩ ?_))
        refine Zb (Zv (Zh ?_))
        refine finO3 [1000, 1001] (.cell rfl rfl Tryz.k36 (cs := _) (vs := [_, _, _]) rfl rfl rfl) (.tmp rfl) (.tmp rfl) rfl rfl ?_
        first
        | exact ⟨_, vc, vp, cs, ps, 0, _, rfl, rfl, ho, ho2, hcs, hps, Nat.zero_le _⟩
        | exact ⟨_, vc, vp, cs, ps, t, _, rfl, rfl, ho, ho2, hcs, hps, ht2⟩
        | exact ⟨_, vc2, vp, cs2, ps, t, _, rfl, rfl, o2, ho2, hcs2, hps, ht2⟩
        | (refine ⟨_, vc, _, cs, ps ++ [(nm, v7)], t7, _, rfl, ?_, ho, rfl, hcs, ?_, ht7⟩
           ·
            rw [prsRow, List.length_append, pairsC_append]; rfl
           ·
            have := of_decide_eq_false hb23; rw [List.length_append]; simp; omega)
       ·
        refine Zs (Zb (Zc (Zc (Za (Zf (Zi rfl Tryz.f36' rfl (by decide) rfl) rfl ?_)))))
        refine Zf (Zj rfl Tryz.k22 rfl rfl rfl (vs := [_]) rfl rfl rfl) rfl ?_
        refine Zf (y_len_w 1001 rfl rfl Tryz.s22 rfl rfl) rfl ?_
        refine Zf (Zbw rfl rfl rfl) rfl ?_
        refine Zd (ρ' := [(3, _), (6, _), (11, _), (14, _), (15, _), (99, _)]) ⟨rfl, rfl, rfl, rfl, rfl, rfl, trivial⟩ ?_
        refine Zb ?_
        refine Zn rfl (fun hb23 => ?_) (fun hb23 => ?_)
        ·
         refine Zc (Za (Zf (Zj rfl Tryz.k36 rfl rfl rfl (vs := [_, _, _]) rfl rfl rfl) rfl ?_))
         refine Zq rfl rfl ?_
         refine Zt trivial rfl Tryz.k36 rfl rfl rfl (vs := [_, _, _]) rfl rfl (by simp only [List.all_cons, List.all_nil, ho, ho2]; rfl) (Nat.le_of_ble_eq_true rfl) rfl ?_
         refine ya rfl rfl (ya rfl rfl (Zd (ρ' := [(6, _), (7, _), (8, _)]) ⟨rfl, rfl, rfl, trivial⟩ ?_))
         refine Zb (Zv (Zh ?_))
         refine finO3 [1000, 1001] (.cell rfl rfl Tryz.k36 (cs := _) (vs := [_, _, _]) rfl rfl rfl) (.tmp rfl) (.tmp rfl) rfl rfl ?_
         first
         | exact ⟨_, vc, vp, cs, ps, 0, _, rfl, rfl, ho, ho2, hcs, hps, Nat.zero_le _⟩
         | exact ⟨_, vc, vp, cs, ps, t, _, rfl, rfl, ho, ho2, hcs, hps, ht2⟩
         | exact ⟨_, vc2, vp, cs2, ps, t, _, rfl, rfl, o2, ho2, hcs2, hps, ht2⟩
         | (refine ⟨_, vc, _, cs, ps ++ [(nm, v7)], t7, _, rfl, ?_, ho, rfl, hcs, ?_, ht7⟩
            ·
             rw [prsRow, List.length_append, pairsC_append]; rfl
            ·
             have := of_decide_eq_false hb23; rw [List.length_append]; simp; omega)
        ·
         refine Zs (Zb (Zc (Za (Zf (Zi rfl Tryz.f36' rfl (by decide) rfl) rfl ?_))))
         refine Zf (Zj rfl Tryz.k22 rfl rfl rfl (vs := [_]) rfl rfl rfl) rfl ?_
         refine ym rfl rfl (ym rfl rfl (Zf (Zbe rfl Tryz.f49' Tryz.z49 (ps := [(_, _), (_, _)]) rfl (vs := [_, _]) rfl) rfl ?_))
         refine Zq rfl rfl ?_
         refine Zac trivial Tryz.s22 Tryz.z49 (ps := [(_, _)]) rfl (xs := [_, _]) rfl rfl rfl rfl rfl rfl rfl ?_
         refine Zq rfl rfl ?_
         refine Zbd 1001 trivial rfl rfl Tryz.s22 Tryz.z49 rfl rfl rfl rfl rfl rfl rfl (by omega) (by omega) rfl rfl ?_
         intro ad9 cap9
         refine Zf (Zi rfl Tryz.f36' rfl (by decide) rfl) rfl ?_
         refine Zq rfl rfl ?_
         refine Zt trivial rfl Tryz.k22 rfl rfl rfl (vs := [_]) rfl rfl (by first | rfl | assumption | simp [Value.oneCell', str]) (Nat.le_of_ble_eq_true rfl) rfl ?_
         refine Zd (ρ' := [(3, _), (6, _), (15, _)]) ⟨rfl, rfl, rfl, trivial⟩ ?_
         refine Zb (Zc (Za (Zf (Zj rfl Tryz.k36 rfl rfl rfl (vs := [_, _, _]) rfl rfl rfl) rfl ?_)))
         refine ym rfl rfl (Zq rfl rfl ?_)
         refine Zt trivial rfl Tryz.k36 rfl rfl rfl (vs := [_, _, _]) rfl rfl (by simp only [List.all_cons, List.all_nil, ho, ho2]; rfl) (Nat.le_of_ble_eq_true rfl) rfl ?_
         refine ya rfl rfl (ya rfl rfl (Zd (ρ' := [(6, _), (7, _), (8, _)]) ⟨rfl, rfl, rfl, trivial⟩ ?_))
         refine Zb (Zv ?_)
         refine finO3 [1000, 1001] (.cell rfl rfl Tryz.k36 (cs := _) (vs := [_, _, _]) rfl rfl rfl) (.tmp rfl) (.tmp rfl) rfl rfl ?_
         first
         | exact ⟨_, vc, vp, cs, ps, 0, _, rfl, rfl, ho, ho2, hcs, hps, Nat.zero_le _⟩
         | exact ⟨_, vc, vp, cs, ps, t, _, rfl, rfl, ho, ho2, hcs, hps, ht2⟩
         | exact ⟨_, vc2, vp, cs2, ps, t, _, rfl, rfl, o2, ho2, hcs2, hps, ht2⟩
         | (refine ⟨_, vc, _, cs, ps ++ [(nm, v7)], t7, _, rfl, ?_, ho, rfl, hcs, ?_, ht7⟩
            ·
             rw [prsRow, List.length_append, pairsC_append]; rfl
            ·
             have := of_decide_eq_false hb23; rw [List.length_append]; simp; omega)
def inB (k : Int) (l : List Int) : Bool := decide (k ∈ l)
theorem in4_fn (k : Int) (v : Value) (l : List Int) (hl : l.length ≤ 1000) (u : View) (h : IsSl u v l.length 1 (intsC l)) : FnP Tryz.prog 111 [.int .i64 k, v] u fun r _ => r = .bool (inB k l) := by
 obtain ⟨ad, cap, rfl, h1⟩ := h
 refine FnP.intro [.tmp 4] Tryz.func111 rfl rfl rfl ?_
 intro w0 D hw0
 refine Zc (Za (ya rfl rfl (Zd (ρ' := [(0, _), (1, _)]) ⟨rfl, rfl, trivial⟩ ?_)))
 refine Zb (Zc (Zc (Za (ya rfl rfl (Zd (ρ' := [(0, _), (1, _), (5, _)]) ⟨rfl, rfl, rfl, trivial⟩ ?_)))))
 refine Zb (Zaa ?_)
 refine Zau (fun m ρ σ u' => ∃ i : Nat, i + m = l.length ∧ VLe u u' ∧ σ = [] ∧ ρ = [(0, .v (.int .i64 k)), (1, .v (.slice ad l.length cap)), (5, .v (.int .i64 i))] ∧ (u = u' ∧ k ∉ l.take i)) (l.length) ?_ ?_
 ·
  refine ⟨[(0, _), (1, _), (5, _)], [], ⟨rfl, rfl, rfl, trivial⟩, trivial, 0, by omega, VLe.refl _, (by first | rfl | simp), (by first | rfl | (simp only [List.cons.injEq, Prod.mk.injEq, SV.v.injEq, Value.int.injEq, true_and, and_true]; omega) | simp), ?_⟩
  exact ⟨rfl, by simp⟩
 ·
  rintro m ρ σ u' ⟨i, hi2, hle2, rfl, rfl, ⟨rfl, hinv⟩⟩
  refine Zc (Zc (Za (ym rfl rfl (ym rfl rfl (Zf (Zal rfl rfl Tryz.s143 rfl) rfl ?_)))))
  refine Zf (Zbh rfl rfl rfl) rfl ?_
  refine Zd (ρ' := [(0, _), (1, _), (5, _), (9, _)]) ⟨rfl, rfl, rfl, rfl, trivial⟩ ?_
  refine Zb ?_
  refine Zn rfl (fun hb2 => ?_) (fun hb2 => ?_)
  ·
   have hlt : i < l.length := by have := of_decide_eq_true hb2; omega
   have hcc := cut_intsC (List.getElem?_eq_getElem hlt)
   refine Zs (Zb (Zc (Zaa (Zc (Za (ym rfl rfl (ym rfl rfl (Zf (Zai rfl Tryz.s143 rfl rfl (by assumption) (by first | rfl | omega) (by omega)) rfl ?_))))))))
   refine Zf (Zag rfl Tryz.k3 rfl (by assumption) (by omega) (by assumption) (vs := [_]) rfl rfl rfl rfl) rfl ?_
   refine ym rfl rfl (Zf (Zay rfl rfl rfl) rfl ?_)
   refine Zd (ρ' := [(0, _), (1, _), (5, _), (17, _)]) ⟨rfl, rfl, rfl, rfl, trivial⟩ ?_
   refine Zb ?_
   refine Zn rfl (fun hb4 => ?_) (fun hb4 => ?_)
   ·
    refine Zc (Za (ya rfl rfl (Zd (ρ' := [(4, _)]) ⟨rfl, trivial⟩ ?_)))
    refine Zb (Zv (Zr (Zh (Zh (Zr (Zh ?_))))))
    refine Zav (.tmp rfl) ?_
    have h4 := of_decide_eq_true hb4
    unfold inB
    rw [decide_eq_true]
    rw [← h4]; exact List.getElem_mem hlt
   ·
    refine Zs (Zaf (Zb (Za (ym rfl rfl (Zf (Zas rfl rfl rfl (Zu (by omega))) rfl ?_)))))
    refine ya rfl rfl (Zd (ρ' := [(0, _), (1, _), (5, _)]) ⟨rfl, rfl, rfl, trivial⟩ ?_)
    refine Zae ?_
    refine ⟨m - 1, [(0, _), (1, _), (5, _)], [], by omega, ⟨rfl, rfl, rfl, trivial⟩, trivial, i + 1, by omega, hle2, (by first | rfl | simp), (by first | rfl | (simp only [List.cons.injEq, Prod.mk.injEq, SV.v.injEq, Value.int.injEq, true_and, and_true]; omega) | simp), ?_⟩
    have h4 := of_decide_eq_false hb4
    refine ⟨rfl, fun hm => ?_⟩
    rw [List.take_succ_eq_append_getElem hlt] at hm
    rcases List.mem_append.1 hm with hm | hm
    ·
     exact hinv hm
    ·
     exact h4 (List.mem_singleton.1 hm).symm
  ·
   have hge := of_decide_eq_false hb2
   rw [List.take_of_length_le (by omega)] at hinv
   refine Zat ?_
   refine Zp (Zp ?_)
   refine Zah ?_
   refine Zb (Zc (Za (ya rfl rfl (Zd (ρ' := [(4, _)]) ⟨rfl, trivial⟩ ?_))))
   refine Zb (Zv ?_)
   refine Zav (.tmp rfl) ?_
   unfold inB; rw [decide_eq_false hinv]
def noA (a : DAttr) : Bool := decide (a.id = []) && decide ((a.classes.length : Int) = 0) && decide ((a.pairs.length : Int) = 0)
theorem noAttr_fn (a : DAttr) (vc vp : Value) (u : View) (h1 : StrS u vc a.classes) (h2 : PrS u vp a.pairs) : FnP Tryz.prog 112 [.agg #[str a.id, vc, vp]] u fun r _ => r = .bool (noA a) := by
 obtain ⟨ad, cap, rfl, h1⟩ := h1
 obtain ⟨ad2, cap2, rfl, h2⟩ := h2
 refine FnP.intro [.tmp 2] Tryz.func112 rfl rfl rfl ?_
 intro w0 D hw0
 refine Zc (Za (Zq rfl rfl ?_))
 refine Zbl trivial rfl (cs := [_, _, _]) rfl rfl rfl rfl ?_
 refine ya rfl rfl (Zd (ρ' := [(1, _)]) ⟨rfl, trivial⟩ ?_)
 refine Zb (Zc (Za (Zf (Zi rfl Tryz.f36' rfl (by decide) rfl) rfl ?_)))
 refine Zf (Zj rfl Tryz.k9 rfl rfl rfl (vs := [_]) rfl rfl rfl) rfl ?_
 refine Zf (Zbg rfl rfl rfl) rfl ?_
 refine ym rfl rfl ?_
 refine Zad 6 rfl (fun hg1_3 => ?_) (fun hg1_3 => ?_)
 ·
  refine Zk rfl rfl (Zf (Zi rfl Tryz.f36' rfl (by decide) rfl) rfl ?_)
  refine Zk rfl rfl (Zf (Zj rfl Tryz.k34 rfl rfl rfl (vs := [_]) rfl rfl rfl) rfl ?_)
  refine Zk rfl rfl (Zf (Zal rfl rfl Tryz.s34 rfl) rfl ?_)
  refine Zk rfl rfl (Zf (Zay rfl rfl rfl) rfl ?_)
  refine Zf (Zl rfl rfl rfl) rfl (ym rfl rfl ?_)
  refine Zad 12 rfl (fun hg1_9 => ?_) (fun hg1_9 => ?_)
  ·
   refine Zk rfl rfl (Zf (Zi rfl Tryz.f36' rfl (by decide) rfl) rfl ?_)
   refine Zk rfl rfl (Zf (Zj rfl Tryz.k22 rfl rfl rfl (vs := [_]) rfl rfl rfl) rfl ?_)
   refine Zk rfl rfl (Zf (Zal rfl rfl Tryz.s22 rfl) rfl ?_)
   refine Zk rfl rfl (Zf (Zay rfl rfl rfl) rfl ?_)
   refine Zf (Zl rfl rfl rfl) rfl (ya rfl rfl (Zd (ρ' := [(2, _)]) ⟨rfl, trivial⟩ ?_))
   refine Zb (Zv ?_)
   refine Zav (.tmp rfl) ?_
   unfold noA; simp_all
  ·
   iterate 4 refine Zo rfl rfl rfl rfl ?_
   refine Zf (Zm rfl rfl rfl) rfl (ya rfl rfl (Zd (ρ' := [(2, _)]) ⟨rfl, trivial⟩ ?_))
   refine Zb (Zv ?_)
   refine Zav (.tmp rfl) ?_
   unfold noA; simp_all
 ·
  iterate 4 refine Zo rfl rfl rfl rfl ?_
  refine Zf (Zm rfl rfl rfl) rfl (ym rfl rfl ?_)
  iterate 4 refine Zo rfl rfl rfl rfl ?_
  refine Zf (Zm rfl rfl rfl) rfl (ya rfl rfl (Zd (ρ' := [(2, _)]) ⟨rfl, trivial⟩ ?_))
  refine Zb (Zv ?_)
  refine Zav (.tmp rfl) ?_
  unfold noA; simp_all
theorem reference_fn (k : Int) (u : View) : FnP Tryz.prog 149 [.int .i64 k] u fun r _ => ∃ b, r = .bool b := by
 refine FnP.intro [.tmp 2] Tryz.func149 rfl rfl rfl ?_
 intro w0 D hw0
 refine Zc (Za (ya rfl rfl (Zd (ρ' := [(0, _)]) ⟨rfl, trivial⟩ ?_)))
 refine Zb (Zc (Za (ym rfl rfl (Zq rfl rfl ?_))))
 refine Zac trivial Tryz.s143 Tryz.z3 (ps := [(_, _), (_, _), (_, _), (_, _), (_, _)]) rfl (xs := [_, _, _, _, _]) rfl rfl rfl rfl rfl rfl rfl ?_
 refine Zq rfl rfl ?_
 refine Zcb (caps := []) 4 trivial rfl rfl Tryz.c111 rfl ?_
 intro adb capb ub hleb hslb
 refine ⟨_, rfl, FnP.mono (in4_fn k _ [9, 16, 12, 14, 13] (by decide) ub ⟨_, _, rfl, hslb⟩) ?_⟩
 rintro v u1 hle1 rfl
 refine ya rfl rfl (Zd (ρ' := [(2, _)]) ⟨rfl, trivial⟩ ?_)
 refine Zb (Zv ?_)
 refine Zav (.tmp rfl) ?_
 exact ⟨_, rfl⟩
theorem khas_fn (s b : Bs) (hs : s.length ≤ 10000000) (hb : b.length ≤ 100) (u : View) : FnP Tryz.prog 135 [str s, str b] u fun r _ => ∃ x, r = .bool x := by
 refine FnP.intro [.tmp 4] Tryz.func135 rfl rfl rfl ?_
 intro w0 D hw0
 refine Zc (Za (ya rfl rfl (Zd (ρ' := [(0, _), (1, _)]) ⟨rfl, rfl, trivial⟩ ?_)))
 refine Zb (Zc (Zc (Za (ya rfl rfl (Zd (ρ' := [(0, _), (1, _), (5, _)]) ⟨rfl, rfl, rfl, trivial⟩ ?_)))))
 refine Zb (Zaa ?_)
 refine Zau (fun m ρ σ u' => ∃ i : Nat, i + m = s.length ∧ VLe u u' ∧ σ = [] ∧ ρ = [(0, .v (str s)), (1, .v (str b)), (5, .v (.int .i64 i))] ∧ (u = u')) (s.length) ?_ ?_
 ·
  refine ⟨[(0, _), (1, _), (5, _)], [], ⟨rfl, rfl, rfl, trivial⟩, trivial, 0, by omega, VLe.refl _, (by first | rfl | simp), (by first | rfl | (simp only [List.cons.injEq, Prod.mk.injEq, SV.v.injEq, Value.int.injEq, true_and, and_true]; omega) | simp), ?_⟩
  rfl
 ·
  rintro m ρ σ u' ⟨i, hi2, hle2, rfl, rfl, rfl⟩
  refine Zc (Zc (Za (ym rfl rfl (ym rfl rfl (Zf (Zan rfl rfl Tryz.str9 rfl) rfl ?_)))))
  refine Zf (Zbh rfl rfl rfl) rfl ?_
  refine Zd (ρ' := [(0, _), (1, _), (5, _), (10, _)]) ⟨rfl, rfl, rfl, rfl, trivial⟩ ?_
  refine Zb ?_
  refine Zn rfl (fun hb2 => ?_) (fun hb2 => ?_)
  ·
   have hlt : i < s.length := by have := of_decide_eq_true hb2; omega
   obtain ⟨c, hc, hc2⟩ := byte_at hlt
   refine Zs (Zb (Zc (Zaa (Zc (Za (ya rfl rfl (Zd (ρ' := [(0, _), (1, _), (5, _), (6, _)]) ⟨rfl, rfl, rfl, rfl, trivial⟩ ?_)))))))
   refine Zb (Zaa ?_)
   refine Zau (fun m ρ σ u' => ∃ j : Nat, j + m = b.length ∧ VLe u u' ∧ σ = [] ∧ ρ = [(0, .v (str s)), (1, .v (str b)), (5, .v (.int .i64 i)), (6, .v (.int .i64 j))] ∧ (u = u')) (b.length) ?_ ?_
   ·
    refine ⟨[(0, _), (1, _), (5, _), (6, _)], [], ⟨rfl, rfl, rfl, rfl, trivial⟩, trivial, 0, by omega, VLe.refl _, (by first | rfl | simp), (by first | rfl | (simp only [List.cons.injEq, Prod.mk.injEq, SV.v.injEq, Value.int.injEq, true_and, and_true]; omega) | simp), ?_⟩
    rfl
   ·
    rintro mj ρ σ u' ⟨j, hi5, hle5, rfl, rfl, rfl⟩
    refine Zc (Zc (Za (ym rfl rfl (ym rfl rfl (Zf (Zan rfl rfl Tryz.str9 rfl) rfl ?_)))))
    refine Zf (Zbh rfl rfl rfl) rfl ?_
    refine Zd (ρ' := [(0, _), (1, _), (5, _), (6, _), (16, _)]) ⟨rfl, rfl, rfl, rfl, rfl, trivial⟩ ?_
    refine Zb ?_
    refine Zn rfl (fun hb5 => ?_) (fun hb5 => ?_)
    ·
     have hlt2 : j < b.length := by have := of_decide_eq_true hb5; omega
     obtain ⟨c2, hc3, hc4⟩ := byte_at hlt2
     refine Zs (Zb (Zc (Zaa (Zc ?_))))
     refine Zbu Tryz.mixed rfl [] trivial ?_
     refine ra_y (i := 0) rfl (by kernel_rfl) (by kernel_rfl) (by kernel_rfl) (Ze (Zg (Ze (Ze (Zg (Zg (Ze (Ze (Zg (Ze (Zam))))))))))) (Zbj rfl rfl) rfl ?_
     refine ra_y (i := 1) rfl (by kernel_rfl) (by kernel_rfl) (by kernel_rfl) (Ze (Zg (Ze (Ze (Zg (Zg (Ze (Ze (Zg (Ze (Zam))))))))))) (Zbj rfl rfl) rfl ?_
     refine ra_y (i := 2) rfl (by kernel_rfl) (by kernel_rfl) (by kernel_rfl) (Ze (Zg (Ze (Ze (Zg (Zg (Ze (Ze (Zg (Ze (Zam))))))))))) (Zao rfl Tryz.str9 rfl rfl (j := i) rfl hc) rfl ?_
     refine ra_y (i := 3) rfl (by kernel_rfl) (by kernel_rfl) (by kernel_rfl) (Ze (Zg (Ze (Ze (Zg (Zg (Ze (Ze (Zg (Ze (Zam))))))))))) (Zbj rfl rfl) rfl ?_
     refine ra_y (i := 4) rfl (by kernel_rfl) (by kernel_rfl) (by kernel_rfl) (Ze (Zg (Ze (Ze (Zg (Zg (Ze (Ze (Zg (Ze (Zam))))))))))) (Zbj rfl rfl) rfl ?_
     refine ra_y (i := 5) rfl (by kernel_rfl) (by kernel_rfl) (by kernel_rfl) (Ze (Zg (Ze (Ze (Zg (Zg (Ze (Ze (Zg (Ze (Zam))))))))))) (Zao rfl Tryz.str9 rfl rfl (j := j) rfl hc3) rfl ?_
     refine ra_y (i := 6) rfl (by kernel_rfl) (by kernel_rfl) (by kernel_rfl) (Ze (Zg (Ze (Ze (Zg (Zg (Ze (Ze (Zg (Ze (Zam))))))))))) (Zay rfl rfl rfl) rfl ?_
     refine ra_end (by kernel_rfl) (ρ' := [(0, _), (1, _), (5, _), (6, _), (25, _)]) ⟨rfl, rfl, rfl, rfl, rfl, trivial⟩ ?_
     refine Zb ?_
     refine Zn rfl (fun hb7 => ?_) (fun hb7 => ?_)
     ·
      refine Zc (Za (ya rfl rfl (Zd (ρ' := [(4, _)]) ⟨rfl, trivial⟩ ?_)))
      refine Zb (Zv (Zr (Zh (Zh (Zr (Zr (Zh ?_)))))))
      refine Zh (Zr (Zh ?_))
      refine Zav (.tmp rfl) ?_
      exact ⟨_, rfl⟩
     ·
      refine Zs (Zaf (Zb (Za (ym rfl rfl (Zf (Zas rfl rfl rfl (Zu (by omega))) rfl ?_)))))
      refine ya rfl rfl (Zd (ρ' := [(0, _), (1, _), (5, _), (6, _)]) ⟨rfl, rfl, rfl, rfl, trivial⟩ ?_)
      refine Zae ?_
      refine ⟨mj - 1, [(0, _), (1, _), (5, _), (6, _)], [], by omega, ⟨rfl, rfl, rfl, rfl, trivial⟩, trivial, j + 1, by omega, hle5, (by first | rfl | simp), (by first | rfl | (simp only [List.cons.injEq, Prod.mk.injEq, SV.v.injEq, Value.int.injEq, true_and, and_true]; omega) | simp), ?_⟩
      rfl
    ·
     skip
     refine Zat ?_
     refine Zp (Zp ?_)
     refine Zah ?_
     refine Zaf (Zb (Za (ym rfl rfl (Zf (Zas rfl rfl rfl (Zu (by omega))) rfl ?_))))
     refine ya rfl rfl (Zd (ρ' := [(0, _), (1, _), (5, _)]) ⟨rfl, rfl, rfl, trivial⟩ ?_)
     refine Zae ?_
     refine ⟨m - 1, [(0, _), (1, _), (5, _)], [], by omega, ⟨rfl, rfl, rfl, trivial⟩, trivial, i + 1, by omega, hle2, (by first | rfl | simp), (by first | rfl | (simp only [List.cons.injEq, Prod.mk.injEq, SV.v.injEq, Value.int.injEq, true_and, and_true]; omega) | simp), ?_⟩
     rfl
  ·
   skip
   refine Zat ?_
   refine Zp (Zp ?_)
   refine Zah ?_
   refine Zb (Zc (Za (ya rfl rfl (Zd (ρ' := [(4, _)]) ⟨rfl, trivial⟩ ?_))))
   refine Zb (Zv ?_)
   refine Zav (.tmp rfl) ?_
   exact ⟨_, rfl⟩
theorem body_fn (s : Bs) (hs : s.length ≤ 10000000) (u : View) : FnP Tryz.prog 114 [str s] u fun r _ => ∃ x, r = .bool x := by
 refine FnP.intro [.tmp 2] Tryz.func114 rfl rfl rfl ?_
 intro w0 D hw0
 refine Zc (Za (ya rfl rfl (Zd (ρ' := [(0, _)]) ⟨rfl, trivial⟩ ?_)))
 refine Zb (Zc (Za (ym rfl rfl (Zf (Zbg rfl rfl rfl) rfl ?_))))
 refine ym rfl rfl ?_
 refine Zad 5 rfl (fun hg1_2 => ?_) (fun hg1_2 => ?_)
 ·
  iterate 3 refine Zo rfl rfl rfl rfl ?_
  refine Zab rfl rfl rfl ?_
  refine Zab rfl rfl rfl ?_
  refine Zab rfl rfl rfl ?_
  refine Zab rfl rfl rfl ?_
  refine Zab rfl rfl rfl ?_
  refine Zab rfl rfl rfl ?_
  refine Zo rfl rfl rfl rfl (Zf (Zl rfl rfl rfl) rfl (ya rfl rfl (Zd (ρ' := [(2, _)]) ⟨rfl, trivial⟩ ?_)))
  refine Zb (Zv ?_)
  refine Zav (.tmp rfl) ?_
  exact ⟨_, rfl⟩
 ·
  refine Zk rfl rfl (ym rfl rfl (Zk rfl rfl (Zq rfl rfl ?_)))
  refine Zw (caps := []) trivial rfl rfl Tryz.c68 rfl (FnP.mono (kvalid_fn s (by omega) u) ?_)
  rintro v u1 hle1 ⟨b, rfl⟩
  refine Zk rfl rfl (ym rfl rfl ?_)
  refine Zad 8 rfl (fun hg1_5 => ?_) (fun hg1_5 => ?_)
  ·
   refine Zk rfl rfl (ym rfl rfl (Zk rfl rfl (ym rfl rfl (Zk rfl rfl (Zf (Zan rfl rfl Tryz.str9 rfl) rfl ?_)))))
   have hne : 0 < s.length := by
    rcases Nat.eq_zero_or_pos s.length with h | h
    ·
     exact absurd (List.eq_nil_of_length_eq_zero h) (of_decide_eq_false hg1_2)
    ·
     exact h
   obtain ⟨c, hc, hc2⟩ := byte_at (s := s) (i := s.length - 1) (by omega)
   refine Zk rfl rfl (Zf (y_sub rfl rfl rfl (Zu (by omega))) rfl ?_)
   refine Zk rfl rfl (Zf (Zao rfl Tryz.str9 rfl rfl (j := s.length - 1) (by omega) hc) rfl ?_)
   refine Zk rfl rfl (Zf (Zay rfl rfl rfl) rfl ?_)
   refine Zk rfl rfl (Zf (Zl rfl rfl rfl) rfl (Zf (Zm rfl rfl rfl) rfl (ya rfl rfl (Zd (ρ' := [(2, _)]) ⟨rfl, trivial⟩ ?_))))
   refine Zb (Zv ?_)
   refine Zav (.tmp rfl) ?_
   exact ⟨_, rfl⟩
  ·
   iterate 6 refine Zo rfl rfl rfl rfl ?_
   refine Zk rfl rfl (Zf (Zm rfl rfl rfl) rfl (Zf (Zm rfl rfl rfl) rfl (ya rfl rfl (Zd (ρ' := [(2, _)]) ⟨rfl, trivial⟩ ?_))))
   refine Zb (Zv ?_)
   refine Zav (.tmp rfl) ?_
   exact ⟨_, rfl⟩
theorem trimmed4_fn (s : Bs) (hs : s.length ≤ 10000000) (u : View) : FnP Tryz.prog 30 [str s] u fun r _ => ∃ x, r = .bool x := by
 refine FnP.intro [.tmp 2] Tryz.func30 rfl rfl rfl ?_
 intro w0 D hw0
 refine Zc (Za (ya rfl rfl (Zd (ρ' := [(0, _)]) ⟨rfl, trivial⟩ ?_)))
 refine Zb (Zc (Za (ym rfl rfl (Zf (Zbg rfl rfl rfl) rfl ?_))))
 refine ym rfl rfl ?_
 refine Zad 5 rfl (fun hg1_2 => ?_) (fun hg1_2 => ?_)
 ·
  iterate 4 refine Zo rfl rfl rfl rfl ?_
  refine Zab rfl rfl rfl ?_
  refine Zab rfl rfl rfl ?_
  refine Zab rfl rfl rfl ?_
  refine Zab rfl rfl rfl ?_
  refine Zab rfl rfl rfl ?_
  refine Zab rfl rfl rfl ?_
  refine Zo rfl rfl rfl rfl (Zf (Zl rfl rfl rfl) rfl (ya rfl rfl (Zd (ρ' := [(2, _)]) ⟨rfl, trivial⟩ ?_)))
  refine Zb (Zv ?_)
  refine Zav (.tmp rfl) ?_
  exact ⟨_, rfl⟩
 ·
  refine Zk rfl rfl (ym rfl rfl ?_)
  have hne : 0 < s.length := by
   rcases Nat.eq_zero_or_pos s.length with h | h
   ·
    exact absurd (List.eq_nil_of_length_eq_zero h) (of_decide_eq_false hg1_2)
   ·
    exact h
  obtain ⟨c, hc, hc2⟩ := byte_at (s := s) (i := s.length - 1) (by omega)
  obtain ⟨c0, hc0, hc02⟩ := byte_at (s := s) (i := 0) (by omega)
  refine Zk rfl rfl (Zf (Zao rfl Tryz.str9 rfl rfl (j := 0) rfl hc0) rfl ?_)
  refine Zk rfl rfl (Zf (Zcc rfl rfl rfl) rfl ?_)
  refine Zk rfl rfl (ym rfl rfl ?_)
  refine Zad 9 rfl (fun hg1_6 => ?_) (fun hg1_6 => ?_)
  ·
   refine Zk rfl rfl (ym rfl rfl (Zk rfl rfl (ym rfl rfl (Zk rfl rfl (Zf (Zan rfl rfl Tryz.str9 rfl) rfl ?_)))))
   refine Zk rfl rfl (Zf (y_sub rfl rfl rfl (Zu (by omega))) rfl ?_)
   refine Zk rfl rfl (Zf (Zao rfl Tryz.str9 rfl rfl (j := s.length - 1) (by omega) hc) rfl ?_)
   refine Zk rfl rfl (Zf (Zcc rfl rfl rfl) rfl ?_)
   refine Zk rfl rfl (Zf (Zl rfl rfl rfl) rfl (Zf (Zm rfl rfl rfl) rfl (ya rfl rfl (Zd (ρ' := [(2, _)]) ⟨rfl, trivial⟩ ?_))))
   refine Zb (Zv ?_)
   refine Zav (.tmp rfl) ?_
   exact ⟨_, rfl⟩
  ·
   iterate 6 refine Zo rfl rfl rfl rfl ?_
   refine Zk rfl rfl (Zf (Zm rfl rfl rfl) rfl (Zf (Zm rfl rfl rfl) rfl (ya rfl rfl (Zd (ρ' := [(2, _)]) ⟨rfl, trivial⟩ ?_))))
   refine Zb (Zv ?_)
   refine Zav (.tmp rfl) ?_
   exact ⟨_, rfl⟩
set_option maxHeartbeats 1000000 in
theorem parse_fn (s : Bs) (i : Nat) (hi : i ≤ s.length) (hs : s.length ≤ 1000000) (u : View) : FnP Tryz.prog 151 [str s, .int .i64 i] u fun r _ => ∃ (id : Bs) (vc vp : Value) (t : Nat) (e : Int), r = .tuple #[.agg #[str id, vc, vp], .int .i64 t, .int .i64 e] ∧ Value.oneCell' vc = true ∧ Value.oneCell' vp = true ∧ t ≤ s.length + 1 := by
 refine FnP.intro [.cell 4 36, .tmp 5, .tmp 6] Tryz.func151 rfl rfl rfl ?_
 intro w0 D hw0
 refine Zc (Za (Zq rfl rfl ?_))
 refine Zax trivial Tryz.z36 rfl rfl rfl ?_
 refine ya rfl rfl (ya rfl rfl (Zd (ρ' := [(0, _), (1, _), (4, _)]) ⟨rfl, rfl, rfl, trivial⟩ ?_))
 refine Zb (Zc (Zc (Za ?_)))
 refine Zbc 14 27 (fun b => b = false → i < s.length) (ρk := [(0, _), (1, _), (4, _)]) ⟨rfl, rfl, rfl, trivial⟩ ?_ fun mb1_13 hm1_13 => ?_
 ·
  refine ym rfl rfl (Zf (Zbh rfl rfl rfl) rfl ?_)
  refine ym rfl rfl ?_
  refine Zad 16 rfl (fun hg1_2 => ?_) (fun hg1_2 => ?_)
  ·
   iterate 4 refine Zo rfl rfl rfl rfl ?_
   refine Zf (Zl rfl rfl rfl) rfl (ym rfl rfl ?_)
   iterate 4 refine Zo rfl rfl rfl rfl ?_
   refine Zf (Zl rfl rfl rfl) rfl ?_
   exact Zx rfl ⟨rfl, rfl, rfl, trivial⟩ (by (first | exact fun _ => hlt | exact fun h => absurd h (by decide)))
  ·
   refine Zk rfl rfl (ym rfl rfl (Zk rfl rfl (ym rfl rfl (Zk rfl rfl (Zf (Zan rfl rfl Tryz.str9 rfl) rfl ?_)))))
   refine Zk rfl rfl (Zf (Zbw rfl rfl rfl) rfl ?_)
   refine Zf (Zm rfl rfl rfl) rfl (ym rfl rfl ?_)
   refine Zad 22 rfl (fun hg1_8 => ?_) (fun hg1_8 => ?_)
   ·
    iterate 4 refine Zo rfl rfl rfl rfl ?_
    refine Zf (Zl rfl rfl rfl) rfl ?_
    exact Zx rfl ⟨rfl, rfl, rfl, trivial⟩ (by (first | exact fun _ => hlt | exact fun h => absurd h (by decide)))
   ·
    refine Zk rfl rfl (ym rfl rfl ?_)
    have hlt : i < s.length := by simp only [decide_eq_true_eq, decide_eq_false_iff_not] at *; omega
    obtain ⟨c, hc, hc2⟩ := byte_at hlt
    refine Zk rfl rfl (ym rfl rfl (Zk rfl rfl (Zf (Zao rfl Tryz.str9 rfl rfl (j := i) rfl hc) rfl ?_)))
    refine Zk rfl rfl (Zf (Zcc rfl rfl rfl) rfl ?_)
    refine Zf (Zm rfl rfl rfl) rfl ?_
    exact Zx rfl ⟨rfl, rfl, rfl, trivial⟩ (by (first | exact fun _ => hlt | exact fun h => absurd h (by decide)))
 refine Zd (ρ' := [(0, _), (1, _), (4, _), (27, _)]) ⟨rfl, rfl, rfl, rfl, trivial⟩ ?_
 refine Zb ?_
 refine Zn rfl (fun hb1 => ?_) (fun hb1 => ?_)
 ·
  skip
  refine Zc (Za (Zf (Zbe rfl Tryz.f36' Tryz.z36 (ps := []) rfl (vs := [_, _, _]) rfl) rfl ?_))
  refine Zq rfl rfl ?_
  refine Zt trivial rfl Tryz.k36 rfl rfl rfl (vs := [_, _, _]) rfl rfl (by first | rfl | assumption | simp [Value.oneCell', str]) (Nat.le_of_ble_eq_true rfl) rfl ?_
  refine ya rfl rfl (ya rfl rfl (Zd (ρ' := [(4, _), (5, _), (6, _)]) ⟨rfl, rfl, rfl, trivial⟩ ?_))
  refine Zb (Zv (Zh ?_))
  refine fin3 (.cell rfl rfl Tryz.k36 (cs := _) (vs := [_, _, _]) rfl rfl rfl) (.tmp rfl) (.tmp rfl) ?_
  first | exact ⟨_, _, _, 0, _, rfl, rfl, rfl, Nat.zero_le _⟩ | exact ⟨_, vc, vp, p + q + 1, _, rfl, o1, o2, by omega⟩
 ·
  have hlt := hm1_13 hb1
  refine Zs (Zb (Zc (Za (Zq rfl rfl ?_))))
  refine Zax trivial Tryz.z36 rfl rfl rfl ?_
  refine rl_nilW 600 9 1 rfl rfl ?_
  refine rl_nilW 601 49 2 rfl rfl ?_
  refine Zd (ρ' := [(0, _), (1, _), (4, _), (7, _)]) ⟨rfl, rfl, rfl, rfl, trivial⟩ ?_
  refine Zb (Zc (Za (ym rfl rfl (Zf (Zas rfl rfl rfl (Zu (by omega))) rfl ?_))))
  refine ya rfl rfl (Zd (ρ' := [(0, _), (4, _), (7, _), (8, _)]) ⟨rfl, rfl, rfl, rfl, trivial⟩ ?_)
  refine Zb (Zc (Zc (Za (ya rfl rfl (Zd (ρ' := [(0, _), (4, _), (7, _), (8, _), (9, _)]) ⟨rfl, rfl, rfl, rfl, rfl, trivial⟩ ?_)))))
  refine Zb (Zaa ?_)
  refine Zau (fun m ρ σ u' => ∃ n : Nat, n + m = s.length + 1 ∧ VLe u u' ∧ ∃ (p : Nat) (id : Bs) (vc vp : Value) (cs : List Bs) (ps : List (Bs × Bs)), σ = [(4, (none, .box [str [], .slice none 0 0, .slice none 0 0])), (7, (none, .box [str id, vc, vp])), (600, clsRow vc cs), (601, prsRow vp ps)] ∧ ρ = [(0, .v (str s)), (4, .p 4 0), (7, .p 7 0), (8, .v (.int .i64 (p : Nat))), (9, .v (.int .i64 n))] ∧ (p ≤ s.length ∧ Value.oneCell' vc = true ∧ Value.oneCell' vp = true ∧ cs.length ≤ 40 ∧ ps.length ≤ 40)) (s.length + 1) ?_ ?_
  ·
   refine ⟨[(0, _), (4, _), (7, _), (8, _), (9, _)], [(4, _), (7, _), (600, _), (601, _)], ⟨rfl, rfl, rfl, rfl, rfl, trivial⟩, ⟨rfl, rfl, rfl, rfl, trivial⟩, 0, by omega, VLe.refl _, i + 1, [], .slice none 0 0, .slice none 0 0, [], [], rfl, rfl, ?_⟩
   exact ⟨hlt, rfl, rfl, by simp, by simp⟩
  ·
   rintro mn ρ σ uo ⟨n, hi6, hle6, p, id, vc, vp, cs, ps, rfl, rfl, hp, o1, o2, hcs, hps⟩
   refine Zc (Zc (Za (ym rfl rfl (ym rfl rfl (Zf (Zan rfl rfl Tryz.str9 rfl) rfl ?_)))))
   refine Zf (y_leq rfl rfl rfl) rfl ?_
   refine Zd (ρ' := [(0, _), (4, _), (7, _), (8, _), (9, _), (34, _)]) ⟨rfl, rfl, rfl, rfl, rfl, rfl, trivial⟩ ?_
   refine Zb ?_
   refine Zn rfl (fun hb6 => ?_) (fun hb6 => ?_)
   ·
    have hn6 := of_decide_eq_true hb6
    refine Zs (Zb (Zc (Zaa (Zc (Za (ym rfl rfl (ya rfl rfl (Zd (ρ' := [(0, _), (4, _), (7, _), (8, _), (9, _), (10, _)]) ⟨rfl, rfl, rfl, rfl, rfl, rfl, trivial⟩ ?_))))))))
    refine Zb (Zc (Zaa ?_))
    refine Zau (fun m ρ σ u' => ∃ q : Nat, q + m = s.length - p ∧ VLe uo u' ∧ σ = [(4, (none, .box [str [], .slice none 0 0, .slice none 0 0])), (7, (none, .box [str id, vc, vp])), (600, clsRow vc cs), (601, prsRow vp ps)] ∧ ρ = [(0, .v (str s)), (4, .p 4 0), (7, .p 7 0), (8, .v (.int .i64 (p : Nat))), (9, .v (.int .i64 n)), (10, .v (.int .i64 ((p + q : Nat) : Int)))] ∧ (uo = u')) (s.length - p) ?_ ?_
    ·
     refine ⟨[(0, _), (4, _), (7, _), (8, _), (9, _), (10, _)], [(4, _), (7, _), (600, _), (601, _)], ⟨rfl, rfl, rfl, rfl, rfl, rfl, trivial⟩, ⟨rfl, rfl, rfl, rfl, trivial⟩, 0, by omega, VLe.refl _, rfl, rfl, ?_⟩
     rfl
    ·
     rintro mq ρ σ u' ⟨q, hi9, hle9, rfl, rfl, rfl⟩
     refine Zc (Zc (Za ?_))
     refine Zbc 10 47 (fun b => b = true → p + q < s.length) (ρk := [(0, _), (4, _), (7, _), (8, _), (9, _), (10, _)]) ⟨rfl, rfl, rfl, rfl, rfl, rfl, trivial⟩ ?_ fun mb9_9 hm9_9 => ?_
     ·
      refine ym rfl rfl (ym rfl rfl (Zf (Zan rfl rfl Tryz.str9 rfl) rfl ?_))
      refine Zf (Zbh rfl rfl rfl) rfl ?_
      refine ym rfl rfl ?_
      refine Zad 42 rfl (fun hg9_4 => ?_) (fun hg9_4 => ?_)
      ·
       refine Zk rfl rfl (ym rfl rfl ?_)
       have hlt9 : p + q < s.length := by have := of_decide_eq_true hg9_4; omega
       obtain ⟨c9, hc9, _⟩ := byte_at hlt9
       refine Zk rfl rfl (ym rfl rfl (Zk rfl rfl (Zf (Zao rfl Tryz.str9 rfl rfl (j := p + q) rfl hc9) rfl ?_)))
       refine Zk rfl rfl (Zf (Zay rfl rfl rfl) rfl ?_)
       refine Zf (Zl rfl rfl rfl) rfl ?_
       exact Zx rfl ⟨rfl, rfl, rfl, rfl, rfl, rfl, trivial⟩ (by (first | exact fun _ => hlt9 | exact fun h => absurd h (by decide)))
      ·
       iterate 4 refine Zo rfl rfl rfl rfl ?_
       refine Zf (Zm rfl rfl rfl) rfl ?_
       exact Zx rfl ⟨rfl, rfl, rfl, rfl, rfl, rfl, trivial⟩ (by (first | exact fun _ => hlt9 | exact fun h => absurd h (by decide)))
     refine Zd (ρ' := [(0, _), (4, _), (7, _), (8, _), (9, _), (10, _), (47, _)]) ⟨rfl, rfl, rfl, rfl, rfl, rfl, rfl, trivial⟩ ?_
     refine Zb ?_
     refine Zn rfl (fun hb9 => ?_) (fun hb9 => ?_)
     ·
      have hlt9 := hm9_9 hb9
      refine Zs (Zb (Zaa (Za (ym rfl rfl (Zf (Zas rfl rfl rfl (Zu (by omega))) rfl ?_)))))
      refine ya rfl rfl (Zd (ρ' := [(0, _), (4, _), (7, _), (8, _), (9, _), (10, _)]) ⟨rfl, rfl, rfl, rfl, rfl, rfl, trivial⟩ ?_)
      refine Zaf (Zae ?_)
      refine ⟨mq - 1, [(0, _), (4, _), (7, _), (8, _), (9, _), (10, _)], [(4, _), (7, _), (600, _), (601, _)], by omega, ⟨rfl, rfl, rfl, rfl, rfl, rfl, trivial⟩, ⟨rfl, rfl, rfl, rfl, trivial⟩, q + 1, by omega, hle9, (by first | rfl | simp), (by first | rfl | (simp only [List.cons.injEq, Prod.mk.injEq, SV.v.injEq, Value.int.injEq, true_and, and_true]; omega) | simp), ?_⟩
      rfl
     ·
      skip
      refine Zat ?_
      refine Zp (Zp ?_)
      refine Zah ?_
      refine Zb (Zc (Zc (Za ?_)))
      refine Zbc 10 59 (fun b => b = true → p + q < s.length) (ρk := [(0, _), (4, _), (7, _), (8, _), (9, _), (10, _)]) ⟨rfl, rfl, rfl, rfl, rfl, rfl, trivial⟩ ?_ fun mb11_9 hm11_9 => ?_
      ·
       refine ym rfl rfl (ym rfl rfl (Zf (Zan rfl rfl Tryz.str9 rfl) rfl ?_))
       refine Zf (Zbh rfl rfl rfl) rfl ?_
       refine ym rfl rfl ?_
       refine Zad 54 rfl (fun hg11_4 => ?_) (fun hg11_4 => ?_)
       ·
        refine Zk rfl rfl (ym rfl rfl ?_)
        have hlt11 : p + q < s.length := by have := of_decide_eq_true hg11_4; omega
        obtain ⟨c11, hc11, _⟩ := byte_at hlt11
        refine Zk rfl rfl (ym rfl rfl (Zk rfl rfl (Zf (Zao rfl Tryz.str9 rfl rfl (j := p + q) rfl hc11) rfl ?_)))
        refine Zk rfl rfl (Zf (Zay rfl rfl rfl) rfl ?_)
        refine Zf (Zl rfl rfl rfl) rfl ?_
        exact Zx rfl ⟨rfl, rfl, rfl, rfl, rfl, rfl, trivial⟩ (by (first | exact fun _ => hlt11 | exact fun h => absurd h (by decide)))
       ·
        iterate 4 refine Zo rfl rfl rfl rfl ?_
        refine Zf (Zm rfl rfl rfl) rfl ?_
        exact Zx rfl ⟨rfl, rfl, rfl, rfl, rfl, rfl, trivial⟩ (by (first | exact fun _ => hlt11 | exact fun h => absurd h (by decide)))
      refine Zd (ρ' := [(0, _), (4, _), (7, _), (8, _), (9, _), (10, _), (59, _)]) ⟨rfl, rfl, rfl, rfl, rfl, rfl, rfl, trivial⟩ ?_
      refine Zb ?_
      refine Zn rfl (fun hb11 => ?_) (fun hb11 => ?_)
      ·
       have hlt11 := hm11_9 hb11
       refine Zc (Za (Zf (Zj rfl Tryz.k36 rfl rfl rfl (vs := [_, _, _]) rfl rfl rfl) rfl ?_))
       refine ym rfl rfl (Zf (Zas rfl rfl rfl (Zu (by omega))) rfl ?_)
       refine Zq rfl rfl ?_
       refine Zt trivial rfl Tryz.k36 rfl rfl rfl (vs := [_, _, _]) rfl rfl (by simp only [List.all_cons, List.all_nil, o1, o2]; rfl) (Nat.le_of_ble_eq_true rfl) rfl ?_
       refine ya rfl rfl (ya rfl rfl (Zd (ρ' := [(4, _), (5, _), (6, _)]) ⟨rfl, rfl, rfl, trivial⟩ ?_))
       refine Zb (Zv (Zh (Zr (Zh (Zh (Zr (Zh ?_)))))))
       refine fin3 (.cell rfl rfl Tryz.k36 (cs := _) (vs := [_, _, _]) rfl rfl rfl) (.tmp rfl) (.tmp rfl) ?_
       first | exact ⟨_, _, _, 0, _, rfl, rfl, rfl, Nat.zero_le _⟩ | exact ⟨_, vc, vp, p + q + 1, _, rfl, o1, o2, by omega⟩
      ·
       skip
       refine Zs (Zb (Zc (Zc (Za ?_))))
       refine Zbc 13 75 (fun b => b = false → p + q < s.length) (ρk := [(0, _), (4, _), (7, _), (9, _), (10, _)]) ⟨rfl, rfl, rfl, rfl, rfl, trivial⟩ ?_ fun mb13_12 hm13_12 => ?_
       ·
        refine ym rfl rfl (ym rfl rfl (Zf (Zan rfl rfl Tryz.str9 rfl) rfl ?_))
        refine Zf (Zbw rfl rfl rfl) rfl ?_
        refine ym rfl rfl ?_
        refine Zad 67 rfl (fun hg13_4 => ?_) (fun hg13_4 => ?_)
        ·
         iterate 3 refine Zo rfl rfl rfl rfl ?_
         refine Zab rfl rfl rfl ?_
         refine Zab rfl rfl rfl ?_
         refine Zab rfl rfl rfl ?_
         refine Zo rfl rfl rfl rfl (Zf (Zl rfl rfl rfl) rfl ?_)
         exact Zx rfl ⟨rfl, rfl, rfl, rfl, rfl, trivial⟩ (by (first | exact fun h => absurd h (by decide) | exact fun _ => (by have := of_decide_eq_false hg13_4; omega)))
        ·
         refine Zk rfl rfl (ym rfl rfl (Zk rfl rfl (Zf (Zcd rfl rfl rfl) rfl ?_)))
         refine Zk rfl rfl (ym rfl rfl ?_)
         refine Zad 70 rfl (fun hg13_7 => ?_) (fun hg13_7 => ?_)
         ·
          refine Zk rfl rfl (ym rfl rfl (Zk rfl rfl (ym rfl rfl (Zk rfl rfl (Zf (Zay rfl rfl rfl) rfl ?_)))))
          refine Zk rfl rfl (Zf (Zl rfl rfl rfl) rfl (Zf (Zm rfl rfl rfl) rfl ?_))
          exact Zx rfl ⟨rfl, rfl, rfl, rfl, rfl, trivial⟩ (by (first | exact fun h => absurd h (by decide) | exact fun _ => (by have := of_decide_eq_false hg13_4; omega)))
         ·
          iterate 3 refine Zo rfl rfl rfl rfl ?_
          refine Zk rfl rfl (Zf (Zm rfl rfl rfl) rfl (Zf (Zm rfl rfl rfl) rfl ?_))
          exact Zx rfl ⟨rfl, rfl, rfl, rfl, rfl, trivial⟩ (by (first | exact fun h => absurd h (by decide) | exact fun _ => (by have := of_decide_eq_false hg13_4; omega)))
       refine Zd (ρ' := [(0, _), (4, _), (7, _), (9, _), (10, _), (75, _)]) ⟨rfl, rfl, rfl, rfl, rfl, rfl, trivial⟩ ?_
       refine Zb ?_
       refine Zn rfl (fun hb13 => ?_) (fun hb13 => ?_)
       ·
        refine Zc (Za (Zf (Zbe rfl Tryz.f36' Tryz.z36 (ps := []) rfl (vs := [_, _, _]) rfl) rfl ?_))
        refine Zq rfl rfl ?_
        refine Zt trivial rfl Tryz.k36 rfl rfl rfl (vs := [_, _, _]) rfl rfl (by first | rfl | assumption | simp [Value.oneCell', str]) (Nat.le_of_ble_eq_true rfl) rfl ?_
        refine ya rfl rfl (ya rfl rfl (Zd (ρ' := [(4, _), (5, _), (6, _)]) ⟨rfl, rfl, rfl, trivial⟩ ?_))
        refine Zb (Zv (Zh (Zr (Zh (Zh (Zr (Zh ?_)))))))
        refine fin3 (.cell rfl rfl Tryz.k36 (cs := _) (vs := [_, _, _]) rfl rfl rfl) (.tmp rfl) (.tmp rfl) ?_
        first | exact ⟨_, _, _, 0, _, rfl, rfl, rfl, Nat.zero_le _⟩ | exact ⟨_, vc, vp, p + q + 1, _, rfl, o1, o2, by omega⟩
       ·
        refine Zs (Zb (Zc (Za ?_)))
        have hlt15 : p + q < s.length := hm13_12 hb13
        refine Zf (Zj rfl Tryz.k36 rfl rfl rfl (vs := [_, _, _]) rfl rfl rfl) rfl ?_
        refine ym rfl rfl (ym rfl rfl (Zq rfl rfl ?_))
        refine Zaz (caps := []) (ρ' := [(0, _), (4, _), (7, _), (9, _)]) [600, 601] [] trivial rfl rfl rfl Tryz.c160 rfl rfl ⟨rfl, rfl, rfl, rfl, trivial⟩ rfl rfl rfl (FnO.mono (item_fn id s (p + q) hlt15 hs vc vp cs ps hcs hps o1 o2 uo) ?_)
        rintro v uI l1 hleI ⟨id2, vc2, vp2, cs2, ps2, t2, e2, rfl, rfl, o3, o4, hcs2, hps2, ht2⟩ -
        refine ⟨⟨fun _ h => h, fun _ h => h, trivial⟩, ?_⟩
        refine ym rfl rfl (Zf (Zbo rfl rfl rfl) rfl ?_)
        refine Zf (Zbo rfl rfl rfl) rfl ?_
        refine Zf (Zbo rfl rfl rfl) rfl ?_
        refine Zq rfl rfl ?_
        refine Zax trivial Tryz.z36 rfl rfl rfl ?_
        refine Zq rfl rfl ?_
        refine Zt trivial rfl Tryz.k36 rfl rfl rfl (vs := [_, _, _]) rfl rfl (by simp only [List.all_cons, List.all_nil, o3, o4]; rfl) (Nat.le_of_ble_eq_true rfl) rfl ?_
        refine ya rfl rfl (ya rfl rfl (Zd (ρ' := [(0, _), (4, _), (7, _), (9, _), (11, _), (12, _), (13, _)]) ⟨rfl, rfl, rfl, rfl, rfl, rfl, rfl, trivial⟩ ?_))
        refine Zb (Zc (Zc (Za (ym rfl rfl (Zf (Zcc rfl rfl rfl) rfl ?_)))))
        refine Zd (ρ' := [(0, _), (4, _), (7, _), (9, _), (11, _), (12, _), (13, _), (86, _)]) ⟨rfl, rfl, rfl, rfl, rfl, rfl, rfl, rfl, trivial⟩ ?_
        refine Zb ?_
        refine Zn rfl (fun hb16 => ?_) (fun hb16 => ?_)
        ·
         refine Zc (Za (Zf (Zbe rfl Tryz.f36' Tryz.z36 (ps := []) rfl (vs := [_, _, _]) rfl) rfl ?_))
         refine ym rfl rfl (Zq rfl rfl ?_)
         refine Zt trivial rfl Tryz.k36 rfl rfl rfl (vs := [_, _, _]) rfl rfl (by first | rfl | assumption | simp [Value.oneCell', str]) (Nat.le_of_ble_eq_true rfl) rfl ?_
         refine ya rfl rfl (ya rfl rfl (Zd (ρ' := [(4, _), (5, _), (6, _)]) ⟨rfl, rfl, rfl, trivial⟩ ?_))
         refine Zb (Zv (Zh (Zr (Zh (Zh (Zr (Zh ?_)))))))
         refine fin3 (.cell rfl rfl Tryz.k36 (cs := _) (vs := [_, _, _]) rfl rfl rfl) (.tmp rfl) (.tmp rfl) ?_
         first | exact ⟨_, _, _, 0, _, rfl, rfl, rfl, Nat.zero_le _⟩ | exact ⟨_, vc, vp, p + q + 1, _, rfl, o1, o2, by omega⟩
        ·
         refine Zs (Zb (Zc (Za (Zf (Zj rfl Tryz.k36 rfl rfl rfl (vs := [_, _, _]) rfl rfl rfl) rfl ?_))))
         refine Zq rfl rfl ?_
         refine Zt trivial rfl Tryz.k36 rfl rfl rfl (vs := [_, _, _]) rfl rfl (by simp only [List.all_cons, List.all_nil, o3, o4]; rfl) (Nat.le_of_ble_eq_true rfl) rfl ?_
         refine Zd (ρ' := [(0, _), (4, _), (7, _), (9, _), (12, _)]) ⟨rfl, rfl, rfl, rfl, rfl, trivial⟩ ?_
         refine Zb (Za (ym rfl rfl (ya rfl rfl (Zd (ρ' := [(0, _), (4, _), (7, _), (8, _), (9, _)]) ⟨rfl, rfl, rfl, rfl, rfl, trivial⟩ ?_))))
         refine Zaf (Zb (Za (ym rfl rfl (Zf (Zas rfl rfl rfl (Zu (by omega))) rfl ?_))))
         refine ya rfl rfl (Zd (ρ' := [(0, _), (4, _), (7, _), (8, _), (9, _)]) ⟨rfl, rfl, rfl, rfl, rfl, trivial⟩ ?_)
         refine Zae ?_
         refine ⟨mn - 1, [(0, _), (4, _), (7, _), (8, _), (9, _)], [(4, _), (7, _), (600, _), (601, _)], by omega, ⟨rfl, rfl, rfl, rfl, rfl, trivial⟩, ⟨rfl, rfl, rfl, rfl, trivial⟩, n + 1, by omega, (hle6.trans hleI), t2, id2, vc2, vp2, cs2, ps2, rfl, rfl, ?_⟩
         exact ⟨ht2, o3, o4, hcs2, hps2⟩
   ·
    skip
    refine Zat ?_
    refine Zp (Zp ?_)
    refine Zah ?_
    refine Zb (Zc (Za (Zf (Zbe rfl Tryz.f36' Tryz.z36 (ps := []) rfl (vs := [_, _, _]) rfl) rfl ?_)))
    refine Zq rfl rfl ?_
    refine Zt trivial rfl Tryz.k36 rfl rfl rfl (vs := [_, _, _]) rfl rfl (by first | rfl | assumption | simp [Value.oneCell', str]) (Nat.le_of_ble_eq_true rfl) rfl ?_
    refine ya rfl rfl (ya rfl rfl (Zd (ρ' := [(4, _), (5, _), (6, _)]) ⟨rfl, rfl, rfl, trivial⟩ ?_))
    refine Zb (Zv ?_)
    refine fin3 (.cell rfl rfl Tryz.k36 (cs := _) (vs := [_, _, _]) rfl rfl rfl) (.tmp rfl) (.tmp rfl) ?_
    first | exact ⟨_, _, _, 0, _, rfl, rfl, rfl, Nat.zero_le _⟩ | exact ⟨_, vc, vp, p + q + 1, _, rfl, o1, o2, by omega⟩
theorem ending_fn (s : Bs) (hs : s.length ≤ 1000000) (u : View) : FnP Tryz.prog 131 [str s] u fun r _ => ∃ x, r = .bool x := by
 refine FnP.intro [.tmp 2] Tryz.func131 rfl rfl rfl ?_
 intro w0 D hw0
 refine Zc (Za (ya rfl rfl (Zd (ρ' := [(0, _)]) ⟨rfl, trivial⟩ ?_)))
 refine Zb (Zc (Za (ya rfl rfl (Zd (ρ' := [(0, _), (3, _)]) ⟨rfl, rfl, trivial⟩ ?_))))
 refine Zb (Zc (Zaa ?_))
 refine Zau (fun m ρ σ u' => ∃ i : Nat, i + m = s.length + 1 ∧ VLe u u' ∧ σ = [] ∧ ρ = [(0, .v (str s)), (3, .v (.int .i64 i))] ∧ (u = u' ∧ i ≤ s.length)) (s.length + 1) ?_ ?_
 ·
  refine ⟨[(0, _), (3, _)], [], ⟨rfl, rfl, trivial⟩, trivial, 0, by omega, VLe.refl _, (by first | rfl | simp), (by first | rfl | (simp only [List.cons.injEq, Prod.mk.injEq, SV.v.injEq, Value.int.injEq, true_and, and_true]; omega) | simp), ?_⟩
  exact ⟨rfl, Nat.zero_le _⟩
 ·
  rintro m ρ σ u' ⟨i, hi2, hle2, rfl, rfl, ⟨rfl, hil⟩⟩
  refine Zc (Zc (Za ?_))
  refine Zbc 10 16 (fun b => b = true → i < s.length) (ρk := [(0, _), (3, _)]) ⟨rfl, rfl, trivial⟩ ?_ fun mb2_9 hm2_9 => ?_
  ·
   refine ym rfl rfl (ym rfl rfl (Zf (Zan rfl rfl Tryz.str9 rfl) rfl ?_))
   refine Zf (Zbh rfl rfl rfl) rfl ?_
   refine ym rfl rfl ?_
   refine Zad 11 rfl (fun hg2_4 => ?_) (fun hg2_4 => ?_)
   ·
    refine Zk rfl rfl (ym rfl rfl ?_)
    have hlt : i < s.length := by have := of_decide_eq_true hg2_4; omega
    obtain ⟨c, hc, _⟩ := byte_at hlt
    refine Zk rfl rfl (ym rfl rfl (Zk rfl rfl (Zf (Zao rfl Tryz.str9 rfl rfl (j := i) rfl hc) rfl ?_)))
    refine Zk rfl rfl (Zf (Zay rfl rfl rfl) rfl ?_)
    refine Zf (Zl rfl rfl rfl) rfl ?_
    exact Zx rfl ⟨rfl, rfl, trivial⟩ (by (first | exact fun _ => hlt | exact fun h => absurd h (by decide)))
   ·
    iterate 4 refine Zo rfl rfl rfl rfl ?_
    refine Zf (Zm rfl rfl rfl) rfl ?_
    exact Zx rfl ⟨rfl, rfl, trivial⟩ (by (first | exact fun _ => hlt | exact fun h => absurd h (by decide)))
  refine Zd (ρ' := [(0, _), (3, _), (16, _)]) ⟨rfl, rfl, rfl, trivial⟩ ?_
  refine Zb ?_
  refine Zn rfl (fun hb2 => ?_) (fun hb2 => ?_)
  ·
   have hlt := hm2_9 hb2
   refine Zs (Zb (Zaa (Za (ym rfl rfl (Zf (Zas rfl rfl rfl (Zu (by omega))) rfl ?_)))))
   refine ya rfl rfl (Zd (ρ' := [(0, _), (3, _)]) ⟨rfl, rfl, trivial⟩ ?_)
   refine Zaf (Zae ?_)
   refine ⟨m - 1, [(0, _), (3, _)], [], by omega, ⟨rfl, rfl, trivial⟩, trivial, i + 1, by omega, hle2, (by first | rfl | simp), (by first | rfl | (simp only [List.cons.injEq, Prod.mk.injEq, SV.v.injEq, Value.int.injEq, true_and, and_true]; omega) | simp), ?_⟩
   exact ⟨rfl, hlt⟩
  ·
   skip
   refine Zat ?_
   refine Zp (Zp ?_)
   refine Zah ?_
   refine Zb (Zc (Zc (Za ?_)))
   refine Zbc 17 35 (fun b => b = false → i + 2 ≤ s.length) (ρk := [(0, _), (3, _)]) ⟨rfl, rfl, trivial⟩ ?_ fun mb4_16 hm4_16 => ?_
   ·
    refine ym rfl rfl (Zf (Zcd rfl rfl rfl) rfl ?_)
    refine ym rfl rfl ?_
    refine Zad 21 rfl (fun hg4_2 => ?_) (fun hg4_2 => ?_)
    ·
     iterate 5 refine Zo rfl rfl rfl rfl ?_
     refine Zf (Zl rfl rfl rfl) rfl (ym rfl rfl ?_)
     iterate 6 refine Zo rfl rfl rfl rfl ?_
     refine Zf (Zl rfl rfl rfl) rfl ?_
     exact Zx rfl ⟨rfl, rfl, trivial⟩ (by (first | exact fun h => absurd h (by decide) | exact fun _ => hl4))
    ·
     refine Zk rfl rfl (ym rfl rfl (Zk rfl rfl (Zf (Zan rfl rfl Tryz.str9 rfl) rfl ?_)))
     refine Zk rfl rfl (ym rfl rfl (Zk rfl rfl (Zf (Zas rfl rfl rfl (Zu (by omega))) rfl ?_)))
     refine Zk rfl rfl (Zf (Zbh rfl rfl rfl) rfl ?_)
     refine Zf (Zm rfl rfl rfl) rfl (ym rfl rfl ?_)
     refine Zad 28 rfl (fun hg4_9 => ?_) (fun hg4_9 => ?_)
     ·
      iterate 6 refine Zo rfl rfl rfl rfl ?_
      refine Zf (Zl rfl rfl rfl) rfl ?_
      exact Zx rfl ⟨rfl, rfl, trivial⟩ (by (first | exact fun h => absurd h (by decide) | exact fun _ => hl4))
     ·
      refine Zk rfl rfl (ym rfl rfl ?_)
      have hl4 : i + 2 ≤ s.length := by have := of_decide_eq_false hg4_9; omega
      refine Zk rfl rfl (ym rfl rfl (Zk rfl rfl (ym rfl rfl (Zk rfl rfl (Zf (Zas rfl rfl rfl (Zu (by omega))) rfl ?_)))))
      refine Zk rfl rfl (Zf (Zbt rfl Tryz.str9 rfl (i := i) (j := i + 2) rfl rfl (by omega) (by omega)) rfl ?_)
      refine Zk rfl rfl (Zf (Zbk rfl rfl rfl) rfl ?_)
      refine Zf (Zm rfl rfl rfl) rfl ?_
      exact Zx rfl ⟨rfl, rfl, trivial⟩ (by (first | exact fun h => absurd h (by decide) | exact fun _ => hl4))
   refine Zd (ρ' := [(0, _), (3, _), (35, _)]) ⟨rfl, rfl, rfl, trivial⟩ ?_
   refine Zb ?_
   refine Zn rfl (fun hb4 => ?_) (fun hb4 => ?_)
   ·
    skip
    refine Zc (Za (ya rfl rfl (Zd (ρ' := [(2, _)]) ⟨rfl, trivial⟩ ?_)))
    refine Zb (Zv (Zh ?_))
    refine Zav (.tmp rfl) ?_
    exact ⟨_, rfl⟩
   ·
    have hl4 := hm4_16 hb4
    refine Zs (Zb (Zc (Za (ym rfl rfl (Zf (Zas rfl rfl rfl (Zu (by omega))) rfl ?_)))))
    refine ya rfl rfl (Zd (ρ' := [(0, _), (3, _)]) ⟨rfl, rfl, trivial⟩ ?_)
    refine Zb (Zc (Zaa ?_))
    refine Zau (fun m ρ σ u' => ∃ j : Nat, j + m = s.length + 1 ∧ VLe u u' ∧ σ = [] ∧ ρ = [(0, .v (str s)), (3, .v (.int .i64 ((i + 2 + j : Nat) : Int)))] ∧ (u = u' ∧ i + 2 + j ≤ s.length)) (s.length + 1) ?_ ?_
    ·
     refine ⟨[(0, _), (3, _)], [], ⟨rfl, rfl, trivial⟩, trivial, 0, by omega, VLe.refl _, (by first | rfl | simp), (by first | rfl | (simp only [List.cons.injEq, Prod.mk.injEq, SV.v.injEq, Value.int.injEq, true_and, and_true]; omega) | simp), ?_⟩
     exact ⟨rfl, hl4⟩
    ·
     rintro mj ρ σ u' ⟨j, hi7, hle7, rfl, rfl, ⟨rfl, hjl⟩⟩
     refine Zc (Zc (Za ?_))
     refine Zbc 10 47 (fun b => b = true → i + 2 + j < s.length) (ρk := [(0, _), (3, _)]) ⟨rfl, rfl, trivial⟩ ?_ fun mb7_9 hm7_9 => ?_
     ·
      refine ym rfl rfl (ym rfl rfl (Zf (Zan rfl rfl Tryz.str9 rfl) rfl ?_))
      refine Zf (Zbh rfl rfl rfl) rfl ?_
      refine ym rfl rfl ?_
      refine Zad 42 rfl (fun hg7_4 => ?_) (fun hg7_4 => ?_)
      ·
       refine Zk rfl rfl (ym rfl rfl ?_)
       have hlt7 : i + 2 + j < s.length := by have := of_decide_eq_true hg7_4; omega
       obtain ⟨c7, hc7, _⟩ := byte_at hlt7
       refine Zk rfl rfl (ym rfl rfl (Zk rfl rfl (Zf (Zao rfl Tryz.str9 rfl rfl (j := i + 2 + j) rfl hc7) rfl ?_)))
       refine Zk rfl rfl (Zf (Zay rfl rfl rfl) rfl ?_)
       refine Zf (Zl rfl rfl rfl) rfl ?_
       exact Zx rfl ⟨rfl, rfl, trivial⟩ (by (first | exact fun _ => hlt7 | exact fun h => absurd h (by decide)))
      ·
       iterate 4 refine Zo rfl rfl rfl rfl ?_
       refine Zf (Zm rfl rfl rfl) rfl ?_
       exact Zx rfl ⟨rfl, rfl, trivial⟩ (by (first | exact fun _ => hlt7 | exact fun h => absurd h (by decide)))
     refine Zd (ρ' := [(0, _), (3, _), (47, _)]) ⟨rfl, rfl, rfl, trivial⟩ ?_
     refine Zb ?_
     refine Zn rfl (fun hb7 => ?_) (fun hb7 => ?_)
     ·
      have hlt7 := hm7_9 hb7
      refine Zs (Zb (Zaa (Za (ym rfl rfl (Zf (Zas rfl rfl rfl (Zu (by omega))) rfl ?_)))))
      refine ya rfl rfl (Zd (ρ' := [(0, _), (3, _)]) ⟨rfl, rfl, trivial⟩ ?_)
      refine Zaf (Zae ?_)
      refine ⟨mj - 1, [(0, _), (3, _)], [], by omega, ⟨rfl, rfl, trivial⟩, trivial, j + 1, by omega, hle7, (by first | rfl | simp), (by first | rfl | (simp only [List.cons.injEq, Prod.mk.injEq, SV.v.injEq, Value.int.injEq, true_and, and_true]; omega) | simp), ?_⟩
      exact ⟨rfl, by omega⟩
     ·
      skip
      refine Zat ?_
      refine Zp (Zp ?_)
      refine Zah ?_
      refine Zb (Zc (Zc (Za (ym rfl rfl (ym rfl rfl (Zf (Zan rfl rfl Tryz.str9 rfl) rfl ?_))))))
      refine Zf (Zay rfl rfl rfl) rfl ?_
      refine Zd (ρ' := [(0, _), (3, _), (53, _)]) ⟨rfl, rfl, rfl, trivial⟩ ?_
      refine Zb ?_
      refine Zn rfl (fun hb9 => ?_) (fun hb9 => ?_)
      ·
       refine Zc (Za (ya rfl rfl (Zd (ρ' := [(2, _)]) ⟨rfl, trivial⟩ ?_)))
       refine Zb (Zv (Zh ?_))
       refine Zav (.tmp rfl) ?_
       exact ⟨_, rfl⟩
      ·
       refine Zs (Zb (Zc (Za (ym rfl rfl (ym rfl rfl (Zq rfl rfl ?_))))))
       refine Zw (caps := []) trivial rfl rfl Tryz.c151 rfl (FnP.mono (parse_fn s (i + 2 + j) (by omega) hs u) ?_)
       rintro v u1 hle1 ⟨id, vc, vp, t, e, rfl, o1, o2, ht⟩
       refine ym rfl rfl (Zf (Zbo rfl rfl rfl) rfl ?_)
       refine Zf (Zbo rfl rfl rfl) rfl ?_
       refine Zf (Zbo rfl rfl rfl) rfl ?_
       refine Zq rfl rfl ?_
       refine Zax trivial Tryz.z36 rfl rfl rfl ?_
       refine Zq rfl rfl ?_
       refine Zt trivial rfl Tryz.k36 rfl rfl rfl (vs := [_, _, _]) rfl rfl (by simp only [List.all_cons, List.all_nil, o1, o2]; rfl) (Nat.le_of_ble_eq_true rfl) rfl ?_
       refine ya rfl rfl (ya rfl rfl (Zd (ρ' := [(0, _), (5, _), (6, _)]) ⟨rfl, rfl, rfl, trivial⟩ ?_))
       refine Zb (Zc (Zc (Za (ym rfl rfl (Zf (Zcc rfl rfl rfl) rfl ?_)))))
       refine Zd (ρ' := [(0, _), (5, _), (62, _)]) ⟨rfl, rfl, rfl, trivial⟩ ?_
       refine Zb ?_
       refine Zn rfl (fun hb12 => ?_) (fun hb12 => ?_)
       ·
        refine Zc (Za (ya rfl rfl (Zd (ρ' := [(2, _)]) ⟨rfl, trivial⟩ ?_)))
        refine Zb (Zv (Zh ?_))
        refine Zav (.tmp rfl) ?_
        exact ⟨_, rfl⟩
       ·
        refine Zs (Zb (Zc (Zaa ?_)))
        refine Zau (fun m ρ σ u' => ∃ q : Nat, q + m = s.length + 1 ∧ VLe u u' ∧ σ = [] ∧ ρ = [(0, .v (str s)), (5, .v (.int .i64 ((t + q : Nat) : Int)))] ∧ (u = u')) (s.length + 1) ?_ ?_
        ·
         refine ⟨[(0, _), (5, _)], [], ⟨rfl, rfl, trivial⟩, trivial, 0, by omega, VLe.refl _, (by first | rfl | simp), (by first | rfl | (simp only [List.cons.injEq, Prod.mk.injEq, SV.v.injEq, Value.int.injEq, true_and, and_true]; omega) | simp), ?_⟩
         rfl
        ·
         rintro mq ρ σ u' ⟨q, hi14, hle14, rfl, rfl, rfl⟩
         refine Zc (Zc (Za ?_))
         refine Zbc 10 72 (fun b => b = true → t + q < s.length) (ρk := [(0, _), (5, _)]) ⟨rfl, rfl, trivial⟩ ?_ fun mb14_9 hm14_9 => ?_
         ·
          refine ym rfl rfl (ym rfl rfl (Zf (Zan rfl rfl Tryz.str9 rfl) rfl ?_))
          refine Zf (Zbh rfl rfl rfl) rfl ?_
          refine ym rfl rfl ?_
          refine Zad 67 rfl (fun hg14_4 => ?_) (fun hg14_4 => ?_)
          ·
           refine Zk rfl rfl (ym rfl rfl ?_)
           have hlt14 : t + q < s.length := by have := of_decide_eq_true hg14_4; omega
           obtain ⟨c14, hc14, _⟩ := byte_at hlt14
           refine Zk rfl rfl (ym rfl rfl (Zk rfl rfl (Zf (Zao rfl Tryz.str9 rfl rfl (j := t + q) rfl hc14) rfl ?_)))
           refine Zk rfl rfl (Zf (Zay rfl rfl rfl) rfl ?_)
           refine Zf (Zl rfl rfl rfl) rfl ?_
           exact Zx rfl ⟨rfl, rfl, trivial⟩ (by (first | exact fun _ => hlt14 | exact fun h => absurd h (by decide)))
          ·
           iterate 4 refine Zo rfl rfl rfl rfl ?_
           refine Zf (Zm rfl rfl rfl) rfl ?_
           exact Zx rfl ⟨rfl, rfl, trivial⟩ (by (first | exact fun _ => hlt14 | exact fun h => absurd h (by decide)))
         refine Zd (ρ' := [(0, _), (5, _), (72, _)]) ⟨rfl, rfl, rfl, trivial⟩ ?_
         refine Zb ?_
         refine Zn rfl (fun hb14 => ?_) (fun hb14 => ?_)
         ·
          have hlt14 := hm14_9 hb14
          refine Zs (Zb (Zaa (Za (ym rfl rfl (Zf (Zas rfl rfl rfl (Zu (by omega))) rfl ?_)))))
          refine ya rfl rfl (Zd (ρ' := [(0, _), (5, _)]) ⟨rfl, rfl, trivial⟩ ?_)
          refine Zaf (Zae ?_)
          refine ⟨mq - 1, [(0, _), (5, _)], [], by omega, ⟨rfl, rfl, trivial⟩, trivial, q + 1, by omega, hle14, (by first | rfl | simp), (by first | rfl | (simp only [List.cons.injEq, Prod.mk.injEq, SV.v.injEq, Value.int.injEq, true_and, and_true]; omega) | simp), ?_⟩
          rfl
         ·
          skip
          refine Zat ?_
          refine Zp (Zp ?_)
          refine Zah ?_
          refine Zb (Zc (Za (ym rfl rfl (ym rfl rfl (Zf (Zan rfl rfl Tryz.str9 rfl) rfl ?_)))))
          refine Zf (Zbw rfl rfl rfl) rfl ?_
          refine ya rfl rfl (Zd (ρ' := [(2, _)]) ⟨rfl, trivial⟩ ?_)
          refine Zb (Zv ?_)
          refine Zav (.tmp rfl) ?_
          exact ⟨_, rfl⟩
theorem closes_fn (s : Bs) (hs : s.length ≤ 1000000) (u : View) : FnP Tryz.prog 115 [str s] u fun r _ => ∃ x, r = .bool x := by
 refine FnP.intro [.tmp 2] Tryz.func115 rfl rfl rfl ?_
 intro w0 D hw0
 refine Zc (Za (ya rfl rfl (Zd (ρ' := [(0, _)]) ⟨rfl, trivial⟩ ?_)))
 refine Zb (Zc (Za (ya rfl rfl (Zd (ρ' := [(0, _), (3, _)]) ⟨rfl, rfl, trivial⟩ ?_))))
 refine Zb (Zc (Zc (Za (ya rfl rfl (Zd (ρ' := [(0, _), (3, _), (4, _)]) ⟨rfl, rfl, rfl, trivial⟩ ?_)))))
 refine Zb (Zaa ?_)
 refine Zau (fun m ρ σ u' => ∃ i : Nat, i + m = s.length ∧ VLe u u' ∧ ∃ (fr : Nat), σ = [] ∧ ρ = [(0, .v (str s)), (3, .v (.int .i64 (fr : Nat))), (4, .v (.int .i64 i))] ∧ (u = u' ∧ fr ≤ i)) (s.length) ?_ ?_
 ·
  refine ⟨[(0, _), (3, _), (4, _)], [], ⟨rfl, rfl, rfl, trivial⟩, trivial, 0, by omega, VLe.refl _, 0, rfl, rfl, ?_⟩
  exact ⟨rfl, Nat.le_refl _⟩
 ·
  rintro m ρ σ u' ⟨i, hi3, hle3, fr, rfl, rfl, ⟨rfl, hfr⟩⟩
  refine Zc (Zc (Za (ym rfl rfl (ym rfl rfl (Zf (Zan rfl rfl Tryz.str9 rfl) rfl ?_)))))
  refine Zf (Zbh rfl rfl rfl) rfl ?_
  refine Zd (ρ' := [(0, _), (3, _), (4, _), (8, _)]) ⟨rfl, rfl, rfl, rfl, trivial⟩ ?_
  refine Zb ?_
  refine Zn rfl (fun hb3 => ?_) (fun hb3 => ?_)
  ·
   have hlt : i < s.length := by have := of_decide_eq_true hb3; omega
   obtain ⟨c, hc, _⟩ := byte_at hlt
   refine Zs (Zb ?_)
   refine Zbv (fun ρ σ uc4 => ∃ (fr2 : Nat), VLe u uc4 ∧ σ = [] ∧ ρ = [(0, .v (str s)), (3, .v (.int .i64 (fr2 : Nat))), (4, .v (.int .i64 i))] ∧ (u = uc4 ∧ fr2 ≤ i + 1)) ?_ ?_
   ·
    refine Zaa (Zc (Za (ym rfl rfl (ym rfl rfl (Zf (Zao rfl Tryz.str9 rfl rfl (j := i) rfl hc) rfl ?_)))))
    refine Zf (Zay rfl rfl rfl) rfl ?_
    refine Zd (ρ' := [(0, _), (3, _), (4, _), (14, _)]) ⟨rfl, rfl, rfl, rfl, trivial⟩ ?_
    refine Zb ?_
    refine Zn rfl (fun hb5 => ?_) (fun hb5 => ?_)
    ·
     refine Zc (Zc (Za (ym rfl rfl (ym rfl rfl (ym rfl rfl (Zf (Zbt rfl Tryz.str9 rfl (i := fr) (j := i) rfl rfl hfr (by omega)) rfl ?_))))))
     refine Zq rfl rfl ?_
     refine Zw (caps := []) trivial rfl rfl Tryz.c131 rfl (FnP.mono (ending_fn _ (by simp; omega) u) ?_)
     rintro v u1 hle1 ⟨b, rfl⟩
     refine Zd (ρ' := [(0, _), (4, _), (19, _)]) ⟨rfl, rfl, rfl, trivial⟩ ?_
     refine Zb ?_
     refine Zn rfl (fun hb6 => ?_) (fun hb6 => ?_)
     ·
      refine Zc (Za (ya rfl rfl (Zd (ρ' := [(2, _)]) ⟨rfl, trivial⟩ ?_)))
      refine Zb (Zv (Zh (Zr (Zh (Zh (Zr (Zh ?_)))))))
      refine Zav (.tmp rfl) ?_
      exact ⟨_, rfl⟩
     ·
      refine Zs (Zb (Za (ym rfl rfl (Zf (Zas rfl rfl rfl (Zu (by omega))) rfl ?_))))
      refine ya rfl rfl (Zd (ρ' := [(0, _), (3, _), (4, _)]) ⟨rfl, rfl, rfl, trivial⟩ ?_)
      refine Zaf (Zae ?_)
      first
       | (refine ⟨[(0, _), (3, _), (4, _)], [], ⟨rfl, rfl, rfl, trivial⟩, trivial, i + 1, (VLe.refl _), rfl, rfl, ?_⟩
          exact ⟨rfl, Nat.le_refl _⟩)
       | (refine ⟨[(0, _), (3, _), (4, _)], [], ⟨rfl, rfl, rfl, trivial⟩, trivial, fr, (VLe.refl _), rfl, rfl, ?_⟩
          exact ⟨rfl, by omega⟩)
    ·
     refine Zs (Zaf (Zae ?_))
     first
      | (refine ⟨[(0, _), (3, _), (4, _)], [], ⟨rfl, rfl, rfl, trivial⟩, trivial, i + 1, (VLe.refl _), rfl, rfl, ?_⟩
         exact ⟨rfl, Nat.le_refl _⟩)
      | (refine ⟨[(0, _), (3, _), (4, _)], [], ⟨rfl, rfl, rfl, trivial⟩, trivial, fr, (VLe.refl _), rfl, rfl, ?_⟩
         exact ⟨rfl, by omega⟩)
   ·
    rintro ρ σ uc4 ⟨fr2, hlc4, rfl, rfl, ⟨rfl, hfr2⟩⟩
    refine Za (ym rfl rfl (Zf (Zas rfl rfl rfl (Zu (by omega))) rfl ?_))
    refine ya rfl rfl (Zd (ρ' := [(0, _), (3, _), (4, _)]) ⟨rfl, rfl, rfl, trivial⟩ ?_)
    refine Zae ?_
    refine ⟨m - 1, [(0, _), (3, _), (4, _)], [], by omega, ⟨rfl, rfl, rfl, trivial⟩, trivial, i + 1, by omega, hle3, fr2, (by first | rfl | simp), (by first | rfl | (simp only [List.cons.injEq, Prod.mk.injEq, SV.v.injEq, Value.int.injEq, true_and, and_true]; omega) | simp), ?_⟩
    exact ⟨rfl, hfr2⟩
  ·
   skip
   refine Zat ?_
   refine Zp (Zp ?_)
   refine Zah ?_
   refine Zb (Zc (Za (ya rfl rfl (Zd (ρ' := [(2, _)]) ⟨rfl, trivial⟩ ?_))))
   refine Zb (Zv ?_)
   refine Zav (.tmp rfl) ?_
   exact ⟨_, rfl⟩
theorem label_fn (s : Bs) (hs : s.length ≤ 10000000) (u : View) : FnP Tryz.prog 118 [str s] u fun r _ => ∃ x, r = .bool x := by
 refine FnP.intro [.tmp 2] Tryz.func118 rfl rfl rfl ?_
 intro w0 D hw0
 refine Zc (Za (ya rfl rfl (Zd (ρ' := [(0, _)]) ⟨rfl, trivial⟩ ?_)))
 refine Zb (Zc (Zc (Za ?_)))
 refine Zbc 14 19 (fun _ => True) (ρk := [(0, _)]) ⟨rfl, trivial⟩ ?_ fun mb1_13 hm1_13 => ?_
 ·
  refine ym rfl rfl (Zf (Zan rfl rfl Tryz.str9 rfl) rfl ?_)
  refine Zf (Zbh rfl rfl rfl) rfl ?_
  refine ym rfl rfl ?_
  refine Zad 9 rfl (fun hg1_3 => ?_) (fun hg1_3 => ?_)
  ·
   iterate 3 refine Zo rfl rfl rfl rfl ?_
   refine Zf (Zl rfl rfl rfl) rfl (ym rfl rfl ?_)
   iterate 4 refine Zo rfl rfl rfl rfl ?_
   refine Zf (Zl rfl rfl rfl) rfl ?_
   exact Zx rfl ⟨rfl, trivial⟩ (trivial)
  ·
   refine Zk rfl rfl (ym rfl rfl (Zk rfl rfl (Zf (Zan rfl rfl Tryz.str9 rfl) rfl ?_)))
   refine Zk rfl rfl (Zf (Zcd rfl rfl rfl) rfl ?_)
   refine Zf (Zm rfl rfl rfl) rfl (ym rfl rfl ?_)
   refine Zad 14 rfl (fun hg1_8 => ?_) (fun hg1_8 => ?_)
   ·
    iterate 4 refine Zo rfl rfl rfl rfl ?_
    refine Zf (Zl rfl rfl rfl) rfl ?_
    exact Zx rfl ⟨rfl, trivial⟩ (trivial)
   ·
    refine Zk rfl rfl (ym rfl rfl (Zk rfl rfl (Zq rfl rfl ?_)))
    refine Zw (caps := []) trivial rfl rfl Tryz.c136 rfl (FnP.mono (fold_fn s hs u) ?_)
    rintro v u1 hle1 ⟨t, rfl⟩
    refine Zk rfl rfl (ym rfl rfl (Zk rfl rfl (Zf (Zbk rfl rfl rfl) rfl ?_)))
    refine Zf (Zm rfl rfl rfl) rfl ?_
    exact Zx rfl ⟨rfl, trivial⟩ (trivial)
 refine Zd (ρ' := [(0, _), (19, _)]) ⟨rfl, rfl, trivial⟩ ?_
 refine Zb ?_
 refine Zn rfl (fun hb1 => ?_) (fun hb1 => ?_)
 ·
  refine Zc (Za (ya rfl rfl (Zd (ρ' := [(2, _)]) ⟨rfl, trivial⟩ ?_)))
  refine Zb (Zv (Zh ?_))
  refine Zav (.tmp rfl) ?_
  exact ⟨_, rfl⟩
 ·
  refine Zs (Zb (Zc (Za (ya rfl rfl (Zd (ρ' := [(0, _), (3, _)]) ⟨rfl, rfl, trivial⟩ ?_)))))
  refine Zb (Zc (Zaa ?_))
  refine Zau (fun m ρ σ u' => ∃ n : Nat, n + m = s.length + 1 ∧ VLe u u' ∧ ∃ (p : Nat), σ = [] ∧ ρ = [(0, .v (str s)), (3, .v (.int .i64 (p : Nat)))] ∧ (u = u' ∧ n ≤ p ∧ p ≤ s.length + 4)) (s.length + 1) ?_ ?_
  ·
   refine ⟨[(0, _), (3, _)], [], ⟨rfl, rfl, trivial⟩, trivial, 0, by omega, VLe.refl _, 0, rfl, rfl, ?_⟩
   exact ⟨rfl, Nat.le_refl _, by omega⟩
  ·
   rintro mn ρ σ u' ⟨n, hi4, hle4, p, rfl, rfl, ⟨rfl, hnp, hps⟩⟩
   refine Zc (Zc (Za (ym rfl rfl (ym rfl rfl (Zf (Zan rfl rfl Tryz.str9 rfl) rfl ?_)))))
   refine Zf (Zbh rfl rfl rfl) rfl ?_
   refine Zd (ρ' := [(0, _), (3, _), (23, _)]) ⟨rfl, rfl, rfl, trivial⟩ ?_
   refine Zb ?_
   refine Zn rfl (fun hb4 => ?_) (fun hb4 => ?_)
   ·
    have hlt : p < s.length := by have := of_decide_eq_true hb4; omega
    refine Zs (Zb (Zaa (Zc (Za (ym rfl rfl (ym rfl rfl (Zq rfl rfl ?_)))))))
    refine Zw (caps := []) trivial rfl rfl Tryz.c137 rfl (FnP.mono (knext_fn s p hlt (by omega) u) ?_)
    rintro v u1 hle1 ⟨C, N, rfl, hC1, hC2, hN1, hN2⟩
    refine ym rfl rfl (Zf (Zbo rfl rfl rfl) rfl ?_)
    refine Zf (Zbo rfl rfl rfl) rfl ?_
    refine ya rfl rfl (ya rfl rfl (Zd (ρ' := [(0, _), (3, _), (4, _), (5, _)]) ⟨rfl, rfl, rfl, rfl, trivial⟩ ?_))
    refine Zb (Zc (Zc (Za ?_)))
    refine Zbc 21 50 (fun _ => True) (ρk := [(0, _), (3, _), (5, _)]) ⟨rfl, rfl, rfl, trivial⟩ ?_ fun mb6_20 hm6_20 => ?_
    ·
     refine ym rfl rfl (Zf (Zbh rfl rfl rfl) rfl ?_)
     refine ym rfl rfl ?_
     refine Zad 32 rfl (fun hg6_2 => ?_) (fun hg6_2 => ?_)
     ·
      iterate 4 refine Zo rfl rfl rfl rfl ?_
      refine Zab rfl rfl rfl ?_
      refine Zab rfl rfl rfl ?_
      refine Zab rfl rfl rfl ?_
      refine Zo rfl rfl rfl rfl (Zo rfl rfl rfl rfl ?_)
      refine Zab rfl rfl rfl ?_
      refine Zab rfl rfl rfl ?_
      refine Zab rfl rfl rfl ?_
      refine Zab rfl rfl rfl ?_
      refine Zab rfl rfl rfl ?_
      refine Zab rfl rfl rfl ?_
      refine Zab rfl rfl rfl ?_
      refine Zo rfl rfl rfl rfl (Zf (Zl rfl rfl rfl) rfl ?_)
      exact Zx rfl ⟨rfl, rfl, rfl, trivial⟩ (trivial)
     ·
      refine Zk rfl rfl (ym rfl rfl (Zk rfl rfl (Zq rfl rfl ?_)))
      refine Zw (caps := []) trivial rfl rfl Tryz.c138 rfl (FnP.mono (kletter_fn C u) ?_)
      rintro v u1 hle1 ⟨b1, rfl⟩
      refine Zk rfl rfl (Zf (Zbs rfl rfl) rfl ?_)
      refine Zk rfl rfl (ym rfl rfl ?_)
      refine Zad 36 rfl (fun hg6_6 => ?_) (fun hg6_6 => ?_)
      ·
       refine Zk rfl rfl (ym rfl rfl (Zk rfl rfl (Zq rfl rfl ?_)))
       refine Zw (caps := []) trivial rfl rfl Tryz.c139 rfl (FnP.mono (digit_fn C u) ?_)
       rintro v u1 hle1 ⟨b2, rfl⟩
       refine Zk rfl rfl (Zf (Zbs rfl rfl) rfl ?_)
       refine Zk rfl rfl (Zf (Zl rfl rfl rfl) rfl (Zk rfl rfl (ym rfl rfl ?_)))
       refine Zad 41 rfl (fun hg6_11 => ?_) (fun hg6_11 => ?_)
       ·
        refine Zk rfl rfl (ym rfl rfl (Zk rfl rfl (ym rfl rfl (Zk rfl rfl (ym rfl rfl (Zk rfl rfl (Zf (Zas rfl rfl rfl (Zu (by omega))) rfl ?_)))))))
        refine Zk rfl rfl (Zf (Zbt rfl Tryz.str9 rfl (i := p) (j := p + 1) rfl rfl (by omega) (by omega)) rfl ?_)
        refine Zk rfl rfl (Zq rfl rfl ?_)
        refine Zw (caps := []) trivial rfl rfl Tryz.c135 rfl (FnP.mono (khas_fn _ _ (by simp; omega) (by decide) u) ?_)
        rintro v u1 hle1 ⟨b3, rfl⟩
        refine Zk rfl rfl (Zf (Zbs rfl rfl) rfl ?_)
        refine Zk rfl rfl (Zf (Zl rfl rfl rfl) rfl (Zf (Zm rfl rfl rfl) rfl ?_))
        exact Zx rfl ⟨rfl, rfl, rfl, trivial⟩ (trivial)
       ·
        iterate 7 refine Zo rfl rfl rfl rfl ?_
        refine Zk rfl rfl (Zf (Zm rfl rfl rfl) rfl (Zf (Zm rfl rfl rfl) rfl ?_))
        exact Zx rfl ⟨rfl, rfl, rfl, trivial⟩ (trivial)
      ·
       iterate 3 refine Zo rfl rfl rfl rfl ?_
       refine Zk rfl rfl (Zf (Zm rfl rfl rfl) rfl (Zk rfl rfl (ym rfl rfl ?_)))
       iterate 7 refine Zo rfl rfl rfl rfl ?_
       refine Zk rfl rfl (Zf (Zm rfl rfl rfl) rfl (Zf (Zm rfl rfl rfl) rfl ?_))
       exact Zx rfl ⟨rfl, rfl, rfl, trivial⟩ (trivial)
    refine Zd (ρ' := [(0, _), (3, _), (5, _), (50, _)]) ⟨rfl, rfl, rfl, rfl, trivial⟩ ?_
    refine Zb ?_
    refine Zn rfl (fun hb6 => ?_) (fun hb6 => ?_)
    ·
     refine Zc (Za (ya rfl rfl (Zd (ρ' := [(2, _)]) ⟨rfl, trivial⟩ ?_)))
     refine Zb (Zv (Zh (Zr (Zh (Zr (Zh ?_))))))
     refine Zav (.tmp rfl) ?_
     exact ⟨_, rfl⟩
    ·
     refine Zs (Zb (Za (ym rfl rfl (ym rfl rfl (Zf (Zas rfl rfl rfl (Zu (by omega))) rfl ?_)))))
     refine ya rfl rfl (Zd (ρ' := [(0, _), (3, _)]) ⟨rfl, rfl, trivial⟩ ?_)
     refine Zaf (Zae ?_)
     refine ⟨mn - 1, [(0, _), (3, _)], [], by omega, ⟨rfl, rfl, trivial⟩, trivial, n + 1, by omega, hle4, p + N.toNat, rfl, (by rw [show ((p + N.toNat : Nat) : Int) = (p : Int) + N by omega]), ?_⟩
     exact ⟨rfl, by omega, by omega⟩
   ·
    skip
    refine Zat ?_
    refine Zp (Zp ?_)
    refine Zah ?_
    refine Zb (Zc (Za (ya rfl rfl (Zd (ρ' := [(2, _)]) ⟨rfl, trivial⟩ ?_))))
    refine Zb (Zv ?_)
    refine Zav (.tmp rfl) ?_
    exact ⟨_, rfl⟩
theorem anyOf_fn (n : Nat) : ∀ (v : Value) (xs : List Inl) (le : Bool) (u : View), szI xs ≤ n → szI xs ≤ 1000000 → InlS u v xs → FnP Tryz.prog 129 [v, .bool le] u fun r _ => ∃ x, r = .bool x := by
 induction n using Nat.strongRecOn with
 | _ n ih =>
 intro v xs le u hsz hbig ha
 have hlx := len_szI xs
 obtain ⟨cs, ⟨ad, cap, rfl, h1⟩, hc1⟩ := ha
 refine FnP.intro [.tmp 4] Tryz.func129 rfl rfl rfl ?_
 intro w0 D hw0
 refine Zc (Za (ya rfl rfl (Zd (ρ' := [(0, _), (1, _)]) ⟨rfl, rfl, trivial⟩ ?_)))
 refine Zb (Zc (Zc (Za (ya rfl rfl (Zd (ρ' := [(0, _), (1, _), (5, _)]) ⟨rfl, rfl, rfl, trivial⟩ ?_)))))
 refine Zb (Zaa ?_)
 refine Zau (fun m ρ σ u' => ∃ i : Nat, i + m = xs.length ∧ VLe u u' ∧ σ = [] ∧ ρ = [(0, .v (.slice ad xs.length cap)), (1, .v (.bool le)), (5, .v (.int .i64 i))] ∧ (u = u')) (xs.length) ?_ ?_
 ·
  refine ⟨[(0, _), (1, _), (5, _)], [], ⟨rfl, rfl, rfl, trivial⟩, trivial, 0, by omega, VLe.refl _, (by first | rfl | simp), (by first | rfl | (simp only [List.cons.injEq, Prod.mk.injEq, SV.v.injEq, Value.int.injEq, true_and, and_true]; omega) | simp), ?_⟩
  rfl
 ·
  rintro m ρ σ u' ⟨i, hi2, hle2, rfl, rfl, rfl⟩
  refine Zc (Zc (Za (ym rfl rfl (ym rfl rfl (Zf (Zal rfl rfl Tryz.s37 rfl) rfl ?_)))))
  refine Zf (Zbh rfl rfl rfl) rfl ?_
  refine Zd (ρ' := [(0, _), (1, _), (5, _), (10, _)]) ⟨rfl, rfl, rfl, rfl, trivial⟩ ?_
  refine Zb ?_
  refine Zn rfl (fun hb2 => ?_) (fun hb2 => ?_)
  ·
   have hlt : i < xs.length := by have := of_decide_eq_true hb2; omega
   obtain ⟨k, t, d, ti, a, args, cites, kids, vc, vp, va, vt, vk, hg, hcut1, s1, s2, s3, s4, s5, hok⟩ := hc1.at hlt
   have oneAll := (hc1.get i _ hg).one
   rw [hcut1] at oneAll
   have hszk := szI_kids hg
   refine Zs (Zb (Zc (Zaa (Zc (Za (ym rfl rfl (ym rfl rfl (Zf (Zai rfl Tryz.s37 rfl rfl (by assumption) (by first | rfl | omega) (by omega)) rfl ?_))))))))
   refine Zf (Zap rfl Tryz.f45' rfl (by decide) rfl) rfl ?_
   refine Zf (Zag rfl Tryz.k3 rfl (by assumption) (by omega) (by assumption) (vs := [_]) rfl rfl rfl rfl) rfl ?_
   refine ya rfl rfl (Zd (ρ' := [(0, _), (1, _), (5, _), (6, _)]) ⟨rfl, rfl, rfl, rfl, trivial⟩ ?_)
   refine Zb (Zc (Za ?_))
   refine Zbc 26 43 (fun _ => True) (ρk := [(0, _), (1, _), (5, _)]) ⟨rfl, rfl, rfl, trivial⟩ ?_ fun mb5_25 hm5_25 => ?_
   ·
    refine ym rfl rfl (Zf (Zbs rfl rfl) rfl ?_)
    refine ym rfl rfl ?_
    refine Zad 20 rfl (fun hg5_2 => ?_) (fun hg5_2 => ?_)
    ·
     refine Zk rfl rfl (ym rfl rfl (Zk rfl rfl (Zq rfl rfl ?_)))
     refine Zw (caps := []) trivial rfl rfl Tryz.c149 rfl (FnP.mono (reference_fn k u) ?_)
     rintro v u1 hle1 ⟨b1, rfl⟩
     refine Zf (Zl rfl rfl rfl) rfl (ym rfl rfl ?_)
     refine Zad 24 rfl (fun hg5_6 => ?_) (fun hg5_6 => ?_)
     ·
      refine Zo rfl rfl rfl rfl (Zo rfl rfl rfl rfl ?_)
      refine Zab rfl rfl rfl ?_
      refine Zab rfl rfl rfl ?_
      refine Zab rfl rfl rfl ?_
      refine Zab rfl rfl rfl ?_
      refine Zab rfl rfl rfl ?_
      refine Zab rfl rfl rfl ?_
      refine Zo rfl rfl rfl rfl (Zf (Zl rfl rfl rfl) rfl (ym rfl rfl ?_))
      iterate 7 refine Zo rfl rfl rfl rfl ?_
      refine Zf (Zl rfl rfl rfl) rfl ?_
      exact Zx rfl ⟨rfl, rfl, rfl, trivial⟩ (trivial)
     ·
      refine Zk rfl rfl (ym rfl rfl (Zk rfl rfl (ym rfl rfl ?_)))
      refine Zad 26 rfl (fun hg5_8 => ?_) (fun hg5_8 => ?_)
      ·
       refine Zk rfl rfl (ym rfl rfl (Zk rfl rfl (Zf (Zay rfl rfl rfl) rfl ?_)))
       refine Zk rfl rfl (ym rfl rfl ?_)
       refine Zad 29 rfl (fun hg5_11 => ?_) (fun hg5_11 => ?_)
       ·
        refine Zo rfl rfl rfl rfl (Zo rfl rfl rfl rfl (Zk rfl rfl (Zf (Zl rfl rfl rfl) rfl (Zk rfl rfl (Zf (Zl rfl rfl rfl) rfl (Zf (Zm rfl rfl rfl) rfl (ym rfl rfl ?_)))))))
        iterate 7 refine Zo rfl rfl rfl rfl ?_
        refine Zf (Zl rfl rfl rfl) rfl ?_
        exact Zx rfl ⟨rfl, rfl, rfl, trivial⟩ (trivial)
       ·
        refine Zk rfl rfl (ym rfl rfl (Zk rfl rfl (Zf (Zay rfl rfl rfl) rfl ?_)))
        refine Zk rfl rfl (Zf (Zm rfl rfl rfl) rfl (Zk rfl rfl (Zf (Zl rfl rfl rfl) rfl (Zf (Zm rfl rfl rfl) rfl (ym rfl rfl ?_)))))
        refine Zad 35 rfl (fun hg5_17 => ?_) (fun hg5_17 => ?_)
        ·
         iterate 7 refine Zo rfl rfl rfl rfl ?_
         refine Zf (Zl rfl rfl rfl) rfl ?_
         exact Zx rfl ⟨rfl, rfl, rfl, trivial⟩ (trivial)
        ·
         refine Zk rfl rfl (ym rfl rfl (Zk rfl rfl (ym rfl rfl (Zk rfl rfl (Zf (Zai rfl Tryz.s37 rfl rfl (by assumption) (by first | rfl | omega) (by omega)) rfl ?_)))))
         refine Zk rfl rfl (Zf (Zap rfl Tryz.f45' rfl (by decide) rfl) rfl ?_)
         refine Zk rfl rfl (Zf (Zag rfl Tryz.k37 rfl (by assumption) (by omega) (by assumption) (vs := [_]) rfl rfl rfl rfl) rfl ?_)
         refine Zk rfl rfl (ym rfl rfl (Zk rfl rfl (Zq rfl rfl ?_)))
         refine Zw (caps := []) trivial rfl rfl Tryz.c129 rfl (FnP.mono (ih (szI kids) (by omega) vk kids le u (Nat.le_refl _) (by omega) s5) ?_)
         rintro v u1 hle1 ⟨b2, rfl⟩
         refine Zf (Zm rfl rfl rfl) rfl ?_
         exact Zx rfl ⟨rfl, rfl, rfl, trivial⟩ (trivial)
      ·
       iterate 3 refine Zo rfl rfl rfl rfl ?_
       refine Zab rfl rfl rfl ?_
       refine Zab rfl rfl rfl ?_
       refine Zo rfl rfl rfl rfl (Zk rfl rfl (Zf (Zm rfl rfl rfl) rfl (Zf (Zm rfl rfl rfl) rfl (ym rfl rfl (Zk rfl rfl (ym rfl rfl (Zk rfl rfl ?_)))))))
       refine ym rfl rfl (Zk rfl rfl (Zf (Zai rfl Tryz.s37 rfl rfl (by assumption) (by first | rfl | omega) (by omega)) rfl ?_))
       refine Zk rfl rfl (Zf (Zap rfl Tryz.f45' rfl (by decide) rfl) rfl ?_)
       refine Zk rfl rfl (Zf (Zag rfl Tryz.k37 rfl (by assumption) (by omega) (by assumption) (vs := [_]) rfl rfl rfl rfl) rfl ?_)
       refine Zk rfl rfl (ym rfl rfl (Zk rfl rfl (Zq rfl rfl ?_)))
       refine Zw (caps := []) trivial rfl rfl Tryz.c129 rfl (FnP.mono (ih (szI kids) (by omega) vk kids le u (Nat.le_refl _) (by omega) s5) ?_)
       rintro v u1 hle1 ⟨b2, rfl⟩
       refine Zf (Zm rfl rfl rfl) rfl ?_
       exact Zx rfl ⟨rfl, rfl, rfl, trivial⟩ (trivial)
    ·
     refine Zo rfl rfl rfl rfl (Zo rfl rfl rfl rfl (Zf (Zm rfl rfl rfl) rfl (ym rfl rfl (Zk rfl rfl (ym rfl rfl (Zk rfl rfl (ym rfl rfl ?_)))))))
     refine Zad 26 rfl (fun hg5_8 => ?_) (fun hg5_8 => ?_)
     ·
      refine Zk rfl rfl (ym rfl rfl (Zk rfl rfl (Zf (Zay rfl rfl rfl) rfl ?_)))
      refine Zk rfl rfl (ym rfl rfl ?_)
      refine Zad 29 rfl (fun hg5_11 => ?_) (fun hg5_11 => ?_)
      ·
       refine Zo rfl rfl rfl rfl (Zo rfl rfl rfl rfl (Zk rfl rfl (Zf (Zl rfl rfl rfl) rfl (Zk rfl rfl (Zf (Zl rfl rfl rfl) rfl (Zf (Zm rfl rfl rfl) rfl (ym rfl rfl ?_)))))))
       iterate 7 refine Zo rfl rfl rfl rfl ?_
       refine Zf (Zl rfl rfl rfl) rfl ?_
       exact Zx rfl ⟨rfl, rfl, rfl, trivial⟩ (trivial)
      ·
       refine Zk rfl rfl (ym rfl rfl (Zk rfl rfl (Zf (Zay rfl rfl rfl) rfl ?_)))
       refine Zk rfl rfl (Zf (Zm rfl rfl rfl) rfl (Zk rfl rfl (Zf (Zl rfl rfl rfl) rfl (Zf (Zm rfl rfl rfl) rfl (ym rfl rfl ?_)))))
       refine Zad 35 rfl (fun hg5_17 => ?_) (fun hg5_17 => ?_)
       ·
        iterate 7 refine Zo rfl rfl rfl rfl ?_
        refine Zf (Zl rfl rfl rfl) rfl ?_
        exact Zx rfl ⟨rfl, rfl, rfl, trivial⟩ (trivial)
       ·
        refine Zk rfl rfl (ym rfl rfl (Zk rfl rfl (ym rfl rfl (Zk rfl rfl (Zf (Zai rfl Tryz.s37 rfl rfl (by assumption) (by first | rfl | omega) (by omega)) rfl ?_)))))
        refine Zk rfl rfl (Zf (Zap rfl Tryz.f45' rfl (by decide) rfl) rfl ?_)
        refine Zk rfl rfl (Zf (Zag rfl Tryz.k37 rfl (by assumption) (by omega) (by assumption) (vs := [_]) rfl rfl rfl rfl) rfl ?_)
        refine Zk rfl rfl (ym rfl rfl (Zk rfl rfl (Zq rfl rfl ?_)))
        refine Zw (caps := []) trivial rfl rfl Tryz.c129 rfl (FnP.mono (ih (szI kids) (by omega) vk kids le u (Nat.le_refl _) (by omega) s5) ?_)
        rintro v u1 hle1 ⟨b2, rfl⟩
        refine Zf (Zm rfl rfl rfl) rfl ?_
        exact Zx rfl ⟨rfl, rfl, rfl, trivial⟩ (trivial)
     ·
      iterate 3 refine Zo rfl rfl rfl rfl ?_
      refine Zab rfl rfl rfl ?_
      refine Zab rfl rfl rfl ?_
      refine Zo rfl rfl rfl rfl (Zk rfl rfl (Zf (Zm rfl rfl rfl) rfl (Zf (Zm rfl rfl rfl) rfl (ym rfl rfl (Zk rfl rfl (ym rfl rfl (Zk rfl rfl ?_)))))))
      refine ym rfl rfl (Zk rfl rfl (Zf (Zai rfl Tryz.s37 rfl rfl (by assumption) (by first | rfl | omega) (by omega)) rfl ?_))
      refine Zk rfl rfl (Zf (Zap rfl Tryz.f45' rfl (by decide) rfl) rfl ?_)
      refine Zk rfl rfl (Zf (Zag rfl Tryz.k37 rfl (by assumption) (by omega) (by assumption) (vs := [_]) rfl rfl rfl rfl) rfl ?_)
      refine Zk rfl rfl (ym rfl rfl (Zk rfl rfl (Zq rfl rfl ?_)))
      refine Zw (caps := []) trivial rfl rfl Tryz.c129 rfl (FnP.mono (ih (szI kids) (by omega) vk kids le u (Nat.le_refl _) (by omega) s5) ?_)
      rintro v u1 hle1 ⟨b2, rfl⟩
      refine Zf (Zm rfl rfl rfl) rfl ?_
      exact Zx rfl ⟨rfl, rfl, rfl, trivial⟩ (trivial)
   refine Zd (ρ' := [(0, _), (1, _), (5, _), (43, _)]) ⟨rfl, rfl, rfl, rfl, trivial⟩ ?_
   refine Zb ?_
   refine Zn rfl (fun hb5 => ?_) (fun hb5 => ?_)
   ·
    refine Zc (Za (ya rfl rfl (Zd (ρ' := [(4, _)]) ⟨rfl, trivial⟩ ?_)))
    refine Zb (Zv (Zr (Zh (Zh (Zr (Zh ?_))))))
    refine Zav (.tmp rfl) ?_
    exact ⟨_, rfl⟩
   ·
    refine Zs (Zaf (Zb (Za (ym rfl rfl (Zf (Zas rfl rfl rfl (Zu (by omega))) rfl ?_)))))
    refine ya rfl rfl (Zd (ρ' := [(0, _), (1, _), (5, _)]) ⟨rfl, rfl, rfl, trivial⟩ ?_)
    refine Zae ?_
    refine ⟨m - 1, [(0, _), (1, _), (5, _)], [], by omega, ⟨rfl, rfl, rfl, trivial⟩, trivial, i + 1, by omega, hle2, (by first | rfl | simp), (by first | rfl | (simp only [List.cons.injEq, Prod.mk.injEq, SV.v.injEq, Value.int.injEq, true_and, and_true]; omega) | simp), ?_⟩
    rfl
  ·
   skip
   refine Zat ?_
   refine Zp (Zp ?_)
   refine Zah ?_
   refine Zb (Zc (Za (ya rfl rfl (Zd (ρ' := [(4, _)]) ⟨rfl, trivial⟩ ?_))))
   refine Zb (Zv ?_)
   refine Zav (.tmp rfl) ?_
   exact ⟨_, rfl⟩
theorem auto_fn (s : Bs) (hs : s.length ≤ 10000000) (u : View) : FnP Tryz.prog 167 [str s] u fun r _ => ∃ x, r = .bool x := by
 refine FnP.intro [.tmp 2] Tryz.func167 rfl rfl rfl ?_
 intro w0 D hw0
 refine Zc (Za (ya rfl rfl (Zd (ρ' := [(0, _)]) ⟨rfl, trivial⟩ ?_)))
 refine Zb (Zc (Za (ya rfl rfl (Zd (ρ' := [(0, _), (3, _)]) ⟨rfl, rfl, trivial⟩ ?_))))
 refine Zb (Zc (Zaa ?_))
 refine Zau (fun m ρ σ u' => ∃ i : Nat, i + m = s.length + 1 ∧ VLe u u' ∧ σ = [] ∧ ρ = [(0, .v (str s)), (3, .v (.int .i64 i))] ∧ (u = u' ∧ i ≤ s.length)) (s.length + 1) ?_ ?_
 ·
  refine ⟨[(0, _), (3, _)], [], ⟨rfl, rfl, trivial⟩, trivial, 0, by omega, VLe.refl _, (by first | rfl | simp), (by first | rfl | (simp only [List.cons.injEq, Prod.mk.injEq, SV.v.injEq, Value.int.injEq, true_and, and_true]; omega) | simp), ?_⟩
  exact ⟨rfl, Nat.zero_le _⟩
 ·
  rintro m ρ σ u' ⟨i, hi2, hle2, rfl, rfl, ⟨rfl, hil⟩⟩
  refine Zc (Zc (Za ?_))
  refine Zbc 28 31 (fun b => b = true → i < s.length) (ρk := [(0, _), (3, _)]) ⟨rfl, rfl, trivial⟩ ?_ fun mb2_27 hm2_27 => ?_
  ·
   refine ym rfl rfl (ym rfl rfl (Zf (Zan rfl rfl Tryz.str9 rfl) rfl ?_))
   refine Zf (Zbh rfl rfl rfl) rfl ?_
   refine ym rfl rfl ?_
   refine Zad 8 rfl (fun hg2_4 => ?_) (fun hg2_4 => ?_)
   ·
    refine Zk rfl rfl (ym rfl rfl ?_)
    have hlt : i < s.length := by have := of_decide_eq_true hg2_4; omega
    obtain ⟨c, hc, _⟩ := byte_at hlt
    refine Zk rfl rfl (ym rfl rfl (Zk rfl rfl (Zf (Zao rfl Tryz.str9 rfl rfl (j := i) rfl hc) rfl ?_)))
    refine Zk rfl rfl (Zf (Zbw rfl rfl rfl) rfl ?_)
    refine Zk rfl rfl (ym rfl rfl ?_)
    refine Zad 13 rfl (fun hg2_9 => ?_) (fun hg2_9 => ?_)
    ·
     refine Zk rfl rfl (ym rfl rfl (Zk rfl rfl (ym rfl rfl (Zk rfl rfl (Zf (Zao rfl Tryz.str9 rfl rfl (j := i) rfl hc) rfl ?_)))))
     refine Zk rfl rfl (Zf (y_leq rfl rfl rfl) rfl ?_)
     refine Zk rfl rfl (Zf (Zl rfl rfl rfl) rfl (Zk rfl rfl (ym rfl rfl ?_)))
     refine Zad 19 rfl (fun hg2_15 => ?_) (fun hg2_15 => ?_)
     ·
      iterate 5 refine Zo rfl rfl rfl rfl ?_
      refine Zab rfl rfl rfl ?_
      refine Zab rfl rfl rfl ?_
      refine Zab rfl rfl rfl ?_
      refine Zab rfl rfl rfl ?_
      refine Zo rfl rfl rfl rfl (Zk rfl rfl (Zf (Zl rfl rfl rfl) rfl (Zf (Zl rfl rfl rfl) rfl ?_)))
      exact Zx rfl ⟨rfl, rfl, trivial⟩ (by (first | exact fun _ => hlt | exact fun h => absurd h (by decide)))
     ·
      refine Zk rfl rfl (ym rfl rfl (Zk rfl rfl (ym rfl rfl (Zk rfl rfl (Zf (Zao rfl Tryz.str9 rfl rfl (j := i) rfl hc) rfl ?_)))))
      refine Zk rfl rfl (Zf (Zbw rfl rfl rfl) rfl ?_)
      refine Zk rfl rfl (ym rfl rfl ?_)
      refine Zad 24 rfl (fun hg2_20 => ?_) (fun hg2_20 => ?_)
      ·
       refine Zk rfl rfl (ym rfl rfl (Zk rfl rfl (ym rfl rfl (Zk rfl rfl (Zf (Zao rfl Tryz.str9 rfl rfl (j := i) rfl hc) rfl ?_)))))
       refine Zk rfl rfl (Zf (y_leq rfl rfl rfl) rfl ?_)
       refine Zk rfl rfl (Zf (Zl rfl rfl rfl) rfl (Zk rfl rfl (Zf (Zm rfl rfl rfl) rfl (Zf (Zl rfl rfl rfl) rfl ?_))))
       exact Zx rfl ⟨rfl, rfl, trivial⟩ (by (first | exact fun _ => hlt | exact fun h => absurd h (by decide)))
      ·
       iterate 4 refine Zo rfl rfl rfl rfl ?_
       refine Zk rfl rfl (Zf (Zm rfl rfl rfl) rfl (Zk rfl rfl (Zf (Zm rfl rfl rfl) rfl (Zf (Zl rfl rfl rfl) rfl ?_))))
       exact Zx rfl ⟨rfl, rfl, trivial⟩ (by (first | exact fun _ => hlt | exact fun h => absurd h (by decide)))
    ·
     iterate 4 refine Zo rfl rfl rfl rfl ?_
     refine Zk rfl rfl (Zf (Zm rfl rfl rfl) rfl (Zk rfl rfl (ym rfl rfl (Zk rfl rfl (ym rfl rfl (Zk rfl rfl (ym rfl rfl ?_)))))))
     refine Zk rfl rfl (Zf (Zao rfl Tryz.str9 rfl rfl (j := i) rfl hc) rfl ?_)
     refine Zk rfl rfl (Zf (Zbw rfl rfl rfl) rfl ?_)
     refine Zk rfl rfl (ym rfl rfl ?_)
     refine Zad 24 rfl (fun hg2_20 => ?_) (fun hg2_20 => ?_)
     ·
      refine Zk rfl rfl (ym rfl rfl (Zk rfl rfl (ym rfl rfl (Zk rfl rfl (Zf (Zao rfl Tryz.str9 rfl rfl (j := i) rfl hc) rfl ?_)))))
      refine Zk rfl rfl (Zf (y_leq rfl rfl rfl) rfl ?_)
      refine Zk rfl rfl (Zf (Zl rfl rfl rfl) rfl (Zk rfl rfl (Zf (Zm rfl rfl rfl) rfl (Zf (Zl rfl rfl rfl) rfl ?_))))
      exact Zx rfl ⟨rfl, rfl, trivial⟩ (by (first | exact fun _ => hlt | exact fun h => absurd h (by decide)))
     ·
      iterate 4 refine Zo rfl rfl rfl rfl ?_
      refine Zk rfl rfl (Zf (Zm rfl rfl rfl) rfl (Zk rfl rfl (Zf (Zm rfl rfl rfl) rfl (Zf (Zl rfl rfl rfl) rfl ?_))))
      exact Zx rfl ⟨rfl, rfl, trivial⟩ (by (first | exact fun _ => hlt | exact fun h => absurd h (by decide)))
   ·
    iterate 5 refine Zo rfl rfl rfl rfl ?_
    refine Zab rfl rfl rfl ?_
    refine Zab rfl rfl rfl ?_
    refine Zab rfl rfl rfl ?_
    refine Zab rfl rfl rfl ?_
    refine Zo rfl rfl rfl rfl (Zo rfl rfl rfl rfl ?_)
    refine Zab rfl rfl rfl ?_
    refine Zab rfl rfl rfl ?_
    refine Zab rfl rfl rfl ?_
    refine Zab rfl rfl rfl ?_
    refine Zab rfl rfl rfl ?_
    refine Zab rfl rfl rfl ?_
    refine Zab rfl rfl rfl ?_
    refine Zab rfl rfl rfl ?_
    refine Zab rfl rfl rfl ?_
    refine Zab rfl rfl rfl ?_
    refine Zo rfl rfl rfl rfl (Zf (Zm rfl rfl rfl) rfl ?_)
    exact Zx rfl ⟨rfl, rfl, trivial⟩ (by (first | exact fun _ => hlt | exact fun h => absurd h (by decide)))
  refine Zd (ρ' := [(0, _), (3, _), (31, _)]) ⟨rfl, rfl, rfl, trivial⟩ ?_
  refine Zb ?_
  refine Zn rfl (fun hb2 => ?_) (fun hb2 => ?_)
  ·
   have hlt := hm2_27 hb2
   refine Zs (Zb (Zaa (Za (ym rfl rfl (Zf (Zas rfl rfl rfl (Zu (by omega))) rfl ?_)))))
   refine ya rfl rfl (Zd (ρ' := [(0, _), (3, _)]) ⟨rfl, rfl, trivial⟩ ?_)
   refine Zaf (Zae ?_)
   refine ⟨m - 1, [(0, _), (3, _)], [], by omega, ⟨rfl, rfl, trivial⟩, trivial, i + 1, by omega, hle2, (by first | rfl | simp), (by first | rfl | (simp only [List.cons.injEq, Prod.mk.injEq, SV.v.injEq, Value.int.injEq, true_and, and_true]; omega) | simp), ?_⟩
   exact ⟨rfl, hlt⟩
  ·
   skip
   refine Zat ?_
   refine Zp (Zp ?_)
   refine Zah ?_
   refine Zb (Zc (Za ?_))
   refine Zbc 27 60 (fun _ => True) (ρk := []) trivial ?_ fun mb4_26 hm4_26 => ?_
   ·
    refine ym rfl rfl (Zf (Zbw rfl rfl rfl) rfl ?_)
    refine ym rfl rfl ?_
    refine Zad 36 rfl (fun hg4_2 => ?_) (fun hg4_2 => ?_)
    ·
     refine Zk rfl rfl (ym rfl rfl (Zk rfl rfl (Zf (y_leq rfl rfl rfl) rfl ?_)))
     refine Zf (Zl rfl rfl rfl) rfl (ym rfl rfl ?_)
     refine Zad 40 rfl (fun hg4_6 => ?_) (fun hg4_6 => ?_)
     ·
      refine Zk rfl rfl (ym rfl rfl (Zk rfl rfl (ym rfl rfl (Zk rfl rfl (Zf (Zan rfl rfl Tryz.str9 rfl) rfl ?_)))))
      refine Zk rfl rfl (Zf (Zbh rfl rfl rfl) rfl ?_)
      refine Zf (Zl rfl rfl rfl) rfl (ym rfl rfl ?_)
      refine Zad 46 rfl (fun hg4_12 => ?_) (fun hg4_12 => ?_)
      ·
       refine Zk rfl rfl (ym rfl rfl ?_)
       have hlt4 : i < s.length := by have := of_decide_eq_true hg4_12; omega
       obtain ⟨c4, hc4, _⟩ := byte_at hlt4
       refine Zk rfl rfl (ym rfl rfl (Zk rfl rfl (Zf (Zao rfl Tryz.str9 rfl rfl (j := i) rfl hc4) rfl ?_)))
       refine Zk rfl rfl (Zf (Zay rfl rfl rfl) rfl ?_)
       refine Zf (Zl rfl rfl rfl) rfl (ym rfl rfl ?_)
       refine Zad 52 rfl (fun hg4_18 => ?_) (fun hg4_18 => ?_)
       ·
        refine Zk rfl rfl (ym rfl rfl (Zk rfl rfl (Zq rfl rfl ?_)))
        refine Zw (caps := []) trivial rfl rfl Tryz.c29 rfl (FnP.mono (line4_fn s hs u) ?_)
        rintro v u1 hle1 ⟨b1, rfl, _⟩
        refine Zf (Zl rfl rfl rfl) rfl (ym rfl rfl ?_)
        refine Zad 56 rfl (fun hg4_22 => ?_) (fun hg4_22 => ?_)
        ·
         refine Zk rfl rfl (ym rfl rfl (Zk rfl rfl (Zq rfl rfl ?_)))
         refine Zw (caps := []) trivial rfl rfl Tryz.c135 rfl (FnP.mono (khas_fn s _ hs (by decide) u) ?_)
         rintro v u1 hle1 ⟨b2, rfl⟩
         refine Zk rfl rfl (Zf (Zbs rfl rfl) rfl ?_)
         refine Zf (Zl rfl rfl rfl) rfl ?_
         exact Zx rfl trivial (trivial)
        ·
         iterate 3 refine Zo rfl rfl rfl rfl ?_
         refine Zf (Zm rfl rfl rfl) rfl ?_
         exact Zx rfl trivial (trivial)
       ·
        refine Zo rfl rfl rfl rfl (Zo rfl rfl rfl rfl (Zf (Zm rfl rfl rfl) rfl (ym rfl rfl ?_)))
        iterate 3 refine Zo rfl rfl rfl rfl ?_
        refine Zf (Zm rfl rfl rfl) rfl ?_
        exact Zx rfl trivial (trivial)
      ·
       iterate 4 refine Zo rfl rfl rfl rfl ?_
       refine Zf (Zm rfl rfl rfl) rfl (ym rfl rfl (Zo rfl rfl rfl rfl (Zo rfl rfl rfl rfl (Zf (Zm rfl rfl rfl) rfl (ym rfl rfl ?_)))))
       iterate 3 refine Zo rfl rfl rfl rfl ?_
       refine Zf (Zm rfl rfl rfl) rfl ?_
       exact Zx rfl trivial (trivial)
     ·
      iterate 4 refine Zo rfl rfl rfl rfl ?_
      refine Zf (Zm rfl rfl rfl) rfl (ym rfl rfl ?_)
      iterate 4 refine Zo rfl rfl rfl rfl ?_
      refine Zf (Zm rfl rfl rfl) rfl (ym rfl rfl (Zo rfl rfl rfl rfl (Zo rfl rfl rfl rfl (Zf (Zm rfl rfl rfl) rfl (ym rfl rfl ?_)))))
      iterate 3 refine Zo rfl rfl rfl rfl ?_
      refine Zf (Zm rfl rfl rfl) rfl ?_
      exact Zx rfl trivial (trivial)
    ·
     refine Zo rfl rfl rfl rfl (Zo rfl rfl rfl rfl (Zf (Zm rfl rfl rfl) rfl (ym rfl rfl ?_)))
     iterate 4 refine Zo rfl rfl rfl rfl ?_
     refine Zf (Zm rfl rfl rfl) rfl (ym rfl rfl ?_)
     iterate 4 refine Zo rfl rfl rfl rfl ?_
     refine Zf (Zm rfl rfl rfl) rfl (ym rfl rfl (Zo rfl rfl rfl rfl (Zo rfl rfl rfl rfl (Zf (Zm rfl rfl rfl) rfl (ym rfl rfl ?_)))))
     iterate 3 refine Zo rfl rfl rfl rfl ?_
     refine Zf (Zm rfl rfl rfl) rfl ?_
     exact Zx rfl trivial (trivial)
   refine ya rfl rfl (Zd (ρ' := [(2, _)]) ⟨rfl, trivial⟩ ?_)
   refine Zb (Zv ?_)
   refine Zav (.tmp rfl) ?_
   exact ⟨_, rfl⟩
theorem cites_fn (v : Value) (l : List DCite) (hl : l.length ≤ 9) (hb : ∀ c ∈ l, c.key.length + c.pre.length + c.suf.length ≤ 50000) (u : View) (h : CiS u v l) : FnP Tryz.prog 166 [v] u fun r _ => ∃ e : Int, r = .int .i64 e := by
 obtain ⟨ad, cap, rfl, h1⟩ := h
 refine FnP.intro [.tmp 2] Tryz.func166 rfl rfl rfl ?_
 intro w0 D hw0
 refine Zc (Za (ya rfl rfl (Zd (ρ' := [(0, _)]) ⟨rfl, trivial⟩ ?_)))
 refine Zb (Zc (Zc (Za (ym rfl rfl (Zf (Zal rfl rfl Tryz.s43 rfl) rfl ?_)))))
 refine Zf (Zay rfl rfl rfl) rfl ?_
 refine Zd (ρ' := [(0, _), (7, _)]) ⟨rfl, rfl, trivial⟩ ?_
 refine Zb ?_
 refine Zn rfl (fun hb1 => ?_) (fun hb1 => ?_)
 ·
  refine Zc (Za (ya rfl rfl (Zd (ρ' := [(2, _)]) ⟨rfl, trivial⟩ ?_)))
  refine Zb (Zv (Zh ?_))
  refine Zav (.tmp rfl) ?_
  exact ⟨_, rfl⟩
 ·
  refine Zs (Zb (Zc (Zc (Za (ya rfl rfl (Zd (ρ' := [(0, _), (3, _)]) ⟨rfl, rfl, trivial⟩ ?_))))))
  refine Zb (Zaa ?_)
  refine Zau (fun m ρ σ u' => ∃ i : Nat, i + m = l.length ∧ VLe u u' ∧ σ = [] ∧ ρ = [(0, .v (.slice ad l.length cap)), (3, .v (.int .i64 i))] ∧ (u = u')) (l.length) ?_ ?_
  ·
   refine ⟨[(0, _), (3, _)], [], ⟨rfl, rfl, trivial⟩, trivial, 0, by omega, VLe.refl _, (by first | rfl | simp), (by first | rfl | (simp only [List.cons.injEq, Prod.mk.injEq, SV.v.injEq, Value.int.injEq, true_and, and_true]; omega) | simp), ?_⟩
   rfl
  ·
   rintro m ρ σ u' ⟨i, hi4, hle4, rfl, rfl, rfl⟩
   refine Zc (Zc (Za (ym rfl rfl (ym rfl rfl (Zf (Zal rfl rfl Tryz.s43 rfl) rfl ?_)))))
   refine Zf (Zbh rfl rfl rfl) rfl ?_
   refine Zd (ρ' := [(0, _), (3, _), (11, _)]) ⟨rfl, rfl, rfl, trivial⟩ ?_
   refine Zb ?_
   refine Zn rfl (fun hb4 => ?_) (fun hb4 => ?_)
   ·
    have hlt : i < l.length := by have := of_decide_eq_true hb4; omega
    have hg := List.getElem?_eq_getElem hlt
    have hcc := cut_citesC hg
    have hsl := hb _ (List.mem_of_getElem? hg)
    refine Zs (Zb (Zc (Zaa (Zc (Za (ym rfl rfl (ym rfl rfl (Zf (Zai rfl Tryz.s43 rfl rfl (by assumption) (by first | rfl | omega) (by omega)) rfl ?_))))))))
    refine Zf (Zag rfl Tryz.k105 rfl (by assumption) (by omega) (by assumption) (vs := [_, _, _, _]) rfl rfl rfl rfl) rfl ?_
    refine Zq rfl rfl ?_
    refine Zax trivial Tryz.z105 rfl rfl rfl ?_
    refine Zq rfl rfl ?_
    refine Zt trivial rfl Tryz.k105 rfl rfl rfl (vs := [_, _, _, _]) rfl rfl (by first | rfl | assumption | simp [Value.oneCell', str]) (Nat.le_of_ble_eq_true rfl) rfl ?_
    refine Zd (ρ' := [(0, _), (3, _), (4, _)]) ⟨rfl, rfl, rfl, trivial⟩ ?_
    refine Zb (Zc (Zc (Za (Zf (Zi rfl Tryz.f105' rfl (by decide) rfl) rfl ?_))))
    refine Zf (Zj rfl Tryz.k9 rfl rfl rfl (vs := [_]) rfl rfl rfl) rfl ?_
    refine Zq rfl rfl ?_
    refine Zw (caps := []) trivial rfl rfl Tryz.c28 rfl (FnP.mono (name_fn _ (by omega) u) ?_)
    rintro v u1 hle1 ⟨b1, rfl, _⟩
    refine Zf (Zbs rfl rfl) rfl ?_
    refine Zd (ρ' := [(0, _), (3, _), (4, _), (21, _)]) ⟨rfl, rfl, rfl, rfl, trivial⟩ ?_
    refine Zb ?_
    refine Zn rfl (fun hb7 => ?_) (fun hb7 => ?_)
    ·
     refine Zc (Za (ya rfl rfl (Zd (ρ' := [(2, _)]) ⟨rfl, trivial⟩ ?_)))
     refine Zb (Zv (Zh (Zr (Zh (Zh (Zr (Zh ?_)))))))
     refine Zav (.tmp rfl) ?_
     exact ⟨_, rfl⟩
    ·
     refine Zs (Zb (Zc (Za ?_)))
     refine Zbc 32 53 (fun _ => True) (ρk := [(0, _), (3, _)]) ⟨rfl, rfl, trivial⟩ ?_ fun mb9_31 hm9_31 => ?_
     ·
      refine Zf (Zi rfl Tryz.f105' rfl (by decide) rfl) rfl ?_
      refine Zf (Zj rfl Tryz.k9 rfl rfl rfl (vs := [_]) rfl rfl rfl) rfl ?_
      refine Zq rfl rfl ?_
      refine Zw (caps := []) trivial rfl rfl Tryz.c29 rfl (FnP.mono (line4_fn _ (by omega) u) ?_)
      rintro v u1 hle1 ⟨b2, rfl, _⟩
      refine Zf (Zbs rfl rfl) rfl ?_
      refine ym rfl rfl ?_
      refine Zad 26 rfl (fun hg9_4 => ?_) (fun hg9_4 => ?_)
      ·
       iterate 4 refine Zo rfl rfl rfl rfl ?_
       refine Zf (Zl rfl rfl rfl) rfl (ym rfl rfl ?_)
       iterate 3 refine Zo rfl rfl rfl rfl ?_
       refine Zf (Zl rfl rfl rfl) rfl (ym rfl rfl ?_)
       iterate 4 refine Zo rfl rfl rfl rfl ?_
       refine Zf (Zl rfl rfl rfl) rfl (ym rfl rfl ?_)
       iterate 4 refine Zo rfl rfl rfl rfl ?_
       refine Zf (Zl rfl rfl rfl) rfl (ym rfl rfl ?_)
       iterate 3 refine Zo rfl rfl rfl rfl ?_
       refine Zf (Zl rfl rfl rfl) rfl ?_
       exact Zx rfl ⟨rfl, rfl, trivial⟩ (trivial)
      ·
       refine Zk rfl rfl (Zf (Zi rfl Tryz.f105' rfl (by decide) rfl) rfl ?_)
       refine Zk rfl rfl (Zf (Zj rfl Tryz.k9 rfl rfl rfl (vs := [_]) rfl rfl rfl) rfl ?_)
       refine Zk rfl rfl (Zq rfl rfl ?_)
       refine Zw (caps := []) trivial rfl rfl Tryz.c30 rfl (FnP.mono (trimmed4_fn _ (by omega) u) ?_)
       rintro v u1 hle1 ⟨b3, rfl⟩
       refine Zk rfl rfl (Zf (Zbs rfl rfl) rfl ?_)
       refine Zf (Zm rfl rfl rfl) rfl (ym rfl rfl ?_)
       refine Zad 32 rfl (fun hg9_10 => ?_) (fun hg9_10 => ?_)
       ·
        iterate 3 refine Zo rfl rfl rfl rfl ?_
        refine Zf (Zl rfl rfl rfl) rfl (ym rfl rfl ?_)
        iterate 4 refine Zo rfl rfl rfl rfl ?_
        refine Zf (Zl rfl rfl rfl) rfl (ym rfl rfl ?_)
        iterate 4 refine Zo rfl rfl rfl rfl ?_
        refine Zf (Zl rfl rfl rfl) rfl (ym rfl rfl ?_)
        iterate 3 refine Zo rfl rfl rfl rfl ?_
        refine Zf (Zl rfl rfl rfl) rfl ?_
        exact Zx rfl ⟨rfl, rfl, trivial⟩ (trivial)
       ·
        refine Zk rfl rfl (Zf (Zi rfl Tryz.f105' rfl (by decide) rfl) rfl ?_)
        refine Zk rfl rfl (Zf (Zj rfl Tryz.k9 rfl rfl rfl (vs := [_]) rfl rfl rfl) rfl ?_)
        refine Zk rfl rfl (Zq rfl rfl ?_)
        refine Zw (caps := []) trivial rfl rfl Tryz.c135 rfl (FnP.mono (khas_fn _ _ (by omega) (by decide) u) ?_)
        rintro v u1 hle1 ⟨b4, rfl⟩
        refine Zf (Zm rfl rfl rfl) rfl (ym rfl rfl ?_)
        refine Zad 37 rfl (fun hg9_15 => ?_) (fun hg9_15 => ?_)
        ·
         iterate 4 refine Zo rfl rfl rfl rfl ?_
         refine Zf (Zl rfl rfl rfl) rfl (ym rfl rfl ?_)
         iterate 4 refine Zo rfl rfl rfl rfl ?_
         refine Zf (Zl rfl rfl rfl) rfl (ym rfl rfl ?_)
         iterate 3 refine Zo rfl rfl rfl rfl ?_
         refine Zf (Zl rfl rfl rfl) rfl ?_
         exact Zx rfl ⟨rfl, rfl, trivial⟩ (trivial)
        ·
         refine Zk rfl rfl (Zf (Zi rfl Tryz.f105' rfl (by decide) rfl) rfl ?_)
         refine Zk rfl rfl (Zf (Zj rfl Tryz.k9 rfl rfl rfl (vs := [_]) rfl rfl rfl) rfl ?_)
         refine Zk rfl rfl (Zq rfl rfl ?_)
         refine Zw (caps := []) trivial rfl rfl Tryz.c29 rfl (FnP.mono (line4_fn _ (by omega) u) ?_)
         rintro v u1 hle1 ⟨b5, rfl, _⟩
         refine Zk rfl rfl (Zf (Zbs rfl rfl) rfl ?_)
         refine Zf (Zm rfl rfl rfl) rfl (ym rfl rfl ?_)
         refine Zad 43 rfl (fun hg9_21 => ?_) (fun hg9_21 => ?_)
         ·
          iterate 4 refine Zo rfl rfl rfl rfl ?_
          refine Zf (Zl rfl rfl rfl) rfl (ym rfl rfl ?_)
          iterate 3 refine Zo rfl rfl rfl rfl ?_
          refine Zf (Zl rfl rfl rfl) rfl ?_
          exact Zx rfl ⟨rfl, rfl, trivial⟩ (trivial)
         ·
          refine Zk rfl rfl (Zf (Zi rfl Tryz.f105' rfl (by decide) rfl) rfl ?_)
          refine Zk rfl rfl (Zf (Zj rfl Tryz.k9 rfl rfl rfl (vs := [_]) rfl rfl rfl) rfl ?_)
          refine Zk rfl rfl (Zq rfl rfl ?_)
          refine Zw (caps := []) trivial rfl rfl Tryz.c30 rfl (FnP.mono (trimmed4_fn _ (by omega) u) ?_)
          rintro v u1 hle1 ⟨b6, rfl⟩
          refine Zk rfl rfl (Zf (Zbs rfl rfl) rfl ?_)
          refine Zf (Zm rfl rfl rfl) rfl (ym rfl rfl ?_)
          refine Zad 49 rfl (fun hg9_27 => ?_) (fun hg9_27 => ?_)
          ·
           iterate 3 refine Zo rfl rfl rfl rfl ?_
           refine Zf (Zl rfl rfl rfl) rfl ?_
           exact Zx rfl ⟨rfl, rfl, trivial⟩ (trivial)
          ·
           refine Zk rfl rfl (Zf (Zi rfl Tryz.f105' rfl (by decide) rfl) rfl ?_)
           refine Zk rfl rfl (Zf (Zj rfl Tryz.k9 rfl rfl rfl (vs := [_]) rfl rfl rfl) rfl ?_)
           refine Zk rfl rfl (Zq rfl rfl ?_)
           refine Zw (caps := []) trivial rfl rfl Tryz.c135 rfl (FnP.mono (khas_fn _ _ (by omega) (by decide) u) ?_)
           rintro v u1 hle1 ⟨b7, rfl⟩
           refine Zf (Zm rfl rfl rfl) rfl ?_
           exact Zx rfl ⟨rfl, rfl, trivial⟩ (trivial)
     refine Zd (ρ' := [(0, _), (3, _), (53, _)]) ⟨rfl, rfl, rfl, trivial⟩ ?_
     refine Zb ?_
     refine Zn rfl (fun hb9 => ?_) (fun hb9 => ?_)
     ·
      refine Zc (Za (ya rfl rfl (Zd (ρ' := [(2, _)]) ⟨rfl, trivial⟩ ?_)))
      refine Zb (Zv (Zr (Zh (Zh (Zr (Zh ?_))))))
      refine Zav (.tmp rfl) ?_
      exact ⟨_, rfl⟩
     ·
      refine Zs (Zaf (Zb (Za (ym rfl rfl (Zf (Zas rfl rfl rfl (Zu (by omega))) rfl ?_)))))
      refine ya rfl rfl (Zd (ρ' := [(0, _), (3, _)]) ⟨rfl, rfl, trivial⟩ ?_)
      refine Zae ?_
      refine ⟨m - 1, [(0, _), (3, _)], [], by omega, ⟨rfl, rfl, trivial⟩, trivial, i + 1, by omega, hle4, (by first | rfl | simp), (by first | rfl | (simp only [List.cons.injEq, Prod.mk.injEq, SV.v.injEq, Value.int.injEq, true_and, and_true]; omega) | simp), ?_⟩
      rfl
   ·
    skip
    refine Zat ?_
    refine Zp (Zp ?_)
    refine Zah ?_
    refine Zb (Zc (Za (ya rfl rfl (Zd (ρ' := [(2, _)]) ⟨rfl, trivial⟩ ?_))))
    refine Zb (Zv ?_)
    refine Zav (.tmp rfl) ?_
    exact ⟨_, rfl⟩
structure InlK (u : View) (a : DAttr) (args : List Bs) (cites : List DCite) (kids : List Inl) (vc vp va vt vk : Value) (t d ti : Bs) : Prop where
 s1 : StrS u vc a.classes
 s2 : PrS u vp a.pairs
 s3 : StrS u va args
 s4 : CiS u vt cites
 s5 : InlS u vk kids
 sm : NodeSm t d ti a args cites
 sz : szI kids ≤ 100000
theorem ktarget_fn (k : Int) (t d ti : Bs) (a : DAttr) (args : List Bs) (cites : List DCite) (kids : List Inl) (vc vp va vt vk : Value) (u : View) (h : InlK u a args cites kids vc vp va vt vk t d ti) :
  FnP Tryz.prog 164 [.agg (inlV k t d ti a.id vc vp va vt vk).toArray] u fun r _ => ∃ e : Int, r = .int .i64 e := by
 obtain ⟨s1, s2, s3, s4, s5, ⟨q1, q2, q3, q4, q5, q6, q7, q8⟩, hsz⟩ := h
 refine FnP.intro [.tmp 2] Tryz.func164 rfl rfl rfl ?_
 intro w0 D hw0
 refine Zc (Za (Zq rfl rfl ?_))
 refine Zbl trivial rfl (cs := [_, _, _, _, _, _, _, _, _, _]) rfl rfl rfl rfl ?_
 refine ya rfl rfl (Zd (ρ' := [(1, _)]) ⟨rfl, trivial⟩ ?_)
 refine Zb (Zc (Zc (Za ?_)))
 refine Zbc 13 15 (fun _ => True) (ρk := [(1, _)]) ⟨rfl, trivial⟩ ?_ fun mb1_12 hm1_12 => ?_
 ·
  refine Zf (Zi rfl Tryz.f45' rfl (by decide) rfl) rfl ?_
  refine Zf (Zj rfl Tryz.k9 rfl rfl rfl (vs := [_]) rfl rfl rfl) rfl ?_
  refine Zf (Zbk rfl rfl rfl) rfl ?_
  refine ym rfl rfl ?_
  refine Zad 6 rfl (fun hg1_3 => ?_) (fun hg1_3 => ?_)
  ·
   refine Zk rfl rfl (Zf (Zi rfl Tryz.f45' rfl (by decide) rfl) rfl ?_)
   refine Zk rfl rfl (Zf (Zj rfl Tryz.k9 rfl rfl rfl (vs := [_]) rfl rfl rfl) rfl ?_)
   refine Zk rfl rfl (Zf (Zbk rfl rfl rfl) rfl ?_)
   refine Zk rfl rfl (ym rfl rfl ?_)
   refine Zad 10 rfl (fun hg1_7 => ?_) (fun hg1_7 => ?_)
   ·
    iterate 3 refine Zo rfl rfl rfl rfl ?_
    refine Zk rfl rfl (Zf (Zl rfl rfl rfl) rfl (Zf (Zl rfl rfl rfl) rfl ?_))
    exact Zx rfl ⟨rfl, trivial⟩ (trivial)
   ·
    refine Zk rfl rfl (Zf (Zi rfl Tryz.f45' rfl (by decide) rfl) rfl ?_)
    refine Zk rfl rfl (Zf (Zj rfl Tryz.k9 rfl rfl rfl (vs := [_]) rfl rfl rfl) rfl ?_)
    refine Zk rfl rfl (Zf (Zbk rfl rfl rfl) rfl ?_)
    refine Zk rfl rfl (Zf (Zm rfl rfl rfl) rfl (Zf (Zl rfl rfl rfl) rfl ?_))
    exact Zx rfl ⟨rfl, trivial⟩ (trivial)
  ·
   iterate 4 refine Zo rfl rfl rfl rfl ?_
   refine Zab rfl rfl rfl ?_
   refine Zab rfl rfl rfl ?_
   refine Zab rfl rfl rfl ?_
   refine Zo rfl rfl rfl rfl (Zf (Zm rfl rfl rfl) rfl ?_)
   exact Zx rfl ⟨rfl, trivial⟩ (trivial)
 refine Zd (ρ' := [(1, _), (15, _)]) ⟨rfl, rfl, trivial⟩ ?_
 refine Zb ?_
 refine Zn rfl (fun hb1 => ?_) (fun hb1 => ?_)
 ·
  refine Zc (Za (ya rfl rfl (Zd (ρ' := [(2, _)]) ⟨rfl, trivial⟩ ?_)))
  refine Zb (Zv (Zh ?_))
  refine Zav (.tmp rfl) ?_
  exact ⟨_, rfl⟩
 ·
  refine Zs (Zb (Zc (Zc (Za ?_))))
  refine Zbc 9 24 (fun _ => True) (ρk := [(1, _)]) ⟨rfl, trivial⟩ ?_ fun mb3_8 hm3_8 => ?_
  ·
   refine Zf (Zi rfl Tryz.f45' rfl (by decide) rfl) rfl ?_
   refine Zf (Zj rfl Tryz.k9 rfl rfl rfl (vs := [_]) rfl rfl rfl) rfl ?_
   refine Zf (Zbk rfl rfl rfl) rfl ?_
   refine ym rfl rfl ?_
   refine Zad 19 rfl (fun hg3_3 => ?_) (fun hg3_3 => ?_)
   ·
    refine Zk rfl rfl (Zf (Zi rfl Tryz.f45' rfl (by decide) rfl) rfl ?_)
    refine Zk rfl rfl (Zf (Zj rfl Tryz.k9 rfl rfl rfl (vs := [_]) rfl rfl rfl) rfl ?_)
    refine Zk rfl rfl (Zq rfl rfl ?_)
    refine Zw (caps := []) trivial rfl rfl Tryz.c118 rfl (FnP.mono (label_fn t (by omega) u) ?_)
    rintro v u1 hle1 ⟨b1, rfl⟩
    refine Zk rfl rfl (Zf (Zbs rfl rfl) rfl ?_)
    refine Zf (Zl rfl rfl rfl) rfl ?_
    exact Zx rfl ⟨rfl, trivial⟩ (trivial)
   ·
    iterate 4 refine Zo rfl rfl rfl rfl ?_
    refine Zf (Zm rfl rfl rfl) rfl ?_
    exact Zx rfl ⟨rfl, trivial⟩ (trivial)
  refine Zd (ρ' := [(1, _), (24, _)]) ⟨rfl, rfl, trivial⟩ ?_
  refine Zb ?_
  refine Zn rfl (fun hb3 => ?_) (fun hb3 => ?_)
  ·
   refine Zc (Za (ya rfl rfl (Zd (ρ' := [(2, _)]) ⟨rfl, trivial⟩ ?_)))
   refine Zb (Zv (Zh ?_))
   refine Zav (.tmp rfl) ?_
   exact ⟨_, rfl⟩
  ·
   refine Zs (Zb (Zc (Zc (Za ?_))))
   refine Zbc 10 34 (fun _ => True) (ρk := [(1, _)]) ⟨rfl, trivial⟩ ?_ fun mb5_9 hm5_9 => ?_
   ·
    refine Zf (Zi rfl Tryz.f45' rfl (by decide) rfl) rfl ?_
    refine Zf (Zj rfl Tryz.k9 rfl rfl rfl (vs := [_]) rfl rfl rfl) rfl ?_
    refine Zq rfl rfl ?_
    refine Zw (caps := []) trivial rfl rfl Tryz.c29 rfl (FnP.mono (line4_fn d (by omega) u) ?_)
    rintro v u1 hle1 ⟨b2, rfl, _⟩
    refine Zf (Zbs rfl rfl) rfl ?_
    refine ym rfl rfl ?_
    refine Zad 29 rfl (fun hg5_4 => ?_) (fun hg5_4 => ?_)
    ·
     iterate 4 refine Zo rfl rfl rfl rfl ?_
     refine Zf (Zl rfl rfl rfl) rfl ?_
     exact Zx rfl ⟨rfl, trivial⟩ (trivial)
    ·
     refine Zk rfl rfl (Zf (Zi rfl Tryz.f45' rfl (by decide) rfl) rfl ?_)
     refine Zk rfl rfl (Zf (Zj rfl Tryz.k9 rfl rfl rfl (vs := [_]) rfl rfl rfl) rfl ?_)
     refine Zk rfl rfl (Zq rfl rfl ?_)
     refine Zw (caps := []) trivial rfl rfl Tryz.c29 rfl (FnP.mono (line4_fn ti (by omega) u) ?_)
     rintro v u1 hle1 ⟨b3, rfl, _⟩
     refine Zk rfl rfl (Zf (Zbs rfl rfl) rfl ?_)
     refine Zf (Zm rfl rfl rfl) rfl ?_
     exact Zx rfl ⟨rfl, trivial⟩ (trivial)
   refine Zd (ρ' := [(1, _), (34, _)]) ⟨rfl, rfl, trivial⟩ ?_
   refine Zb ?_
   refine Zn rfl (fun hb5 => ?_) (fun hb5 => ?_)
   ·
    refine Zc (Za (ya rfl rfl (Zd (ρ' := [(2, _)]) ⟨rfl, trivial⟩ ?_)))
    refine Zb (Zv (Zh ?_))
    refine Zav (.tmp rfl) ?_
    exact ⟨_, rfl⟩
   ·
    refine Zs (Zb (Zc (Zc (Za ?_))))
    refine Zbc 8 42 (fun _ => True) (ρk := [(1, _)]) ⟨rfl, trivial⟩ ?_ fun mb7_7 hm7_7 => ?_
    ·
     refine Zf (Zi rfl Tryz.f45' rfl (by decide) rfl) rfl ?_
     refine Zf (Zj rfl Tryz.k3 rfl rfl rfl (vs := [_]) rfl rfl rfl) rfl ?_
     refine Zf (Zay rfl rfl rfl) rfl ?_
     refine ym rfl rfl ?_
     refine Zad 38 rfl (fun hg7_3 => ?_) (fun hg7_3 => ?_)
     ·
      refine Zk rfl rfl (Zf (Zi rfl Tryz.f45' rfl (by decide) rfl) rfl ?_)
      refine Zk rfl rfl (Zf (Zj rfl Tryz.k37 rfl rfl rfl (vs := [_]) rfl rfl rfl) rfl ?_)
      refine Zk rfl rfl (Zq rfl rfl ?_)
      refine Zw (caps := []) trivial rfl rfl Tryz.c129 rfl (FnP.mono (anyOf_fn (szI kids) vk kids false u (Nat.le_refl _) (by omega) s5) ?_)
      rintro v u1 hle1 ⟨b4, rfl⟩
      refine Zf (Zl rfl rfl rfl) rfl ?_
      exact Zx rfl ⟨rfl, trivial⟩ (trivial)
     ·
      iterate 3 refine Zo rfl rfl rfl rfl ?_
      refine Zf (Zm rfl rfl rfl) rfl ?_
      exact Zx rfl ⟨rfl, trivial⟩ (trivial)
    refine Zd (ρ' := [(1, _), (42, _)]) ⟨rfl, rfl, trivial⟩ ?_
    refine Zb ?_
    refine Zn rfl (fun hb7 => ?_) (fun hb7 => ?_)
    ·
     refine Zc (Za (ya rfl rfl (Zd (ρ' := [(2, _)]) ⟨rfl, trivial⟩ ?_)))
     refine Zb (Zv (Zh ?_))
     refine Zav (.tmp rfl) ?_
     exact ⟨_, rfl⟩
    ·
     refine Zs (Zb (Zc (Zc (Za (Zf (Zi rfl Tryz.f45' rfl (by decide) rfl) rfl ?_)))))
     refine Zf (Zj rfl Tryz.k3 rfl rfl rfl (vs := [_]) rfl rfl rfl) rfl ?_
     refine Zf (Zay rfl rfl rfl) rfl ?_
     refine Zd (ρ' := [(1, _), (45, _)]) ⟨rfl, rfl, trivial⟩ ?_
     refine Zb ?_
     refine Zn rfl (fun hb9 => ?_) (fun hb9 => ?_)
     ·
      refine Zc (Za (Zf (Zi rfl Tryz.f45' rfl (by decide) rfl) rfl ?_))
      refine Zf (Zj rfl Tryz.k36 rfl rfl rfl (vs := [_, _, _]) rfl rfl rfl) rfl ?_
      refine Zq rfl rfl ?_
      refine Zw (caps := []) trivial rfl rfl Tryz.c116 rfl (FnP.mono (attrCheck_fn a vc vp ⟨by omega, q2, q3⟩ u s1 s2) ?_)
      rintro v u1 hle1 ⟨e, rfl⟩
      refine ya rfl rfl (Zd (ρ' := [(2, _)]) ⟨rfl, trivial⟩ ?_)
      refine Zb (Zv (Zh ?_))
      refine Zav (.tmp rfl) ?_
      exact ⟨_, rfl⟩
     ·
      refine Zs (Zb (Zc (Za (ya rfl rfl (Zd (ρ' := [(2, _)]) ⟨rfl, trivial⟩ ?_)))))
      refine Zb (Zv ?_)
      refine Zav (.tmp rfl) ?_
      exact ⟨_, rfl⟩
theorem named_fn (k : Int) (t d ti : Bs) (a : DAttr) (args : List Bs) (cites : List DCite) (kids : List Inl) (vc vp va vt vk : Value) (u : View) (h : InlK u a args cites kids vc vp va vt vk t d ti) :
  FnP Tryz.prog 165 [.agg (inlV k t d ti a.id vc vp va vt vk).toArray] u fun r _ => ∃ e : Int, r = .int .i64 e := by
 obtain ⟨s1, s2, s3, s4, s5, ⟨q1, q2, q3, q4, q5, q6, q7, q8⟩, hsz⟩ := h
 obtain ⟨ad, cap, rfl, h3⟩ := s3
 refine FnP.intro [.tmp 2] Tryz.func165 rfl rfl rfl ?_
 intro w0 D hw0
 refine Zc (Za (Zq rfl rfl ?_))
 refine Zbl trivial rfl (cs := [_, _, _, _, _, _, _, _, _, _]) rfl rfl rfl rfl ?_
 refine ya rfl rfl (Zd (ρ' := [(1, _)]) ⟨rfl, trivial⟩ ?_)
 refine Zb (Zc (Zc (Za (Zf (Zi rfl Tryz.f45' rfl (by decide) rfl) rfl ?_))))
 refine Zf (Zj rfl Tryz.k9 rfl rfl rfl (vs := [_]) rfl rfl rfl) rfl ?_
 refine Zq rfl rfl ?_
 refine Zw (caps := []) trivial rfl rfl Tryz.c28 rfl (FnP.mono (name_fn t (by omega) u) ?_)
 rintro v u1 hle1 ⟨b1, rfl, _⟩
 refine Zf (Zbs rfl rfl) rfl ?_
 refine Zd (ρ' := [(1, _), (7, _)]) ⟨rfl, rfl, trivial⟩ ?_
 refine Zb ?_
 refine Zn rfl (fun hb1 => ?_) (fun hb1 => ?_)
 ·
  refine Zc (Za (ya rfl rfl (Zd (ρ' := [(2, _)]) ⟨rfl, trivial⟩ ?_)))
  refine Zb (Zv (Zh ?_))
  refine Zav (.tmp rfl) ?_
  exact ⟨_, rfl⟩
 ·
  refine Zs (Zb (Zc (Zc (Za ?_))))
  refine Zbc 13 20 (fun _ => True) (ρk := [(1, _)]) ⟨rfl, trivial⟩ ?_ fun mb3_12 hm3_12 => ?_
  ·
   refine Zf (Zi rfl Tryz.f45' rfl (by decide) rfl) rfl ?_
   refine Zf (Zj rfl Tryz.k3 rfl rfl rfl (vs := [_]) rfl rfl rfl) rfl ?_
   refine Zf (Zay rfl rfl rfl) rfl ?_
   refine ym rfl rfl ?_
   refine Zad 11 rfl (fun hg3_3 => ?_) (fun hg3_3 => ?_)
   ·
    refine Zk rfl rfl (Zf (Zi rfl Tryz.f45' rfl (by decide) rfl) rfl ?_)
    refine Zk rfl rfl (Zf (Zj rfl Tryz.k9 rfl rfl rfl (vs := [_]) rfl rfl rfl) rfl ?_)
    refine Zk rfl rfl (Zf (Zbk rfl rfl rfl) rfl ?_)
    refine Zf (Zl rfl rfl rfl) rfl (ym rfl rfl ?_)
    refine Zad 16 rfl (fun hg3_8 => ?_) (fun hg3_8 => ?_)
    ·
     refine Zk rfl rfl (Zf (Zi rfl Tryz.f45' rfl (by decide) rfl) rfl ?_)
     refine Zk rfl rfl (Zf (Zj rfl Tryz.k9 rfl rfl rfl (vs := [_]) rfl rfl rfl) rfl ?_)
     refine Zk rfl rfl (Zf (Zbk rfl rfl rfl) rfl ?_)
     refine Zf (Zl rfl rfl rfl) rfl ?_
     exact Zx rfl ⟨rfl, trivial⟩ (trivial)
    ·
     iterate 3 refine Zo rfl rfl rfl rfl ?_
     refine Zf (Zm rfl rfl rfl) rfl ?_
     exact Zx rfl ⟨rfl, trivial⟩ (trivial)
   ·
    iterate 3 refine Zo rfl rfl rfl rfl ?_
    refine Zf (Zm rfl rfl rfl) rfl (ym rfl rfl ?_)
    iterate 3 refine Zo rfl rfl rfl rfl ?_
    refine Zf (Zm rfl rfl rfl) rfl ?_
    exact Zx rfl ⟨rfl, trivial⟩ (trivial)
  refine Zd (ρ' := [(1, _), (20, _)]) ⟨rfl, rfl, trivial⟩ ?_
  refine Zb ?_
  refine Zn rfl (fun hb3 => ?_) (fun hb3 => ?_)
  ·
   refine Zc (Za (ya rfl rfl (Zd (ρ' := [(2, _)]) ⟨rfl, trivial⟩ ?_)))
   refine Zb (Zv (Zh ?_))
   refine Zav (.tmp rfl) ?_
   exact ⟨_, rfl⟩
  ·
   refine Zs (Zb (Zc (Zc (Za (Zf (Zi rfl Tryz.f45' rfl (by decide) rfl) rfl ?_)))))
   refine Zf (Zj rfl Tryz.k34 rfl rfl rfl (vs := [_]) rfl rfl rfl) rfl ?_
   refine Zf (Zal rfl rfl Tryz.s34 rfl) rfl ?_
   refine Zf (Zcd rfl rfl rfl) rfl ?_
   refine Zd (ρ' := [(1, _), (24, _)]) ⟨rfl, rfl, trivial⟩ ?_
   refine Zb ?_
   refine Zn rfl (fun hb5 => ?_) (fun hb5 => ?_)
   ·
    refine Zc (Za (ya rfl rfl (Zd (ρ' := [(2, _)]) ⟨rfl, trivial⟩ ?_)))
    refine Zb (Zv (Zh ?_))
    refine Zav (.tmp rfl) ?_
    exact ⟨_, rfl⟩
   ·
    refine Zs (Zb (Zc (Zc (Za (ya rfl rfl (Zd (ρ' := [(1, _), (3, _)]) ⟨rfl, rfl, trivial⟩ ?_))))))
    refine Zb (Zaa ?_)
    refine Zau (fun m ρ σ u' => ∃ i : Nat, i + m = args.length ∧ VLe u u' ∧ σ = [(1, (none, .box (inlV k t d ti a.id vc vp (.slice ad args.length cap) vt vk)))] ∧ ρ = [(1, .p 1 0), (3, .v (.int .i64 i))] ∧ (u = u')) (args.length) ?_ ?_
    ·
     refine ⟨[(1, _), (3, _)], [(1, _)], ⟨rfl, rfl, trivial⟩, ⟨rfl, trivial⟩, 0, by omega, VLe.refl _, (by first | rfl | simp), (by first | rfl | (simp only [List.cons.injEq, Prod.mk.injEq, SV.v.injEq, Value.int.injEq, true_and, and_true]; omega) | simp), ?_⟩
     rfl
    ·
     rintro m ρ σ u' ⟨i, hi8, hle8, rfl, rfl, rfl⟩
     refine Zc (Zc (Za (ym rfl rfl (Zf (Zi rfl Tryz.f45' rfl (by decide) rfl) rfl ?_))))
     refine Zf (Zj rfl Tryz.k34 rfl rfl rfl (vs := [_]) rfl rfl rfl) rfl ?_
     refine Zf (Zal rfl rfl Tryz.s34 rfl) rfl ?_
     refine Zf (Zbh rfl rfl rfl) rfl ?_
     refine Zd (ρ' := [(1, _), (3, _), (29, _)]) ⟨rfl, rfl, rfl, trivial⟩ ?_
     refine Zb ?_
     refine Zn rfl (fun hb8 => ?_) (fun hb8 => ?_)
     ·
      have hlt : i < args.length := by have := of_decide_eq_true hb8; omega
      have hg := List.getElem?_eq_getElem hlt
      have hcc := cut_strsC hg
      have hsl := q7 _ (List.mem_of_getElem? hg)
      refine Zs (Zb (Zc (Zaa (Zc (Za ?_)))))
      refine Zbc 15 46 (fun _ => True) (ρk := [(1, _), (3, _)]) ⟨rfl, rfl, trivial⟩ ?_ fun mb10_14 hm10_14 => ?_
      ·
       refine Zf (Zi rfl Tryz.f45' rfl (by decide) rfl) rfl ?_
       refine Zf (Zj rfl Tryz.k34 rfl rfl rfl (vs := [_]) rfl rfl rfl) rfl ?_
       refine ym rfl rfl (Zf (Zai rfl Tryz.s34 rfl rfl (by assumption) (by first | rfl | omega) (by omega)) rfl ?_)
       refine Zf (Zag rfl Tryz.k9 rfl (by assumption) (by omega) (by assumption) (vs := [_]) rfl rfl rfl rfl) rfl ?_
       refine Zq rfl rfl ?_
       refine Zw (caps := []) trivial rfl rfl Tryz.c29 rfl (FnP.mono (line4_fn _ (by omega) u) ?_)
       rintro v u1 hle1 ⟨b2, rfl, _⟩
       refine Zf (Zbs rfl rfl) rfl ?_
       refine ym rfl rfl ?_
       refine Zad 39 rfl (fun hg10_7 => ?_) (fun hg10_7 => ?_)
       ·
        iterate 6 refine Zo rfl rfl rfl rfl ?_
        refine Zf (Zl rfl rfl rfl) rfl ?_
        exact Zx rfl ⟨rfl, rfl, trivial⟩ (trivial)
       ·
        refine Zk rfl rfl (Zf (Zi rfl Tryz.f45' rfl (by decide) rfl) rfl ?_)
        refine Zk rfl rfl (Zf (Zj rfl Tryz.k34 rfl rfl rfl (vs := [_]) rfl rfl rfl) rfl ?_)
        refine Zk rfl rfl (ym rfl rfl (Zk rfl rfl (Zf (Zai rfl Tryz.s34 rfl rfl (by assumption) (by first | rfl | omega) (by omega)) rfl ?_)))
        refine Zk rfl rfl (Zf (Zag rfl Tryz.k9 rfl (by assumption) (by omega) (by assumption) (vs := [_]) rfl rfl rfl rfl) rfl ?_)
        refine Zk rfl rfl (Zq rfl rfl ?_)
        refine Zw (caps := []) trivial rfl rfl Tryz.c135 rfl (FnP.mono (khas_fn _ _ (by omega) (by decide) u) ?_)
        rintro v u1 hle1 ⟨b3, rfl⟩
        refine Zf (Zm rfl rfl rfl) rfl ?_
        exact Zx rfl ⟨rfl, rfl, trivial⟩ (trivial)
      refine Zd (ρ' := [(1, _), (3, _), (46, _)]) ⟨rfl, rfl, rfl, trivial⟩ ?_
      refine Zb ?_
      refine Zn rfl (fun hb10 => ?_) (fun hb10 => ?_)
      ·
       refine Zc (Za (ya rfl rfl (Zd (ρ' := [(2, _)]) ⟨rfl, trivial⟩ ?_)))
       refine Zb (Zv (Zr (Zh (Zh (Zr (Zh ?_))))))
       refine Zav (.tmp rfl) ?_
       exact ⟨_, rfl⟩
      ·
       refine Zs (Zaf (Zb (Za (ym rfl rfl (Zf (Zas rfl rfl rfl (Zu (by omega))) rfl ?_)))))
       refine ya rfl rfl (Zd (ρ' := [(1, _), (3, _)]) ⟨rfl, rfl, trivial⟩ ?_)
       refine Zae ?_
       refine ⟨m - 1, [(1, _), (3, _)], [(1, _)], by omega, ⟨rfl, rfl, trivial⟩, ⟨rfl, trivial⟩, i + 1, by omega, hle8, (by first | rfl | simp), (by first | rfl | (simp only [List.cons.injEq, Prod.mk.injEq, SV.v.injEq, Value.int.injEq, true_and, and_true]; omega) | simp), ?_⟩
       rfl
     ·
      skip
      refine Zat ?_
      refine Zp (Zp ?_)
      refine Zah ?_
      refine Zb (Zc (Za (ya rfl rfl (Zd (ρ' := [(2, _)]) ⟨rfl, trivial⟩ ?_))))
      refine Zb (Zv ?_)
      refine Zav (.tmp rfl) ?_
      exact ⟨_, rfl⟩
def fF1 (k : Int) : Bool := decide (1 ≤ k) && decide (k ≤ 16)
def fF2 (k : Int) (t : Bs) : Bool := fF1 k && (inB k [1, 4, 5, 9, 10, 12, 14, 15] || decide (t = []))
def fF3 (k : Int) (t d : Bs) : Bool := fF2 k t && (inB k [9, 10, 16] || decide (d = []))
def fF4 (k : Int) (t d ti : Bs) : Bool := fF3 k t d && (inB k [9, 10, 14] || decide (ti = []))
def fF5 (k : Int) (t d ti : Bs) (a : DAttr) : Bool := fF4 k t d ti && (inB k [10, 11] || noA a)
def fF6 (k : Int) (t d ti : Bs) (a : DAttr) (n : Nat) : Bool := fF5 k t d ti a && (inB k [6, 7, 8, 9, 10, 11] || decide ((n : Int) = 0))
def fF7 (k : Int) (t d ti : Bs) (a : DAttr) (n m : Nat) : Bool := fF6 k t d ti a n && (decide (k = 15) || decide ((m : Int) = 0))
def fF8 (k : Int) (t d ti : Bs) (a : DAttr) (n m q : Nat) : Bool := fF7 k t d ti a n m && (decide (k = 13) || decide ((q : Int) = 0))
theorem inlineFields_fn (k : Int) (t d ti : Bs) (a : DAttr) (args : List Bs) (cites : List DCite) (kids : List Inl) (vc vp va vt vk : Value) (u : View) (h : InlK u a args cites kids vc vp va vt vk t d ti) :
  FnP Tryz.prog 163 [.agg (inlV k t d ti a.id vc vp va vt vk).toArray] u fun r _ => r = .bool (fF8 k t d ti a kids.length args.length cites.length) := by
 obtain ⟨s1, s2, s3, s4, s5, -, hsz⟩ := h
 have o1 := s1.one
 have o2 := s2.one
 obtain ⟨ad3, cap3, rfl, -⟩ := s3
 obtain ⟨ad4, cap4, rfl, -⟩ := s4
 obtain ⟨cs5, ⟨ad5, cap5, rfl, -⟩, -⟩ := s5
 refine FnP.intro [.tmp 2] Tryz.func163 rfl rfl rfl ?_
 intro w0 D hw0
 refine Zc (Za (Zq rfl rfl ?_))
 refine Zbl trivial rfl (cs := [_, _, _, _, _, _, _, _, _, _]) rfl rfl rfl rfl ?_
 refine ya rfl rfl (Zd (ρ' := [(1, _)]) ⟨rfl, trivial⟩ ?_)
 refine Zb (Zc (Za (Zf (Zi rfl Tryz.f45' rfl (by decide) rfl) rfl ?_)))
 refine Zf (Zj rfl Tryz.k3 rfl rfl rfl (vs := [_]) rfl rfl rfl) rfl ?_
 refine Zq rfl rfl ?_
 refine Zac trivial Tryz.s143 Tryz.z3 (ps := [(_, _), (_, _), (_, _), (_, _), (_, _), (_, _), (_, _), (_, _)]) rfl (xs := [_, _, _, _, _, _, _, _]) rfl rfl rfl rfl rfl rfl rfl ?_
 refine Zq rfl rfl ?_
 refine Zcb (caps := []) 10 trivial rfl rfl Tryz.c111 rfl ?_
 intro adb capb ub hleb hslb
 refine ⟨_, rfl, FnP.mono (in4_fn k _ [1, 4, 5, 9, 10, 12, 14, 15] (by decide) ub ⟨_, _, rfl, hslb⟩) ?_⟩
 rintro v u1 hle1 rfl
 refine ya rfl rfl (Zd (ρ' := [(1, _), (3, _)]) ⟨rfl, rfl, trivial⟩ ?_)
 refine Zb (Zc (Za (Zf (Zi rfl Tryz.f45' rfl (by decide) rfl) rfl ?_)))
 refine Zf (Zj rfl Tryz.k3 rfl rfl rfl (vs := [_]) rfl rfl rfl) rfl ?_
 refine Zq rfl rfl ?_
 refine Zac trivial Tryz.s143 Tryz.z3 (ps := [(_, _), (_, _), (_, _)]) rfl (xs := [_, _, _]) rfl rfl rfl rfl rfl rfl rfl ?_
 refine Zq rfl rfl ?_
 refine Zcb (caps := []) 14 trivial rfl rfl Tryz.c111 rfl ?_
 intro adb capb ub hleb hslb
 refine ⟨_, rfl, FnP.mono (in4_fn k _ [9, 10, 16] (by decide) ub ⟨_, _, rfl, hslb⟩) ?_⟩
 rintro v u1 hle1 rfl
 refine ya rfl rfl (Zd (ρ' := [(1, _), (3, _), (4, _)]) ⟨rfl, rfl, rfl, trivial⟩ ?_)
 refine Zb (Zc (Za (Zf (Zi rfl Tryz.f45' rfl (by decide) rfl) rfl ?_)))
 refine Zf (Zj rfl Tryz.k3 rfl rfl rfl (vs := [_]) rfl rfl rfl) rfl ?_
 refine Zq rfl rfl ?_
 refine Zac trivial Tryz.s143 Tryz.z3 (ps := [(_, _), (_, _), (_, _)]) rfl (xs := [_, _, _]) rfl rfl rfl rfl rfl rfl rfl ?_
 refine Zq rfl rfl ?_
 refine Zcb (caps := []) 18 trivial rfl rfl Tryz.c111 rfl ?_
 intro adb capb ub hleb hslb
 refine ⟨_, rfl, FnP.mono (in4_fn k _ [9, 10, 14] (by decide) ub ⟨_, _, rfl, hslb⟩) ?_⟩
 rintro v u1 hle1 rfl
 refine ya rfl rfl (Zd (ρ' := [(1, _), (3, _), (4, _), (5, _)]) ⟨rfl, rfl, rfl, rfl, trivial⟩ ?_)
 refine Zb (Zc (Za (Zf (Zi rfl Tryz.f45' rfl (by decide) rfl) rfl ?_)))
 refine Zf (Zj rfl Tryz.k3 rfl rfl rfl (vs := [_]) rfl rfl rfl) rfl ?_
 refine Zq rfl rfl ?_
 refine Zac trivial Tryz.s143 Tryz.z3 (ps := [(_, _), (_, _)]) rfl (xs := [_, _]) rfl rfl rfl rfl rfl rfl rfl ?_
 refine Zq rfl rfl ?_
 refine Zcb (caps := []) 22 trivial rfl rfl Tryz.c111 rfl ?_
 intro adb capb ub hleb hslb
 refine ⟨_, rfl, FnP.mono (in4_fn k _ [10, 11] (by decide) ub ⟨_, _, rfl, hslb⟩) ?_⟩
 rintro v u1 hle1 rfl
 refine ya rfl rfl (Zd (ρ' := [(1, _), (3, _), (4, _), (5, _), (6, _)]) ⟨rfl, rfl, rfl, rfl, rfl, trivial⟩ ?_)
 refine Zb (Zc (Za (Zf (Zi rfl Tryz.f45' rfl (by decide) rfl) rfl ?_)))
 refine Zf (Zj rfl Tryz.k3 rfl rfl rfl (vs := [_]) rfl rfl rfl) rfl ?_
 refine Zq rfl rfl ?_
 refine Zac trivial Tryz.s143 Tryz.z3 (ps := [(_, _), (_, _), (_, _), (_, _), (_, _), (_, _)]) rfl (xs := [_, _, _, _, _, _]) rfl rfl rfl rfl rfl rfl rfl ?_
 refine Zq rfl rfl ?_
 refine Zcb (caps := []) 26 trivial rfl rfl Tryz.c111 rfl ?_
 intro adb capb ub hleb hslb
 refine ⟨_, rfl, FnP.mono (in4_fn k _ [6, 7, 8, 9, 10, 11] (by decide) ub ⟨_, _, rfl, hslb⟩) ?_⟩
 rintro v u1 hle1 rfl
 refine ya rfl rfl (Zd (ρ' := [(1, _), (3, _), (4, _), (5, _), (6, _), (7, _)]) ⟨rfl, rfl, rfl, rfl, rfl, rfl, trivial⟩ ?_)
 refine Zb (Zc (Za ?_))
 refine Zcg 9 36 (fF1 k) (ρk := [(1, _), (3, _), (4, _), (5, _), (6, _), (7, _)]) ⟨rfl, rfl, rfl, rfl, rfl, rfl, trivial⟩ ?_ ?_
 ·
  refine Zf (Zi rfl Tryz.f45' rfl (by decide) rfl) rfl ?_
  refine Zf (Zj rfl Tryz.k3 rfl rfl rfl (vs := [_]) rfl rfl rfl) rfl ?_
  refine Zf (Zbw rfl rfl rfl) rfl ?_
  refine ym rfl rfl ?_
  refine Zad 31 rfl (fun hg6_3 => ?_) (fun hg6_3 => ?_)
  ·
   refine Zk rfl rfl (Zf (Zi rfl Tryz.f45' rfl (by decide) rfl) rfl ?_)
   refine Zk rfl rfl (Zf (Zj rfl Tryz.k3 rfl rfl rfl (vs := [_]) rfl rfl rfl) rfl ?_)
   refine Zk rfl rfl (Zf (y_leq rfl rfl rfl) rfl ?_)
   refine Zf (Zl rfl rfl rfl) rfl (ym rfl rfl ?_)
   exact Zak rfl ⟨rfl, rfl, rfl, rfl, rfl, rfl, trivial⟩ (by (unfold fF1; first | (rw [hg6_3]; rfl) | (rw [hg6_3]; simp)))
  ·
   iterate 3 refine Zo rfl rfl rfl rfl ?_
   refine Zf (Zm rfl rfl rfl) rfl (ym rfl rfl ?_)
   exact Zak rfl ⟨rfl, rfl, rfl, rfl, rfl, rfl, trivial⟩ (by (unfold fF1; first | (rw [hg6_3]; rfl) | (rw [hg6_3]; simp)))
 refine Zcg 8 44 (fF2 k t) (ρk := [(1, _), (4, _), (5, _), (6, _), (7, _)]) ⟨rfl, rfl, rfl, rfl, rfl, trivial⟩ ?_ ?_
 ·
  refine Zad 36 rfl (fun hg6_8 => ?_) (fun hg6_8 => ?_)
  ·
   refine Zk rfl rfl (ym rfl rfl (Zk rfl rfl (ym rfl rfl ?_)))
   refine Zad 38 rfl (fun hg6_10 => ?_) (fun hg6_10 => ?_)
   ·
    iterate 3 refine Zo rfl rfl rfl rfl ?_
    refine Zk rfl rfl (Zf (Zl rfl rfl rfl) rfl (Zf (Zl rfl rfl rfl) rfl (ym rfl rfl ?_)))
    exact Zak rfl ⟨rfl, rfl, rfl, rfl, rfl, trivial⟩ (by (unfold fF2; first | (rw [hg6_8]; rfl) | (rw [hg6_8, hg6_10]; simp)))
   ·
    refine Zk rfl rfl (Zf (Zi rfl Tryz.f45' rfl (by decide) rfl) rfl ?_)
    refine Zk rfl rfl (Zf (Zj rfl Tryz.k9 rfl rfl rfl (vs := [_]) rfl rfl rfl) rfl ?_)
    refine Zk rfl rfl (Zf (Zbg rfl rfl rfl) rfl ?_)
    refine Zk rfl rfl (Zf (Zm rfl rfl rfl) rfl (Zf (Zl rfl rfl rfl) rfl (ym rfl rfl ?_)))
    exact Zak rfl ⟨rfl, rfl, rfl, rfl, rfl, trivial⟩ (by (unfold fF2; first | (rw [hg6_8]; rfl) | (rw [hg6_8, hg6_10]; simp)))
  ·
   refine Zo rfl rfl rfl rfl (Zo rfl rfl rfl rfl ?_)
   refine Zab rfl rfl rfl ?_
   refine Zab rfl rfl rfl ?_
   refine Zab rfl rfl rfl ?_
   refine Zo rfl rfl rfl rfl (Zf (Zm rfl rfl rfl) rfl (ym rfl rfl ?_))
   exact Zak rfl ⟨rfl, rfl, rfl, rfl, rfl, trivial⟩ (by (unfold fF2; first | (rw [hg6_8]; rfl) | (rw [hg6_8, hg6_10]; simp)))
 refine Zcg 8 52 (fF3 k t d) (ρk := [(1, _), (5, _), (6, _), (7, _)]) ⟨rfl, rfl, rfl, rfl, trivial⟩ ?_ ?_
 ·
  refine Zad 44 rfl (fun hg6_16 => ?_) (fun hg6_16 => ?_)
  ·
   refine Zk rfl rfl (ym rfl rfl (Zk rfl rfl (ym rfl rfl ?_)))
   refine Zad 46 rfl (fun hg6_18 => ?_) (fun hg6_18 => ?_)
   ·
    iterate 3 refine Zo rfl rfl rfl rfl ?_
    refine Zk rfl rfl (Zf (Zl rfl rfl rfl) rfl (Zf (Zl rfl rfl rfl) rfl (ym rfl rfl ?_)))
    exact Zak rfl ⟨rfl, rfl, rfl, rfl, trivial⟩ (by (unfold fF3; first | (rw [hg6_16]; rfl) | (rw [hg6_16, hg6_18]; simp)))
   ·
    refine Zk rfl rfl (Zf (Zi rfl Tryz.f45' rfl (by decide) rfl) rfl ?_)
    refine Zk rfl rfl (Zf (Zj rfl Tryz.k9 rfl rfl rfl (vs := [_]) rfl rfl rfl) rfl ?_)
    refine Zk rfl rfl (Zf (Zbg rfl rfl rfl) rfl ?_)
    refine Zk rfl rfl (Zf (Zm rfl rfl rfl) rfl (Zf (Zl rfl rfl rfl) rfl (ym rfl rfl ?_)))
    exact Zak rfl ⟨rfl, rfl, rfl, rfl, trivial⟩ (by (unfold fF3; first | (rw [hg6_16]; rfl) | (rw [hg6_16, hg6_18]; simp)))
  ·
   refine Zo rfl rfl rfl rfl (Zo rfl rfl rfl rfl ?_)
   refine Zab rfl rfl rfl ?_
   refine Zab rfl rfl rfl ?_
   refine Zab rfl rfl rfl ?_
   refine Zo rfl rfl rfl rfl (Zf (Zm rfl rfl rfl) rfl (ym rfl rfl ?_))
   exact Zak rfl ⟨rfl, rfl, rfl, rfl, trivial⟩ (by (unfold fF3; first | (rw [hg6_16]; rfl) | (rw [hg6_16, hg6_18]; simp)))
 refine Zcg 8 60 (fF4 k t d ti) (ρk := [(1, _), (6, _), (7, _)]) ⟨rfl, rfl, rfl, trivial⟩ ?_ ?_
 ·
  refine Zad 52 rfl (fun hg6_24 => ?_) (fun hg6_24 => ?_)
  ·
   refine Zk rfl rfl (ym rfl rfl (Zk rfl rfl (ym rfl rfl ?_)))
   refine Zad 54 rfl (fun hg6_26 => ?_) (fun hg6_26 => ?_)
   ·
    iterate 3 refine Zo rfl rfl rfl rfl ?_
    refine Zk rfl rfl (Zf (Zl rfl rfl rfl) rfl (Zf (Zl rfl rfl rfl) rfl (ym rfl rfl ?_)))
    exact Zak rfl ⟨rfl, rfl, rfl, trivial⟩ (by (unfold fF4; first | (rw [hg6_24]; rfl) | (rw [hg6_24, hg6_26]; simp)))
   ·
    refine Zk rfl rfl (Zf (Zi rfl Tryz.f45' rfl (by decide) rfl) rfl ?_)
    refine Zk rfl rfl (Zf (Zj rfl Tryz.k9 rfl rfl rfl (vs := [_]) rfl rfl rfl) rfl ?_)
    refine Zk rfl rfl (Zf (Zbg rfl rfl rfl) rfl ?_)
    refine Zk rfl rfl (Zf (Zm rfl rfl rfl) rfl (Zf (Zl rfl rfl rfl) rfl (ym rfl rfl ?_)))
    exact Zak rfl ⟨rfl, rfl, rfl, trivial⟩ (by (unfold fF4; first | (rw [hg6_24]; rfl) | (rw [hg6_24, hg6_26]; simp)))
  ·
   refine Zo rfl rfl rfl rfl (Zo rfl rfl rfl rfl ?_)
   refine Zab rfl rfl rfl ?_
   refine Zab rfl rfl rfl ?_
   refine Zab rfl rfl rfl ?_
   refine Zo rfl rfl rfl rfl (Zf (Zm rfl rfl rfl) rfl (ym rfl rfl ?_))
   exact Zak rfl ⟨rfl, rfl, rfl, trivial⟩ (by (unfold fF4; first | (rw [hg6_24]; rfl) | (rw [hg6_24, hg6_26]; simp)))
 refine Zcg 8 68 (fF5 k t d ti a) (ρk := [(1, _), (7, _)]) ⟨rfl, rfl, trivial⟩ ?_ ?_
 ·
  refine Zad 60 rfl (fun hg6_32 => ?_) (fun hg6_32 => ?_)
  ·
   refine Zk rfl rfl (ym rfl rfl (Zk rfl rfl (ym rfl rfl ?_)))
   refine Zad 62 rfl (fun hg6_34 => ?_) (fun hg6_34 => ?_)
   ·
    iterate 3 refine Zo rfl rfl rfl rfl ?_
    refine Zk rfl rfl (Zf (Zl rfl rfl rfl) rfl (Zf (Zl rfl rfl rfl) rfl (ym rfl rfl ?_)))
    exact Zak rfl ⟨rfl, rfl, trivial⟩ (by (unfold fF5; first | (rw [hg6_32]; rfl) | (rw [hg6_32, hg6_34]; simp)))
   ·
    refine Zk rfl rfl (Zf (Zi rfl Tryz.f45' rfl (by decide) rfl) rfl ?_)
    refine Zk rfl rfl (Zf (Zj rfl Tryz.k36 rfl rfl rfl (vs := [_, _, _]) rfl rfl rfl) rfl ?_)
    refine Zk rfl rfl (Zq rfl rfl ?_)
    refine Zw (caps := []) trivial rfl rfl Tryz.c112 rfl (FnP.mono (noAttr_fn a vc vp u s1 s2) ?_)
    rintro v u1 hle1 rfl
    refine Zk rfl rfl (Zf (Zm rfl rfl rfl) rfl (Zf (Zl rfl rfl rfl) rfl (ym rfl rfl ?_)))
    exact Zak rfl ⟨rfl, rfl, trivial⟩ (by (unfold fF5; first | (rw [hg6_32]; rfl) | (rw [hg6_32, hg6_34]; simp)))
  ·
   refine Zo rfl rfl rfl rfl (Zo rfl rfl rfl rfl ?_)
   refine Zab rfl rfl rfl ?_
   refine Zab rfl rfl rfl ?_
   refine Zab rfl rfl rfl ?_
   refine Zo rfl rfl rfl rfl (Zf (Zm rfl rfl rfl) rfl (ym rfl rfl ?_))
   exact Zak rfl ⟨rfl, rfl, trivial⟩ (by (unfold fF5; first | (rw [hg6_32]; rfl) | (rw [hg6_32, hg6_34]; simp)))
 refine Zcg 9 77 (fF6 k t d ti a kids.length) (ρk := [(1, _)]) ⟨rfl, trivial⟩ ?_ ?_
 ·
  refine Zad 68 rfl (fun hg6_40 => ?_) (fun hg6_40 => ?_)
  ·
   refine Zk rfl rfl (ym rfl rfl (Zk rfl rfl (ym rfl rfl ?_)))
   refine Zad 70 rfl (fun hg6_42 => ?_) (fun hg6_42 => ?_)
   ·
    iterate 4 refine Zo rfl rfl rfl rfl ?_
    refine Zk rfl rfl (Zf (Zl rfl rfl rfl) rfl (Zf (Zl rfl rfl rfl) rfl (ym rfl rfl ?_)))
    exact Zak rfl ⟨rfl, trivial⟩ (by (unfold fF6; first | (rw [hg6_40]; rfl) | (rw [hg6_40, hg6_42]; simp)))
   ·
    refine Zk rfl rfl (Zf (Zi rfl Tryz.f45' rfl (by decide) rfl) rfl ?_)
    refine Zk rfl rfl (Zf (Zj rfl Tryz.k37 rfl rfl rfl (vs := [_]) rfl rfl rfl) rfl ?_)
    refine Zk rfl rfl (Zf (Zal rfl rfl Tryz.s37 rfl) rfl ?_)
    refine Zk rfl rfl (Zf (Zay rfl rfl rfl) rfl ?_)
    refine Zk rfl rfl (Zf (Zm rfl rfl rfl) rfl (Zf (Zl rfl rfl rfl) rfl (ym rfl rfl ?_)))
    exact Zak rfl ⟨rfl, trivial⟩ (by (unfold fF6; first | (rw [hg6_40]; rfl) | (rw [hg6_40, hg6_42]; simp)))
  ·
   refine Zo rfl rfl rfl rfl (Zo rfl rfl rfl rfl ?_)
   refine Zab rfl rfl rfl ?_
   refine Zab rfl rfl rfl ?_
   refine Zab rfl rfl rfl ?_
   refine Zab rfl rfl rfl ?_
   refine Zo rfl rfl rfl rfl (Zf (Zm rfl rfl rfl) rfl (ym rfl rfl ?_))
   exact Zak rfl ⟨rfl, trivial⟩ (by (unfold fF6; first | (rw [hg6_40]; rfl) | (rw [hg6_40, hg6_42]; simp)))
 refine Zcg 11 88 (fF7 k t d ti a kids.length args.length) (ρk := [(1, _)]) ⟨rfl, trivial⟩ ?_ ?_
 ·
  refine Zad 77 rfl (fun hg6_49 => ?_) (fun hg6_49 => ?_)
  ·
   refine Zk rfl rfl (Zf (Zi rfl Tryz.f45' rfl (by decide) rfl) rfl ?_)
   refine Zk rfl rfl (Zf (Zj rfl Tryz.k3 rfl rfl rfl (vs := [_]) rfl rfl rfl) rfl ?_)
   refine Zk rfl rfl (Zf (Zay rfl rfl rfl) rfl ?_)
   refine Zk rfl rfl (ym rfl rfl ?_)
   refine Zad 81 rfl (fun hg6_53 => ?_) (fun hg6_53 => ?_)
   ·
    iterate 4 refine Zo rfl rfl rfl rfl ?_
    refine Zk rfl rfl (Zf (Zl rfl rfl rfl) rfl (Zf (Zl rfl rfl rfl) rfl (ym rfl rfl ?_)))
    exact Zak rfl ⟨rfl, trivial⟩ (by (unfold fF7; first | (rw [hg6_49]; rfl) | (rw [hg6_49, hg6_53]; simp)))
   ·
    refine Zk rfl rfl (Zf (Zi rfl Tryz.f45' rfl (by decide) rfl) rfl ?_)
    refine Zk rfl rfl (Zf (Zj rfl Tryz.k34 rfl rfl rfl (vs := [_]) rfl rfl rfl) rfl ?_)
    refine Zk rfl rfl (Zf (Zal rfl rfl Tryz.s34 rfl) rfl ?_)
    refine Zk rfl rfl (Zf (Zay rfl rfl rfl) rfl ?_)
    refine Zk rfl rfl (Zf (Zm rfl rfl rfl) rfl (Zf (Zl rfl rfl rfl) rfl (ym rfl rfl ?_)))
    exact Zak rfl ⟨rfl, trivial⟩ (by (unfold fF7; first | (rw [hg6_49]; rfl) | (rw [hg6_49, hg6_53]; simp)))
  ·
   iterate 4 refine Zo rfl rfl rfl rfl ?_
   refine Zab rfl rfl rfl ?_
   refine Zab rfl rfl rfl ?_
   refine Zab rfl rfl rfl ?_
   refine Zab rfl rfl rfl ?_
   refine Zo rfl rfl rfl rfl (Zf (Zm rfl rfl rfl) rfl (ym rfl rfl ?_))
   exact Zak rfl ⟨rfl, trivial⟩ (by (unfold fF7; first | (rw [hg6_49]; rfl) | (rw [hg6_49, hg6_53]; simp)))
 refine Zcg 10 98 (fF8 k t d ti a kids.length args.length cites.length) (ρk := []) trivial ?_ ?_
 ·
  refine Zad 88 rfl (fun hg6_60 => ?_) (fun hg6_60 => ?_)
  ·
   refine Zk rfl rfl (Zf (Zi rfl Tryz.f45' rfl (by decide) rfl) rfl ?_)
   refine Zk rfl rfl (Zf (Zj rfl Tryz.k3 rfl rfl rfl (vs := [_]) rfl rfl rfl) rfl ?_)
   refine Zk rfl rfl (Zf (Zay rfl rfl rfl) rfl ?_)
   refine Zk rfl rfl (ym rfl rfl ?_)
   refine Zad 92 rfl (fun hg6_64 => ?_) (fun hg6_64 => ?_)
   ·
    iterate 4 refine Zo rfl rfl rfl rfl ?_
    refine Zk rfl rfl (Zf (Zl rfl rfl rfl) rfl (Zf (Zl rfl rfl rfl) rfl ?_))
    exact Zak rfl trivial (by (unfold fF8; first | (rw [hg6_60]; rfl) | (rw [hg6_60, hg6_64]; simp)))
   ·
    refine Zk rfl rfl (Zf (Zi rfl Tryz.f45' rfl (by decide) rfl) rfl ?_)
    refine Zk rfl rfl (Zf (Zj rfl Tryz.k43 rfl rfl rfl (vs := [_]) rfl rfl rfl) rfl ?_)
    refine Zk rfl rfl (Zf (Zal rfl rfl Tryz.s43 rfl) rfl ?_)
    refine Zk rfl rfl (Zf (Zay rfl rfl rfl) rfl ?_)
    refine Zk rfl rfl (Zf (Zm rfl rfl rfl) rfl (Zf (Zl rfl rfl rfl) rfl ?_))
    exact Zak rfl trivial (by (unfold fF8; first | (rw [hg6_60]; rfl) | (rw [hg6_60, hg6_64]; simp)))
  ·
   iterate 4 refine Zo rfl rfl rfl rfl ?_
   refine Zab rfl rfl rfl ?_
   refine Zab rfl rfl rfl ?_
   refine Zab rfl rfl rfl ?_
   refine Zab rfl rfl rfl ?_
   refine Zo rfl rfl rfl rfl (Zf (Zm rfl rfl rfl) rfl ?_)
   exact Zak rfl trivial (by (unfold fF8; first | (rw [hg6_60]; rfl) | (rw [hg6_60, hg6_64]; simp)))
 refine ya rfl rfl (Zd (ρ' := [(2, _)]) ⟨rfl, trivial⟩ ?_)
 refine Zb (Zv ?_)
 refine Zav (.tmp rfl) ?_
 rfl
def fldI : Inl → Bool
 | .mk k t d ti a args cites kids => fF8 k t d ti a kids.length args.length cites.length
def kdI : Inl → Int
 | .mk k _ _ _ _ _ _ _ => k
def txtK : Inl → Prop
 | .mk k t _ _ _ _ _ _ => k = 1 → t ≠ [] ∧ (10 : UInt8) ∉ t
mutual
def okI1 : Inl → Prop
 | .mk k t d ti a args cites kids => fldI (.mk k t d ti a args cites kids) = true ∧ txtK (.mk k t d ti a args cites kids) ∧ okL 0 kids
def okL : Int → List Inl → Prop
 | _, [] => True
 | bf, x :: xs => okI1 x ∧ (kdI x = 1 → bf ≠ 1) ∧ okL (kdI x) xs
end
theorem okL_step {xs : List Inl} {i : Nat} {x : Inl} {bf : Int} (hg : xs[i]? = some x) (h1 : okI1 x) (h2 : kdI x = 1 → bf ≠ 1) (h : okL (kdI x) (xs.drop (i + 1))) : okL bf (xs.drop i) := by
 obtain ⟨hlt, rfl⟩ := List.getElem?_eq_some_iff.1 hg
 rw [List.drop_eq_getElem_cons hlt]
 unfold okL
 exact ⟨h1, h2, h⟩
set_option maxHeartbeats 1000000 in
theorem kone_fn (k : Int) (t d ti : Bs) (a : DAttr) (args : List Bs) (cites : List DCite) (kids : List Inl) (vc vp va vt vk : Value) (bf : Int) (f l : Bool) (u : View) (h : InlK u a args cites kids vc vp va vt vk t d ti) :
  FnP Tryz.prog 159 [.agg (inlV k t d ti a.id vc vp va vt vk).toArray, .int .i64 bf, .bool f, .bool l] u fun r _ => ∃ e : Int, r = .int .i64 e ∧ (e = 0 → fldI (.mk k t d ti a args cites kids) = true ∧ txtK (.mk k t d ti a args cites kids) ∧ (k = 1 → bf ≠ 1)) := by
 have h0 := h
 obtain ⟨s1, s2, s3, s4, s5, ⟨q1, q2, q3, q4, q5, q6, q7, q8⟩, hsz⟩ := h
 have oneAll : (inlV k t d ti a.id vc vp va vt vk).all Value.oneCell' = true := by
  have o1 := s1.one
  have o2 := s2.one
  have o3 := s3.one
  have o4 := s4.one
  obtain ⟨cs5, h5, -⟩ := s5
  have o5 := h5.one
  simp only [inlV, List.all_cons, List.all_nil, o1, o2, o3, o4, o5]
  rfl
 obtain ⟨cs5, ⟨ad5, cap5, rfl, -⟩, -⟩ := s5
 obtain ⟨ad4, cap4, rfl, s4⟩ := s4
 refine FnP.intro [.tmp 8] Tryz.func159 rfl rfl rfl ?_
 intro w0 D hw0
 refine Zc (Za (Zq rfl rfl ?_))
 refine Zbl trivial rfl (cs := [_, _, _, _, _, _, _, _, _, _]) rfl rfl rfl rfl ?_
 refine ya rfl rfl (Zd (ρ' := [(1, _), (2, _), (3, _), (4, _)]) ⟨rfl, rfl, rfl, rfl, trivial⟩ ?_)
 refine Zb (Zc (Zc (Za (Zf (Zj rfl Tryz.k45 rfl rfl rfl (vs := [_, _, _, _, _, _, _, _, _, _]) rfl rfl rfl) rfl ?_))))
 refine Zq rfl rfl ?_
 refine Zw (caps := []) trivial rfl rfl Tryz.c163 rfl (FnP.mono (inlineFields_fn k t d ti a args cites kids vc vp va (.slice ad4 cites.length cap4) (.slice ad5 kids.length cap5) u h0) ?_)
 rintro v u1 hle1 rfl
 refine Zf (Zbs rfl rfl) rfl ?_
 refine Zd (ρ' := [(1, _), (2, _), (3, _), (4, _), (11, _)]) ⟨rfl, rfl, rfl, rfl, rfl, trivial⟩ ?_
 refine Zb ?_
 refine Zn rfl (fun hb1 => ?_) (fun hb1 => ?_)
 ·
  skip
  refine Zc (Za (ya rfl rfl (Zd (ρ' := [(8, _)]) ⟨rfl, trivial⟩ ?_)))
  refine Zb (Zv (Zh ?_))
  refine Zav (.tmp rfl) ?_
  first
  | exact ⟨_, rfl, fun h => absurd h (by decide)⟩
  | exact ⟨_, rfl, fun _ => ⟨hF, fun hk => hm7_8 hb7 , fun hk => hm9_8 hb9 hk⟩⟩
  | (refine ⟨_, rfl, fun _ => ⟨hF, fun hk => ?_, fun hk => ?_⟩⟩ <;> (exfalso; simp only [decide_eq_true_eq, decide_eq_false_iff_not] at *; omega))
 ·
  have hF : fldI (.mk k t d ti a args cites kids) = true := by simpa [fldI] using hb1
  refine Zs (Zb (Zc (Zc (Za (Zf (Zi rfl Tryz.f45' rfl (by decide) rfl) rfl ?_)))))
  refine Zf (Zj rfl Tryz.k3 rfl rfl rfl (vs := [_]) rfl rfl rfl) rfl ?_
  refine Zd (ρ' := [(1, _), (2, _), (3, _), (4, _), (13, _)]) ⟨rfl, rfl, rfl, rfl, rfl, trivial⟩ ?_
  refine Zb (Zaa ?_)
  refine Zbv (fun ρ σ uci7 => VLe u uci7 ∧ σ = [(4, (none, .box (inlV k t d ti a.id vc vp va (.slice ad4 cites.length cap4) (.slice ad5 kids.length cap5))))] ∧ ρ = [(1, .v (.int .i64 bf)), (2, .v (.bool f)), (3, .v (.bool l)), (4, .p 4 0), (13, .v (.int .i64 k)), (14, .v (.bool (decide (k = 1 ∨ k = 4 ∨ k = 5))))] ∧ (u = uci7)) ?_ ?_
  ·
   refine Zc (Za (Zf (Zay rfl rfl rfl) rfl ?_))
   refine ya rfl rfl (Zd (ρ' := [(1, _), (2, _), (3, _), (4, _), (13, _), (14, _)]) ⟨rfl, rfl, rfl, rfl, rfl, rfl, trivial⟩ ?_)
   refine Zb ?_
   refine Zn rfl (fun hb4 => ?_) (fun hb4 => ?_)
   ·
    refine Zs (Zae ?_)
    refine ⟨[(1, _), (2, _), (3, _), (4, _), (13, _), (14, _)], [(4, _)], ⟨rfl, rfl, rfl, rfl, rfl, rfl, trivial⟩, ⟨rfl, trivial⟩, (VLe.refl _), rfl, (by first | rfl | (simp only [List.cons.injEq, Prod.mk.injEq, SV.v.injEq, Value.bool.injEq, eq_self, true_and, and_true]; exact decide_eq_decide.2 (by simp only [decide_eq_true_eq, decide_eq_false_iff_not] at *; omega))), ?_⟩
    rfl
   ·
    refine Zc (Za (Zf (Zay rfl rfl rfl) rfl ?_))
    refine ya rfl rfl (Zd (ρ' := [(1, _), (2, _), (3, _), (4, _), (13, _), (14, _)]) ⟨rfl, rfl, rfl, rfl, rfl, rfl, trivial⟩ ?_)
    refine Zb ?_
    refine Zn rfl (fun hb5 => ?_) (fun hb5 => ?_)
    ·
     refine Zs (Zae ?_)
     refine ⟨[(1, _), (2, _), (3, _), (4, _), (13, _), (14, _)], [(4, _)], ⟨rfl, rfl, rfl, rfl, rfl, rfl, trivial⟩, ⟨rfl, trivial⟩, (VLe.refl _), rfl, (by first | rfl | (simp only [List.cons.injEq, Prod.mk.injEq, SV.v.injEq, Value.bool.injEq, eq_self, true_and, and_true]; exact decide_eq_decide.2 (by simp only [decide_eq_true_eq, decide_eq_false_iff_not] at *; omega))), ?_⟩
     rfl
    ·
     refine Za (Zf (Zay rfl rfl rfl) rfl ?_)
     refine ya rfl rfl (Zd (ρ' := [(1, _), (2, _), (3, _), (4, _), (13, _), (14, _)]) ⟨rfl, rfl, rfl, rfl, rfl, rfl, trivial⟩ ?_)
     refine Zae ?_
     refine ⟨[(1, _), (2, _), (3, _), (4, _), (13, _), (14, _)], [(4, _)], ⟨rfl, rfl, rfl, rfl, rfl, rfl, trivial⟩, ⟨rfl, trivial⟩, (VLe.refl _), rfl, (by first | rfl | (simp only [List.cons.injEq, Prod.mk.injEq, SV.v.injEq, Value.bool.injEq, eq_self, true_and, and_true]; exact decide_eq_decide.2 (by simp only [decide_eq_true_eq, decide_eq_false_iff_not] at *; omega))), ?_⟩
     rfl
  ·
   rintro ρ σ uci7 ⟨hlci7, rfl, rfl, rfl⟩
   refine Zn rfl (fun hb6 => ?_) (fun hb6 => ?_)
   ·
    refine Zc (Zc (Za ?_))
    refine Zbc 9 26 (fun b => b = false → t ≠ [] ∧ (10 : UInt8) ∉ t) (ρk := [(1, _), (4, _)]) ⟨rfl, rfl, trivial⟩ ?_ fun mb7_8 hm7_8 => ?_
    ·
     refine Zf (Zi rfl Tryz.f45' rfl (by decide) rfl) rfl ?_
     refine Zf (Zj rfl Tryz.k9 rfl rfl rfl (vs := [_]) rfl rfl rfl) rfl ?_
     refine Zf (Zbg rfl rfl rfl) rfl ?_
     refine ym rfl rfl ?_
     refine Zad 21 rfl (fun hg7_3 => ?_) (fun hg7_3 => ?_)
     ·
      iterate 4 refine Zo rfl rfl rfl rfl ?_
      refine Zf (Zl rfl rfl rfl) rfl ?_
      exact Zx rfl ⟨rfl, rfl, trivial⟩ (by (first | exact fun h => absurd h (by decide) | exact fun h => ⟨of_decide_eq_false hg7_3, hb10 (by simpa using h)⟩))
     ·
      refine Zk rfl rfl (Zf (Zi rfl Tryz.f45' rfl (by decide) rfl) rfl ?_)
      refine Zk rfl rfl (Zf (Zj rfl Tryz.k9 rfl rfl rfl (vs := [_]) rfl rfl rfl) rfl ?_)
      refine Zk rfl rfl (Zq rfl rfl ?_)
      refine Zw (caps := []) trivial rfl rfl Tryz.c29 rfl (FnP.mono (line4_fn t (by omega) u) ?_)
      rintro v u1 hle1 ⟨b1, rfl, hb10⟩
      refine Zk rfl rfl (Zf (Zbs rfl rfl) rfl ?_)
      refine Zf (Zm rfl rfl rfl) rfl ?_
      exact Zx rfl ⟨rfl, rfl, trivial⟩ (by (first | exact fun h => absurd h (by decide) | exact fun h => ⟨of_decide_eq_false hg7_3, hb10 (by simpa using h)⟩))
    refine Zd (ρ' := [(1, _), (4, _), (26, _)]) ⟨rfl, rfl, rfl, trivial⟩ ?_
    refine Zb ?_
    refine Zn rfl (fun hb7 => ?_) (fun hb7 => ?_)
    ·
     refine Zc (Za (ya rfl rfl (Zd (ρ' := [(8, _)]) ⟨rfl, trivial⟩ ?_)))
     refine Zb (Zv (Zh (Zr (Zh ?_))))
     refine Zav (.tmp rfl) ?_
     first
     | exact ⟨_, rfl, fun h => absurd h (by decide)⟩
     | exact ⟨_, rfl, fun _ => ⟨hF, fun hk => hm7_8 hb7 , fun hk => hm9_8 hb9 hk⟩⟩
     | (refine ⟨_, rfl, fun _ => ⟨hF, fun hk => ?_, fun hk => ?_⟩⟩ <;> (exfalso; simp only [decide_eq_true_eq, decide_eq_false_iff_not] at *; omega))
    ·
     refine Zs (Zb (Zc (Za ?_)))
     refine Zbc 9 35 (fun b => b = false → k = 1 → bf ≠ 1) (ρk := []) trivial ?_ fun mb9_8 hm9_8 => ?_
     ·
      refine Zf (Zi rfl Tryz.f45' rfl (by decide) rfl) rfl ?_
      refine Zf (Zj rfl Tryz.k3 rfl rfl rfl (vs := [_]) rfl rfl rfl) rfl ?_
      refine Zf (Zcc rfl rfl rfl) rfl ?_
      refine ym rfl rfl ?_
      refine Zad 30 rfl (fun hg9_3 => ?_) (fun hg9_3 => ?_)
      ·
       refine Zk rfl rfl (ym rfl rfl (Zk rfl rfl (Zf (Zi rfl Tryz.f45' rfl (by decide) rfl) rfl ?_)))
       refine Zk rfl rfl (Zf (Zj rfl Tryz.k3 rfl rfl rfl (vs := [_]) rfl rfl rfl) rfl ?_)
       refine Zk rfl rfl (Zf (Zay rfl rfl rfl) rfl ?_)
       refine Zf (Zl rfl rfl rfl) rfl ?_
       exact Zx rfl trivial (by (intro h hk; simp only [decide_eq_true_eq, decide_eq_false_iff_not] at *; omega))
      ·
       iterate 4 refine Zo rfl rfl rfl rfl ?_
       refine Zf (Zm rfl rfl rfl) rfl ?_
       exact Zx rfl trivial (by (intro h hk; simp only [decide_eq_true_eq, decide_eq_false_iff_not] at *; omega))
     refine Zd (ρ' := [(35, _)]) ⟨rfl, trivial⟩ ?_
     refine Zb ?_
     refine Zn rfl (fun hb9 => ?_) (fun hb9 => ?_)
     ·
      refine Zc (Za (ya rfl rfl (Zd (ρ' := [(8, _)]) ⟨rfl, trivial⟩ ?_)))
      refine Zb (Zv (Zr (Zh ?_)))
      refine Zav (.tmp rfl) ?_
      first
      | exact ⟨_, rfl, fun h => absurd h (by decide)⟩
      | exact ⟨_, rfl, fun _ => ⟨hF, fun hk => hm7_8 hb7 , fun hk => hm9_8 hb9 hk⟩⟩
      | (refine ⟨_, rfl, fun _ => ⟨hF, fun hk => ?_, fun hk => ?_⟩⟩ <;> (exfalso; simp only [decide_eq_true_eq, decide_eq_false_iff_not] at *; omega))
     ·
      refine Zs (Zaf (Zb (Zc (Za (ya rfl rfl (Zd (ρ' := [(8, _)]) ⟨rfl, trivial⟩ ?_))))))
      refine Zb (Zv ?_)
      refine Zav (.tmp rfl) ?_
      first
      | exact ⟨_, rfl, fun h => absurd h (by decide)⟩
      | exact ⟨_, rfl, fun _ => ⟨hF, fun hk => hm7_8 hb7 , fun hk => hm9_8 hb9 hk⟩⟩
      | (refine ⟨_, rfl, fun _ => ⟨hF, fun hk => ?_, fun hk => ?_⟩⟩ <;> (exfalso; simp only [decide_eq_true_eq, decide_eq_false_iff_not] at *; omega))
   ·
    refine Zc (Za (Zf (Zay rfl rfl rfl) rfl ?_))
    refine ya rfl rfl (Zd (ρ' := [(1, _), (2, _), (3, _), (4, _), (13, _), (36, _)]) ⟨rfl, rfl, rfl, rfl, rfl, rfl, trivial⟩ ?_)
    refine Zb ?_
    refine Zn rfl (fun hb11 => ?_) (fun hb11 => ?_)
    ·
     refine Zc (Za ?_)
     refine Zbc 12 49 (fun _ => True) (ρk := []) trivial ?_ fun mb12_11 hm12_11 => ?_
     ·
      refine ym rfl rfl (Zf (Zay rfl rfl rfl) rfl ?_)
      refine ym rfl rfl ?_
      refine Zad 40 rfl (fun hg12_2 => ?_) (fun hg12_2 => ?_)
      ·
       refine Zo rfl rfl rfl rfl (Zo rfl rfl rfl rfl (Zf (Zl rfl rfl rfl) rfl (ym rfl rfl (Zo rfl rfl rfl rfl (Zf (Zl rfl rfl rfl) rfl (ym rfl rfl (Zo rfl rfl rfl rfl ?_)))))))
       refine Zf (Zl rfl rfl rfl) rfl ?_
       exact Zx rfl trivial (trivial)
      ·
       refine Zk rfl rfl (ym rfl rfl (Zk rfl rfl (Zf (Zay rfl rfl rfl) rfl ?_)))
       refine Zf (Zm rfl rfl rfl) rfl (ym rfl rfl ?_)
       refine Zad 44 rfl (fun hg12_6 => ?_) (fun hg12_6 => ?_)
       ·
        refine Zo rfl rfl rfl rfl (Zf (Zl rfl rfl rfl) rfl (ym rfl rfl (Zo rfl rfl rfl rfl (Zf (Zl rfl rfl rfl) rfl ?_))))
        exact Zx rfl trivial (trivial)
       ·
        refine Zk rfl rfl (ym rfl rfl (Zf (Zm rfl rfl rfl) rfl (ym rfl rfl ?_)))
        refine Zad 47 rfl (fun hg12_9 => ?_) (fun hg12_9 => ?_)
        ·
         refine Zo rfl rfl rfl rfl (Zf (Zl rfl rfl rfl) rfl ?_)
         exact Zx rfl trivial (trivial)
        ·
         refine Zk rfl rfl (ym rfl rfl (Zf (Zm rfl rfl rfl) rfl ?_))
         exact Zx rfl trivial (trivial)
     refine Zd (ρ' := [(49, _)]) ⟨rfl, trivial⟩ ?_
     refine Zb ?_
     refine Zn rfl (fun hb12 => ?_) (fun hb12 => ?_)
     ·
      refine Zc (Za (ya rfl rfl (Zd (ρ' := [(8, _)]) ⟨rfl, trivial⟩ ?_)))
      refine Zb (Zv (Zr (Zh ?_)))
      refine Zav (.tmp rfl) ?_
      first
      | exact ⟨_, rfl, fun h => absurd h (by decide)⟩
      | exact ⟨_, rfl, fun _ => ⟨hF, fun hk => hm7_8 hb7 , fun hk => hm9_8 hb9 hk⟩⟩
      | (refine ⟨_, rfl, fun _ => ⟨hF, fun hk => ?_, fun hk => ?_⟩⟩ <;> (exfalso; simp only [decide_eq_true_eq, decide_eq_false_iff_not] at *; omega))
     ·
      refine Zs (Zaf (Zb (Zc (Za (ya rfl rfl (Zd (ρ' := [(8, _)]) ⟨rfl, trivial⟩ ?_))))))
      refine Zb (Zv ?_)
      refine Zav (.tmp rfl) ?_
      first
      | exact ⟨_, rfl, fun h => absurd h (by decide)⟩
      | exact ⟨_, rfl, fun _ => ⟨hF, fun hk => hm7_8 hb7 , fun hk => hm9_8 hb9 hk⟩⟩
      | (refine ⟨_, rfl, fun _ => ⟨hF, fun hk => ?_, fun hk => ?_⟩⟩ <;> (exfalso; simp only [decide_eq_true_eq, decide_eq_false_iff_not] at *; omega))
    ·
     refine Zc (Za (Zf (Zay rfl rfl rfl) rfl ?_))
     refine ya rfl rfl (Zd (ρ' := [(3, _), (4, _), (13, _), (50, _)]) ⟨rfl, rfl, rfl, rfl, trivial⟩ ?_)
     refine Zb ?_
     refine Zn rfl (fun hb14 => ?_) (fun hb14 => ?_)
     ·
      refine Zc (Za (ym rfl rfl (Zd (ρ' := [(52, _)]) ⟨rfl, trivial⟩ ?_)))
      refine Zb ?_
      refine Zn rfl (fun hb15 => ?_) (fun hb15 => ?_)
      ·
       refine Zc (Za (ya rfl rfl (Zd (ρ' := [(8, _)]) ⟨rfl, trivial⟩ ?_)))
       refine Zb (Zv (Zr (Zh ?_)))
       refine Zav (.tmp rfl) ?_
       first
       | exact ⟨_, rfl, fun h => absurd h (by decide)⟩
       | exact ⟨_, rfl, fun _ => ⟨hF, fun hk => hm7_8 hb7 , fun hk => hm9_8 hb9 hk⟩⟩
       | (refine ⟨_, rfl, fun _ => ⟨hF, fun hk => ?_, fun hk => ?_⟩⟩ <;> (exfalso; simp only [decide_eq_true_eq, decide_eq_false_iff_not] at *; omega))
      ·
       refine Zs (Zaf (Zb (Zc (Za (ya rfl rfl (Zd (ρ' := [(8, _)]) ⟨rfl, trivial⟩ ?_))))))
       refine Zb (Zv ?_)
       refine Zav (.tmp rfl) ?_
       first
       | exact ⟨_, rfl, fun h => absurd h (by decide)⟩
       | exact ⟨_, rfl, fun _ => ⟨hF, fun hk => hm7_8 hb7 , fun hk => hm9_8 hb9 hk⟩⟩
       | (refine ⟨_, rfl, fun _ => ⟨hF, fun hk => ?_, fun hk => ?_⟩⟩ <;> (exfalso; simp only [decide_eq_true_eq, decide_eq_false_iff_not] at *; omega))
     ·
      refine Zbv (fun ρ σ uci20 => VLe u uci20 ∧ σ = [(4, (none, .box (inlV k t d ti a.id vc vp va (.slice ad4 cites.length cap4) (.slice ad5 kids.length cap5))))] ∧ ρ = [(4, .p 4 0), (13, .v (.int .i64 k)), (53, .v (.bool (decide (6 ≤ k ∧ k ≤ 8))))] ∧ (u = uci20)) ?_ ?_
      ·
       refine Zc (Za (Zf (Zay rfl rfl rfl) rfl ?_))
       refine ya rfl rfl (Zd (ρ' := [(4, _), (13, _), (53, _)]) ⟨rfl, rfl, rfl, trivial⟩ ?_)
       refine Zb ?_
       refine Zn rfl (fun hb17 => ?_) (fun hb17 => ?_)
       ·
        refine Zs (Zae ?_)
        refine ⟨[(4, _), (13, _), (53, _)], [(4, _)], ⟨rfl, rfl, rfl, trivial⟩, ⟨rfl, trivial⟩, (VLe.refl _), rfl, (by first | rfl | (simp only [List.cons.injEq, Prod.mk.injEq, SV.v.injEq, Value.bool.injEq, eq_self, true_and, and_true]; exact decide_eq_decide.2 (by simp only [decide_eq_true_eq, decide_eq_false_iff_not] at *; omega))), ?_⟩
        rfl
       ·
        refine Zc (Za (Zf (Zay rfl rfl rfl) rfl ?_))
        refine ya rfl rfl (Zd (ρ' := [(4, _), (13, _), (53, _)]) ⟨rfl, rfl, rfl, trivial⟩ ?_)
        refine Zb ?_
        refine Zn rfl (fun hb18 => ?_) (fun hb18 => ?_)
        ·
         refine Zs (Zae ?_)
         refine ⟨[(4, _), (13, _), (53, _)], [(4, _)], ⟨rfl, rfl, rfl, trivial⟩, ⟨rfl, trivial⟩, (VLe.refl _), rfl, (by first | rfl | (simp only [List.cons.injEq, Prod.mk.injEq, SV.v.injEq, Value.bool.injEq, eq_self, true_and, and_true]; exact decide_eq_decide.2 (by simp only [decide_eq_true_eq, decide_eq_false_iff_not] at *; omega))), ?_⟩
         rfl
        ·
         refine Za (Zf (Zay rfl rfl rfl) rfl ?_)
         refine ya rfl rfl (Zd (ρ' := [(4, _), (13, _), (53, _)]) ⟨rfl, rfl, rfl, trivial⟩ ?_)
         refine Zae ?_
         refine ⟨[(4, _), (13, _), (53, _)], [(4, _)], ⟨rfl, rfl, rfl, trivial⟩, ⟨rfl, trivial⟩, (VLe.refl _), rfl, (by first | rfl | (simp only [List.cons.injEq, Prod.mk.injEq, SV.v.injEq, Value.bool.injEq, eq_self, true_and, and_true]; exact decide_eq_decide.2 (by simp only [decide_eq_true_eq, decide_eq_false_iff_not] at *; omega))), ?_⟩
         rfl
      ·
       rintro ρ σ uci20 ⟨hlci20, rfl, rfl, rfl⟩
       refine Zn rfl (fun hb19 => ?_) (fun hb19 => ?_)
       ·
        refine Zc (Za (Zf (Zi rfl Tryz.f45' rfl (by decide) rfl) rfl ?_))
        refine Zf (Zj rfl Tryz.k37 rfl rfl rfl (vs := [_]) rfl rfl rfl) rfl ?_
        refine Zf (Zal rfl rfl Tryz.s37 rfl) rfl ?_
        refine Zf (Zay rfl rfl rfl) rfl ?_
        refine Zd (ρ' := [(60, _)]) ⟨rfl, trivial⟩ ?_
        refine Zb ?_
        refine Zn rfl (fun hb20 => ?_) (fun hb20 => ?_)
        ·
         refine Zc (Za (ya rfl rfl (Zd (ρ' := [(8, _)]) ⟨rfl, trivial⟩ ?_)))
         refine Zb (Zv (Zr (Zh ?_)))
         refine Zav (.tmp rfl) ?_
         first
         | exact ⟨_, rfl, fun h => absurd h (by decide)⟩
         | exact ⟨_, rfl, fun _ => ⟨hF, fun hk => hm7_8 hb7 , fun hk => hm9_8 hb9 hk⟩⟩
         | (refine ⟨_, rfl, fun _ => ⟨hF, fun hk => ?_, fun hk => ?_⟩⟩ <;> (exfalso; simp only [decide_eq_true_eq, decide_eq_false_iff_not] at *; omega))
        ·
         refine Zs (Zaf (Zb (Zc (Za (ya rfl rfl (Zd (ρ' := [(8, _)]) ⟨rfl, trivial⟩ ?_))))))
         refine Zb (Zv ?_)
         refine Zav (.tmp rfl) ?_
         first
         | exact ⟨_, rfl, fun h => absurd h (by decide)⟩
         | exact ⟨_, rfl, fun _ => ⟨hF, fun hk => hm7_8 hb7 , fun hk => hm9_8 hb9 hk⟩⟩
         | (refine ⟨_, rfl, fun _ => ⟨hF, fun hk => ?_, fun hk => ?_⟩⟩ <;> (exfalso; simp only [decide_eq_true_eq, decide_eq_false_iff_not] at *; omega))
       ·
        refine Zbv (fun ρ σ uci24 => VLe u uci24 ∧ σ = [(4, (none, .box (inlV k t d ti a.id vc vp va (.slice ad4 cites.length cap4) (.slice ad5 kids.length cap5))))] ∧ ρ = [(4, .p 4 0), (13, .v (.int .i64 k)), (61, .v (.bool (decide (k = 9 ∨ k = 10))))] ∧ (u = uci24)) ?_ ?_
        ·
         refine Zc (Za (Zf (Zay rfl rfl rfl) rfl ?_))
         refine ya rfl rfl (Zd (ρ' := [(4, _), (13, _), (61, _)]) ⟨rfl, rfl, rfl, trivial⟩ ?_)
         refine Zb ?_
         refine Zn rfl (fun hb22 => ?_) (fun hb22 => ?_)
         ·
          refine Zs (Zae ?_)
          refine ⟨[(4, _), (13, _), (61, _)], [(4, _)], ⟨rfl, rfl, rfl, trivial⟩, ⟨rfl, trivial⟩, (VLe.refl _), rfl, (by first | rfl | (simp only [List.cons.injEq, Prod.mk.injEq, SV.v.injEq, Value.bool.injEq, eq_self, true_and, and_true]; exact decide_eq_decide.2 (by simp only [decide_eq_true_eq, decide_eq_false_iff_not] at *; omega))), ?_⟩
          rfl
         ·
          refine Za (Zf (Zay rfl rfl rfl) rfl ?_)
          refine ya rfl rfl (Zd (ρ' := [(4, _), (13, _), (61, _)]) ⟨rfl, rfl, rfl, trivial⟩ ?_)
          refine Zae ?_
          refine ⟨[(4, _), (13, _), (61, _)], [(4, _)], ⟨rfl, rfl, rfl, trivial⟩, ⟨rfl, trivial⟩, (VLe.refl _), rfl, (by first | rfl | (simp only [List.cons.injEq, Prod.mk.injEq, SV.v.injEq, Value.bool.injEq, eq_self, true_and, and_true]; exact decide_eq_decide.2 (by simp only [decide_eq_true_eq, decide_eq_false_iff_not] at *; omega))), ?_⟩
          rfl
        ·
         rintro ρ σ uci24 ⟨hlci24, rfl, rfl, rfl⟩
         refine Zn rfl (fun hb23 => ?_) (fun hb23 => ?_)
         ·
          refine Zc (Za (Zf (Zj rfl Tryz.k45 rfl rfl rfl (vs := [_, _, _, _, _, _, _, _, _, _]) rfl rfl rfl) rfl ?_))
          refine Zq rfl rfl ?_
          refine Zw (caps := []) trivial rfl rfl Tryz.c164 rfl (FnP.mono (ktarget_fn k t d ti a args cites kids vc vp va (.slice ad4 cites.length cap4) (.slice ad5 kids.length cap5) u h0) ?_)
          rintro v u1 hle1 ⟨e1, rfl⟩
          refine ya rfl rfl (Zd (ρ' := [(8, _)]) ⟨rfl, trivial⟩ ?_)
          refine Zb (Zv (Zr (Zh ?_)))
          refine Zav (.tmp rfl) ?_
          first
          | exact ⟨_, rfl, fun h => absurd h (by decide)⟩
          | exact ⟨_, rfl, fun _ => ⟨hF, fun hk => hm7_8 hb7 , fun hk => hm9_8 hb9 hk⟩⟩
          | (refine ⟨_, rfl, fun _ => ⟨hF, fun hk => ?_, fun hk => ?_⟩⟩ <;> (exfalso; simp only [decide_eq_true_eq, decide_eq_false_iff_not] at *; omega))
         ·
          refine Zc (Za (Zf (Zay rfl rfl rfl) rfl ?_))
          refine ya rfl rfl (Zd (ρ' := [(4, _), (13, _), (66, _)]) ⟨rfl, rfl, rfl, trivial⟩ ?_)
          refine Zb ?_
          refine Zn rfl (fun hb25 => ?_) (fun hb25 => ?_)
          ·
           refine Zc (Zc (Za (Zf (Zi rfl Tryz.f45' rfl (by decide) rfl) rfl ?_)))
           refine Zf (Zj rfl Tryz.k36 rfl rfl rfl (vs := [_, _, _]) rfl rfl rfl) rfl ?_
           refine Zq rfl rfl ?_
           refine Zw (caps := []) trivial rfl rfl Tryz.c112 rfl (FnP.mono (noAttr_fn a vc vp u s1 s2) ?_)
           rintro v u1 hle1 rfl
           refine Zd (ρ' := [(4, _), (70, _)]) ⟨rfl, rfl, trivial⟩ ?_
           refine Zb ?_
           refine Zn rfl (fun hb26 => ?_) (fun hb26 => ?_)
           ·
            refine Zc (Za (ya rfl rfl (Zd (ρ' := [(8, _)]) ⟨rfl, trivial⟩ ?_)))
            refine Zb (Zv (Zh (Zr (Zh ?_))))
            refine Zav (.tmp rfl) ?_
            first
            | exact ⟨_, rfl, fun h => absurd h (by decide)⟩
            | exact ⟨_, rfl, fun _ => ⟨hF, fun hk => hm7_8 hb7 , fun hk => hm9_8 hb9 hk⟩⟩
            | (refine ⟨_, rfl, fun _ => ⟨hF, fun hk => ?_, fun hk => ?_⟩⟩ <;> (exfalso; simp only [decide_eq_true_eq, decide_eq_false_iff_not] at *; omega))
           ·
            refine Zs (Zb (Zc (Za (Zf (Zi rfl Tryz.f45' rfl (by decide) rfl) rfl ?_))))
            refine Zf (Zj rfl Tryz.k36 rfl rfl rfl (vs := [_, _, _]) rfl rfl rfl) rfl ?_
            refine Zq rfl rfl ?_
            refine Zw (caps := []) trivial rfl rfl Tryz.c116 rfl (FnP.mono (attrCheck_fn a vc vp ⟨by omega, q2, q3⟩ u s1 s2) ?_)
            rintro v u1 hle1 ⟨e2, rfl⟩
            refine ya rfl rfl (Zd (ρ' := [(8, _)]) ⟨rfl, trivial⟩ ?_)
            refine Zb (Zv (Zr (Zh ?_)))
            refine Zav (.tmp rfl) ?_
            first
            | exact ⟨_, rfl, fun h => absurd h (by decide)⟩
            | exact ⟨_, rfl, fun _ => ⟨hF, fun hk => hm7_8 hb7 , fun hk => hm9_8 hb9 hk⟩⟩
            | (refine ⟨_, rfl, fun _ => ⟨hF, fun hk => ?_, fun hk => ?_⟩⟩ <;> (exfalso; simp only [decide_eq_true_eq, decide_eq_false_iff_not] at *; omega))
          ·
           refine Zbv (fun ρ σ uci32 => VLe u uci32 ∧ σ = [(4, (none, .box (inlV k t d ti a.id vc vp va (.slice ad4 cites.length cap4) (.slice ad5 kids.length cap5))))] ∧ ρ = [(4, .p 4 0), (13, .v (.int .i64 k)), (74, .v (.bool (decide (k = 12 ∨ k = 14 ∨ k = 15))))] ∧ (u = uci32)) ?_ ?_
           ·
            refine Zc (Za (Zf (Zay rfl rfl rfl) rfl ?_))
            refine ya rfl rfl (Zd (ρ' := [(4, _), (13, _), (74, _)]) ⟨rfl, rfl, rfl, trivial⟩ ?_)
            refine Zb ?_
            refine Zn rfl (fun hb29 => ?_) (fun hb29 => ?_)
            ·
             refine Zs (Zae ?_)
             refine ⟨[(4, _), (13, _), (74, _)], [(4, _)], ⟨rfl, rfl, rfl, trivial⟩, ⟨rfl, trivial⟩, (VLe.refl _), rfl, (by first | rfl | (simp only [List.cons.injEq, Prod.mk.injEq, SV.v.injEq, Value.bool.injEq, eq_self, true_and, and_true]; exact decide_eq_decide.2 (by simp only [decide_eq_true_eq, decide_eq_false_iff_not] at *; omega))), ?_⟩
             rfl
            ·
             refine Zc (Za (Zf (Zay rfl rfl rfl) rfl ?_))
             refine ya rfl rfl (Zd (ρ' := [(4, _), (13, _), (74, _)]) ⟨rfl, rfl, rfl, trivial⟩ ?_)
             refine Zb ?_
             refine Zn rfl (fun hb30 => ?_) (fun hb30 => ?_)
             ·
              refine Zs (Zae ?_)
              refine ⟨[(4, _), (13, _), (74, _)], [(4, _)], ⟨rfl, rfl, rfl, trivial⟩, ⟨rfl, trivial⟩, (VLe.refl _), rfl, (by first | rfl | (simp only [List.cons.injEq, Prod.mk.injEq, SV.v.injEq, Value.bool.injEq, eq_self, true_and, and_true]; exact decide_eq_decide.2 (by simp only [decide_eq_true_eq, decide_eq_false_iff_not] at *; omega))), ?_⟩
              rfl
             ·
              refine Za (Zf (Zay rfl rfl rfl) rfl ?_)
              refine ya rfl rfl (Zd (ρ' := [(4, _), (13, _), (74, _)]) ⟨rfl, rfl, rfl, trivial⟩ ?_)
              refine Zae ?_
              refine ⟨[(4, _), (13, _), (74, _)], [(4, _)], ⟨rfl, rfl, rfl, trivial⟩, ⟨rfl, trivial⟩, (VLe.refl _), rfl, (by first | rfl | (simp only [List.cons.injEq, Prod.mk.injEq, SV.v.injEq, Value.bool.injEq, eq_self, true_and, and_true]; exact decide_eq_decide.2 (by simp only [decide_eq_true_eq, decide_eq_false_iff_not] at *; omega))), ?_⟩
              rfl
           ·
            rintro ρ σ uci32 ⟨hlci32, rfl, rfl, rfl⟩
            refine Zn rfl (fun hb31 => ?_) (fun hb31 => ?_)
            ·
             refine Zc (Za (Zf (Zj rfl Tryz.k45 rfl rfl rfl (vs := [_, _, _, _, _, _, _, _, _, _]) rfl rfl rfl) rfl ?_))
             refine Zq rfl rfl ?_
             refine Zw (caps := []) trivial rfl rfl Tryz.c165 rfl (FnP.mono (named_fn k t d ti a args cites kids vc vp va (.slice ad4 cites.length cap4) (.slice ad5 kids.length cap5) u h0) ?_)
             rintro v u1 hle1 ⟨e3, rfl⟩
             refine ya rfl rfl (Zd (ρ' := [(8, _)]) ⟨rfl, trivial⟩ ?_)
             refine Zb (Zv (Zr (Zh ?_)))
             refine Zav (.tmp rfl) ?_
             first
             | exact ⟨_, rfl, fun h => absurd h (by decide)⟩
             | exact ⟨_, rfl, fun _ => ⟨hF, fun hk => hm7_8 hb7 , fun hk => hm9_8 hb9 hk⟩⟩
             | (refine ⟨_, rfl, fun _ => ⟨hF, fun hk => ?_, fun hk => ?_⟩⟩ <;> (exfalso; simp only [decide_eq_true_eq, decide_eq_false_iff_not] at *; omega))
            ·
             refine Zc (Za (Zf (Zay rfl rfl rfl) rfl ?_))
             refine ya rfl rfl (Zd (ρ' := [(4, _), (13, _), (80, _)]) ⟨rfl, rfl, rfl, trivial⟩ ?_)
             refine Zb ?_
             refine Zn rfl (fun hb33 => ?_) (fun hb33 => ?_)
             ·
              refine Zc (Za (Zf (Zi rfl Tryz.f45' rfl (by decide) rfl) rfl ?_))
              refine Zf (Zj rfl Tryz.k43 rfl rfl rfl (vs := [_]) rfl rfl rfl) rfl ?_
              refine Zq rfl rfl ?_
              refine Zw (caps := []) trivial rfl rfl Tryz.c166 rfl (FnP.mono (cites_fn (.slice ad4 cites.length cap4) cites q6 q8 u ⟨_, _, rfl, s4⟩) ?_)
              rintro v u1 hle1 ⟨e4, rfl⟩
              refine ya rfl rfl (Zd (ρ' := [(8, _)]) ⟨rfl, trivial⟩ ?_)
              refine Zb (Zv (Zr (Zh ?_)))
              refine Zav (.tmp rfl) ?_
              first
              | exact ⟨_, rfl, fun h => absurd h (by decide)⟩
              | exact ⟨_, rfl, fun _ => ⟨hF, fun hk => hm7_8 hb7 , fun hk => hm9_8 hb9 hk⟩⟩
              | (refine ⟨_, rfl, fun _ => ⟨hF, fun hk => ?_, fun hk => ?_⟩⟩ <;> (exfalso; simp only [decide_eq_true_eq, decide_eq_false_iff_not] at *; omega))
             ·
              refine Zc (Za (Zf (Zay rfl rfl rfl) rfl ?_))
              refine ya rfl rfl (Zd (ρ' := [(4, _), (85, _)]) ⟨rfl, rfl, trivial⟩ ?_)
              refine Zb ?_
              refine Zn rfl (fun hb35 => ?_) (fun hb35 => ?_)
              ·
               refine Zc (Za (Zf (Zi rfl Tryz.f45' rfl (by decide) rfl) rfl ?_))
               refine Zf (Zj rfl Tryz.k9 rfl rfl rfl (vs := [_]) rfl rfl rfl) rfl ?_
               refine Zq rfl rfl ?_
               refine Zw (caps := []) trivial rfl rfl Tryz.c167 rfl (FnP.mono (auto_fn d (by omega) u) ?_)
               rintro v u1 hle1 ⟨b5, rfl⟩
               refine Zf (Zbs rfl rfl) rfl ?_
               refine Zd (ρ' := [(90, _)]) ⟨rfl, trivial⟩ ?_
               refine Zb ?_
               refine Zn rfl (fun hb36 => ?_) (fun hb36 => ?_)
               ·
                refine Zc (Za (ya rfl rfl (Zd (ρ' := [(8, _)]) ⟨rfl, trivial⟩ ?_)))
                refine Zb (Zv (Zr (Zh ?_)))
                refine Zav (.tmp rfl) ?_
                first
                | exact ⟨_, rfl, fun h => absurd h (by decide)⟩
                | exact ⟨_, rfl, fun _ => ⟨hF, fun hk => hm7_8 hb7 , fun hk => hm9_8 hb9 hk⟩⟩
                | (refine ⟨_, rfl, fun _ => ⟨hF, fun hk => ?_, fun hk => ?_⟩⟩ <;> (exfalso; simp only [decide_eq_true_eq, decide_eq_false_iff_not] at *; omega))
               ·
                refine Zs (Zaf (Zb (Zc (Za (ya rfl rfl (Zd (ρ' := [(8, _)]) ⟨rfl, trivial⟩ ?_))))))
                refine Zb (Zv ?_)
                refine Zav (.tmp rfl) ?_
                first
                | exact ⟨_, rfl, fun h => absurd h (by decide)⟩
                | exact ⟨_, rfl, fun _ => ⟨hF, fun hk => hm7_8 hb7 , fun hk => hm9_8 hb9 hk⟩⟩
                | (refine ⟨_, rfl, fun _ => ⟨hF, fun hk => ?_, fun hk => ?_⟩⟩ <;> (exfalso; simp only [decide_eq_true_eq, decide_eq_false_iff_not] at *; omega))
              ·
               refine Zs (Zaf (Zb (Zc (Za (ya rfl rfl (Zd (ρ' := [(8, _)]) ⟨rfl, trivial⟩ ?_))))))
               refine Zb (Zv ?_)
               refine Zav (.tmp rfl) ?_
               first
               | exact ⟨_, rfl, fun h => absurd h (by decide)⟩
               | exact ⟨_, rfl, fun _ => ⟨hF, fun hk => hm7_8 hb7 , fun hk => hm9_8 hb9 hk⟩⟩
               | (refine ⟨_, rfl, fun _ => ⟨hF, fun hk => ?_, fun hk => ?_⟩⟩ <;> (exfalso; simp only [decide_eq_true_eq, decide_eq_false_iff_not] at *; omega))
set_option maxHeartbeats 1000000 in
theorem lineList_fn (n : Nat) : ∀ (v : Value) (xs : List Inl) (dp : Int) (u : View), szI xs ≤ n → szI xs ≤ 100000 → smI xs → 0 ≤ dp → dp ≤ 16 → InlS u v xs →
  FnP Tryz.prog 150 [v, .int .i64 dp] u fun r _ => ∃ e : Int, r = .int .i64 e ∧ (e = 0 → okL 0 xs) := by
 induction n using Nat.strongRecOn with
 | _ n ih =>
 intro v xs dp u hsz hbig hsm hd0 hd1 ha
 have hlx := len_szI xs
 obtain ⟨cs, ⟨ad, cap, rfl, h1⟩, hc1⟩ := ha
 refine FnP.intro [.tmp 4] Tryz.func150 rfl rfl rfl ?_
 intro w0 D hw0
 refine Zc (Za (ya rfl rfl (Zd (ρ' := [(0, _), (1, _)]) ⟨rfl, rfl, trivial⟩ ?_)))
 refine Zb (Zc (Za (ya rfl rfl (Zd (ρ' := [(0, _), (1, _), (5, _)]) ⟨rfl, rfl, rfl, trivial⟩ ?_))))
 refine Zb (Zc (Zc (Za (ya rfl rfl (Zd (ρ' := [(0, _), (1, _), (5, _), (6, _)]) ⟨rfl, rfl, rfl, rfl, trivial⟩ ?_)))))
 refine Zb (Zaa ?_)
 refine Zau (fun m ρ σ u' => ∃ i : Nat, i + m = xs.length ∧ VLe u u' ∧ ∃ (bf : Int), σ = [] ∧ ρ = [(0, .v (.slice ad xs.length cap)), (1, .v (.int .i64 dp)), (5, .v (.int .i64 bf)), (6, .v (.int .i64 i))] ∧ (u = u' ∧ (okL bf (xs.drop i) → okL 0 xs))) (xs.length) ?_ ?_
 ·
  refine ⟨[(0, _), (1, _), (5, _), (6, _)], [], ⟨rfl, rfl, rfl, rfl, trivial⟩, trivial, 0, by omega, VLe.refl _, 0, (by first | rfl | simp), (by first | rfl | (simp only [List.cons.injEq, Prod.mk.injEq, SV.v.injEq, Value.int.injEq, true_and, and_true]; omega) | simp), ?_⟩
  exact ⟨rfl, fun h => h⟩
 ·
  rintro m ρ σ u' ⟨i, hi3, hle3, bf, rfl, rfl, ⟨rfl, hinv⟩⟩
  refine Zc (Zc (Za (ym rfl rfl (ym rfl rfl (Zf (Zal rfl rfl Tryz.s37 rfl) rfl ?_)))))
  refine Zf (Zbh rfl rfl rfl) rfl ?_
  refine Zd (ρ' := [(0, _), (1, _), (5, _), (6, _), (11, _)]) ⟨rfl, rfl, rfl, rfl, rfl, trivial⟩ ?_
  refine Zb ?_
  refine Zn rfl (fun hb3 => ?_) (fun hb3 => ?_)
  ·
   have hlt : i < xs.length := by have := of_decide_eq_true hb3; omega
   obtain ⟨k, t, d, ti, a, args, cites, kids, vc, vp, va, vt, vk, hg, hcut1, s1, s2, s3, s4, s5, hok⟩ := hc1.at hlt
   have oneAll := (hc1.get i _ hg).one
   rw [hcut1] at oneAll
   have hszk := szI_kids hg
   have hsmx := smI_get hsm hg
   have hK : InlK u a args cites kids vc vp va vt vk t d ti := ⟨s1, s2, s3, s4, s5, hsmx.1, by omega⟩
   refine Zs (Zb (Zc (Zaa (Zc (Zc (Za (ym rfl rfl (Zf (Zcd rfl rfl rfl) rfl ?_))))))))
   refine Zd (ρ' := [(0, _), (1, _), (5, _), (6, _), (15, _)]) ⟨rfl, rfl, rfl, rfl, rfl, trivial⟩ ?_
   refine Zb ?_
   refine Zn rfl (fun hb5 => ?_) (fun hb5 => ?_)
   ·
    skip
    refine Zc (Za (ya rfl rfl (Zd (ρ' := [(4, _)]) ⟨rfl, trivial⟩ ?_)))
    refine Zb (Zv (Zh (Zr (Zh (Zh (Zr (Zh ?_)))))))
    refine Zav (.tmp rfl) ?_
    first
    | exact ⟨_, rfl, fun h => absurd h (by decide)⟩
    | exact ⟨_, rfl, fun h => absurd h (of_decide_eq_true hb11)⟩
    | exact ⟨_, rfl, fun h => absurd h (of_decide_eq_true hb8)⟩
    | exact ⟨_, rfl, fun h => hinv (by unfold okL; trivial)⟩
   ·
    have hd15 := of_decide_eq_false hb5
    refine Zs (Zb (Zc (Za (ym rfl rfl (ym rfl rfl (Zf (Zai rfl Tryz.s37 rfl rfl (by assumption) (by first | rfl | omega) (by omega)) rfl ?_))))))
    refine Zf (Zag rfl Tryz.k45 rfl (by assumption) (by omega) (by assumption) (vs := [_, _, _, _, _, _, _, _, _, _]) rfl rfl rfl rfl) rfl ?_
    refine ym rfl rfl ?_
    refine Zbc 6 26 (fun _ => True) (ρk := [(0, _), (1, _), (6, _), (19, _), (20, _)]) ⟨rfl, rfl, rfl, rfl, rfl, trivial⟩ ?_ fun mb7_10 hm7_10 => ?_
    ·
     refine ym rfl rfl (Zf (Zay rfl rfl rfl) rfl ?_)
     refine ym rfl rfl ?_
     refine Zad 23 rfl (fun hg7_7 => ?_) (fun hg7_7 => ?_)
     ·
      refine Zk rfl rfl (ym rfl rfl (Zk rfl rfl (Zf (Zay rfl rfl rfl) rfl ?_)))
      refine Zf (Zl rfl rfl rfl) rfl ?_
      exact Zx rfl ⟨rfl, rfl, rfl, rfl, rfl, trivial⟩ (trivial)
     ·
      refine Zo rfl rfl rfl rfl (Zo rfl rfl rfl rfl (Zf (Zm rfl rfl rfl) rfl ?_))
      exact Zx rfl ⟨rfl, rfl, rfl, rfl, rfl, trivial⟩ (trivial)
    refine Zbc 9 35 (fun _ => True) (ρk := [(0, _), (1, _), (6, _), (19, _), (20, _), (26, _)]) ⟨rfl, rfl, rfl, rfl, rfl, rfl, trivial⟩ ?_ fun mb7_19 hm7_19 => ?_
    ·
     refine ym rfl rfl (Zf (Zay rfl rfl rfl) rfl ?_)
     refine ym rfl rfl ?_
     refine Zad 29 rfl (fun hg7_13 => ?_) (fun hg7_13 => ?_)
     ·
      refine Zk rfl rfl (ym rfl rfl (Zk rfl rfl (ym rfl rfl (Zk rfl rfl (Zf (Zal rfl rfl Tryz.s37 rfl) rfl ?_)))))
      refine Zk rfl rfl (Zf (y_sub rfl rfl rfl (Zu (by omega))) rfl ?_)
      refine Zk rfl rfl (Zf (Zay rfl rfl rfl) rfl ?_)
      refine Zf (Zl rfl rfl rfl) rfl ?_
      exact Zx rfl ⟨rfl, rfl, rfl, rfl, rfl, rfl, trivial⟩ (trivial)
     ·
      iterate 5 refine Zo rfl rfl rfl rfl ?_
      refine Zf (Zm rfl rfl rfl) rfl ?_
      exact Zx rfl ⟨rfl, rfl, rfl, rfl, rfl, rfl, trivial⟩ (trivial)
    refine Zq rfl rfl ?_
    refine Zw (caps := []) trivial rfl rfl Tryz.c159 rfl (FnP.mono (kone_fn k t d ti a args cites kids vc vp va vt vk bf _ _ u hK) ?_)
    rintro v u1 hle1 ⟨e1, rfl, he1⟩
    refine ya rfl rfl (Zd (ρ' := [(0, _), (1, _), (6, _), (7, _)]) ⟨rfl, rfl, rfl, rfl, trivial⟩ ?_)
    refine Zb (Zc (Zc (Za (ym rfl rfl (Zf (Zcc rfl rfl rfl) rfl ?_)))))
    refine Zd (ρ' := [(0, _), (1, _), (6, _), (7, _), (38, _)]) ⟨rfl, rfl, rfl, rfl, rfl, trivial⟩ ?_
    refine Zb ?_
    refine Zn rfl (fun hb8 => ?_) (fun hb8 => ?_)
    ·
     refine Zc (Za (ym rfl rfl (ya rfl rfl (Zd (ρ' := [(4, _)]) ⟨rfl, trivial⟩ ?_))))
     refine Zb (Zv (Zh (Zr (Zh (Zh (Zr (Zh ?_)))))))
     refine Zav (.tmp rfl) ?_
     first
     | exact ⟨_, rfl, fun h => absurd h (by decide)⟩
     | exact ⟨_, rfl, fun h => absurd h (of_decide_eq_true hb11)⟩
     | exact ⟨_, rfl, fun h => absurd h (of_decide_eq_true hb8)⟩
     | exact ⟨_, rfl, fun h => hinv (by unfold okL; trivial)⟩
    ·
     refine Zs (Zb (Zc (Za (ym rfl rfl (ym rfl rfl (Zf (Zai rfl Tryz.s37 rfl rfl (by assumption) (by first | rfl | omega) (by omega)) rfl ?_))))))
     refine Zf (Zap rfl Tryz.f45' rfl (by decide) rfl) rfl ?_
     refine Zf (Zag rfl Tryz.k37 rfl (by assumption) (by omega) (by assumption) (vs := [_]) rfl rfl rfl rfl) rfl ?_
     refine ym rfl rfl (Zf (Zas rfl rfl rfl (Zu (by omega))) rfl ?_)
     refine Zq rfl rfl ?_
     refine Zw (caps := []) trivial rfl rfl Tryz.c150 rfl (FnP.mono (ih (szI kids) (by omega) vk kids (dp + 1) u (Nat.le_refl _) (by omega) hsmx.2 (by omega) (by omega) s5) ?_)
     rintro v u1 hle1 ⟨e2, rfl, he2⟩
     refine ya rfl rfl (Zd (ρ' := [(0, _), (1, _), (6, _), (7, _)]) ⟨rfl, rfl, rfl, rfl, trivial⟩ ?_)
     refine Zb (Zc (Zc (Za (ym rfl rfl (Zf (Zcc rfl rfl rfl) rfl ?_)))))
     refine Zd (ρ' := [(0, _), (1, _), (6, _), (7, _), (49, _)]) ⟨rfl, rfl, rfl, rfl, rfl, trivial⟩ ?_
     refine Zb ?_
     refine Zn rfl (fun hb11 => ?_) (fun hb11 => ?_)
     ·
      refine Zc (Za (ym rfl rfl (ya rfl rfl (Zd (ρ' := [(4, _)]) ⟨rfl, trivial⟩ ?_))))
      refine Zb (Zv (Zh (Zr (Zh (Zh (Zr (Zh ?_)))))))
      refine Zav (.tmp rfl) ?_
      first
      | exact ⟨_, rfl, fun h => absurd h (by decide)⟩
      | exact ⟨_, rfl, fun h => absurd h (of_decide_eq_true hb11)⟩
      | exact ⟨_, rfl, fun h => absurd h (of_decide_eq_true hb8)⟩
      | exact ⟨_, rfl, fun h => hinv (by unfold okL; trivial)⟩
     ·
      refine Zs (Zb (Za (ym rfl rfl (ym rfl rfl (Zf (Zai rfl Tryz.s37 rfl rfl (by assumption) (by first | rfl | omega) (by omega)) rfl ?_)))))
      refine Zf (Zap rfl Tryz.f45' rfl (by decide) rfl) rfl ?_
      refine Zf (Zag rfl Tryz.k3 rfl (by assumption) (by omega) (by assumption) (vs := [_]) rfl rfl rfl rfl) rfl ?_
      refine ya rfl rfl (Zd (ρ' := [(0, _), (1, _), (5, _), (6, _)]) ⟨rfl, rfl, rfl, rfl, trivial⟩ ?_)
      refine Zaf (Zb (Za (ym rfl rfl (Zf (Zas rfl rfl rfl (Zu (by omega))) rfl ?_))))
      refine ya rfl rfl (Zd (ρ' := [(0, _), (1, _), (5, _), (6, _)]) ⟨rfl, rfl, rfl, rfl, trivial⟩ ?_)
      refine Zae ?_
      refine ⟨m - 1, [(0, _), (1, _), (5, _), (6, _)], [], by omega, ⟨rfl, rfl, rfl, rfl, trivial⟩, trivial, i + 1, by omega, hle3, k, (by first | rfl | simp), (by first | rfl | (simp only [List.cons.injEq, Prod.mk.injEq, SV.v.injEq, Value.int.injEq, true_and, and_true]; omega) | simp), ?_⟩
      have z1 : e1 = 0 := Decidable.of_not_not (of_decide_eq_false hb8)
      have z2 : e2 = 0 := Decidable.of_not_not (of_decide_eq_false hb11)
      obtain ⟨w1, w2, w3⟩ := he1 z1
      exact ⟨rfl, fun h => hinv (okL_step hg (by unfold okI1; exact ⟨w1, w2, he2 z2⟩) w3 h)⟩
  ·
   have hge := of_decide_eq_false hb3
   rw [List.drop_eq_nil_of_le (by omega)] at hinv
   refine Zat ?_
   refine Zp (Zp ?_)
   refine Zah ?_
   refine Zb (Zc (Za (ya rfl rfl (Zd (ρ' := [(4, _)]) ⟨rfl, trivial⟩ ?_))))
   refine Zb (Zv ?_)
   refine Zav (.tmp rfl) ?_
   first
   | exact ⟨_, rfl, fun h => absurd h (by decide)⟩
   | exact ⟨_, rfl, fun h => absurd h (of_decide_eq_true hb11)⟩
   | exact ⟨_, rfl, fun h => absurd h (of_decide_eq_true hb8)⟩
   | exact ⟨_, rfl, fun h => hinv (by unfold okL; trivial)⟩
theorem kline_fn (v : Value) (xs : List Inl) (u : View) (hbig : szI xs ≤ 100000) (hsm : smI xs) (ha : InlS u v xs) :
  FnP Tryz.prog 130 [v] u fun r _ => ∃ e : Int, r = .int .i64 e ∧ (e = 0 → okL 0 xs) := by
 refine FnP.intro [.tmp 2] Tryz.func130 rfl rfl rfl ?_
 intro w0 D hw0
 refine Zc (Za (ya rfl rfl (Zd (ρ' := [(0, _)]) ⟨rfl, trivial⟩ ?_)))
 refine Zb (Zc (Za (ym rfl rfl (Zq rfl rfl ?_))))
 refine Zw (caps := []) trivial rfl rfl Tryz.c150 rfl (FnP.mono (lineList_fn (szI xs) v xs 0 u (Nat.le_refl _) hbig hsm (by omega) (by omega) ha) ?_)
 rintro v u1 hle1 ⟨e, rfl, he⟩
 refine ya rfl rfl (Zd (ρ' := [(2, _)]) ⟨rfl, trivial⟩ ?_)
 refine Zb (Zv ?_)
 refine Zav (.tmp rfl) ?_
 exact ⟨_, rfl, he⟩
end Go.Proofs.Ytoajhdnfdfbmaaa
