/- Texts for a law, part 4: they walk the functions that the law reaches, and state what holds of them; without conditions beyond each theorem's own. -/
import Derived.Test.YtoajhdnfdfbmaaaGreatDoorQartC
namespace Go.Proofs.Ytoajhdnfdfbmaaa
open Go Go.Eng
set_option linter.unusedSimpArgs false
set_option linter.unusedVariables false
set_option maxRecDepth 4000
abbrev PairB := Blk × List Value
abbrev FgX := List PairB → (Nat → Prop) → (World → Prop) → Prop
def PX (u0 : View) (bs : List Blk) (ps : List PairB) : Prop := ps.map Prod.fst = listB bs ∧ ∀ p ∈ ps, BlkC u0 p.1 p.2
theorem listB_in {bs : List Blk} {i : Nat} {x y : Blk} (h : bs[i]? = some x) (hy : y ∈ listb x) : y ∈ listB bs := by
 have h2 : listB bs = listB (bs.take (i + 1)) ++ listB (bs.drop (i + 1)) := by rw [← listB_append, List.take_append_drop]
 rw [h2, listB_take h]
 exact List.mem_append_left _ (List.mem_append_right _ hy)
def RoundsX (Rt : Blk → Prop) (u0 : View) (L : Nat) (u : View) (Y : FgX) : Prop :=
 ∀ pre H I, Y pre H I → (pre.length ≤ 100000 ∧ ∀ p ∈ pre, p.2.length = 11) → ∀ u' x cs, VLe u u' → BlkC u0 x cs → Rt x → YldO Tryz.prog L [.agg cs.toArray] u' [(none, .fg H I)] fun r u'' l' => r = .bool true ∧ ∃ H' I', l' = [(none, .fg H' I')] ∧ Y (pre ++ [(x, cs)]) H' I'
theorem RoundsX.mono {Rt : Blk → Prop} {u0 : View} {L : Nat} {u u' : View} {Y : FgX} (h : RoundsX Rt u0 L u Y) (hu : VLe u u') : RoundsX Rt u0 L u' Y := fun pre H I hY hl u2 x cs hv hc hx => h pre H I hY hl u2 x cs (hu.trans hv) hc hx
theorem PX.nil (u0 : View) : PX u0 [] [] := ⟨by simp [listB], fun p hp => by cases hp⟩
set_option maxHeartbeats 4000000 in
theorem eachRecX_fn (Rt : Blk → Prop) (u0 : View) (b2 b3 L : Nat) (Y : FgX) (n : Nat) : ∀ (v : Value) (bs : List Blk) (pre : List PairB) (H : Nat → Prop) (I : World → Prop) (u : View), szB bs ≤ n → pre.length + szB bs ≤ 100000 → BlkS u0 v bs → VLe u0 u → (∀ p ∈ pre, p.2.length = 11) → (∀ x ∈ listB bs, Rt x) → RoundsX Rt u0 L u Y → Y pre H I →
  FnO Tryz.prog 75 [v, .pointer (some ⟨b2, 0, none⟩), .pointer (some ⟨b3, 0, none⟩)] u [(some b2, .box [yldV L]), (some b3, .box [eachV b2 b3]), (none, .fg H I)]
   fun r u' l' => r = .bool true ∧ ∃ H' I' ps, PX u0 bs ps ∧ l' = [(some b2, .box [yldV L]), (some b3, .box [eachV b2 b3]), (none, .fg H' I')] ∧ Y (pre ++ ps) H' I' := by
 induction n using Nat.strongRecOn with
 | _ n ih =>
 intro v bs pre H I u hsz hbig ha hv0 h11 hRt hR hY
 have hlx := len_szB bs
 obtain ⟨cs, ⟨ad, cap, rfl, h1⟩, hc1⟩ := ha
 have h1 := h1.mono hv0
 refine FnO.intro [.tmp 4] Tryz.func75 rfl rfl rfl ?_
 intro w0 D hw0
 refine wc_pin 1 1000 _ 0 rfl rfl ?_
 refine wc_pin 2 1001 _ 0 rfl rfl ?_
 refine Zc (Za (ya rfl rfl (Zd (ρ' := [(0, _), (1, _), (2, _)]) ⟨rfl, rfl, rfl, trivial⟩ ?_)))
 refine Zb (Zc (Zc (Za (ym rfl rfl (Zf (Zal rfl rfl Tryz.s23 rfl) rfl ?_)))))
 refine ym rfl rfl (Zd (ρ' := [(0, _), (1, _), (2, _), (7, _), (8, _)]) ⟨rfl, rfl, rfl, rfl, rfl, trivial⟩ ?_)
 refine Zb (Zaa ?_)
 refine Zau (fun m ρ σ u' => ∃ i : Nat, i + m = bs.length ∧ VLe u u' ∧ ∃ (Hi : Nat → Prop) (Ii : World → Prop) (ps : List PairB), σ = [(1000, (some b2, .box [yldV L])), (1001, (some b3, .box [eachV b2 b3])), (1002, (none, .fg Hi Ii))] ∧ ρ = [(0, .v (.slice ad bs.length cap)), (1, .p 1000 0), (2, .p 1001 0), (7, .v (.int .i64 bs.length)), (8, .v (.int .i64 i))] ∧ (PX u0 (bs.take i) ps ∧ Y (pre ++ ps) Hi Ii)) (bs.length) ?_ ?_
 ·
  refine ⟨[(0, _), (1, _), (2, _), (7, _), (8, _)], [(1000, _), (1001, _), (1002, _)], ⟨rfl, rfl, rfl, rfl, rfl, trivial⟩, ⟨rfl, rfl, rfl, trivial⟩, 0, by omega, VLe.refl _, H, I, [], rfl, rfl, ?_⟩
  exact ⟨PX.nil u0, by simpa using hY⟩
 ·
  rintro m ρ σ u' ⟨i, hi2, hle2, Hi, Ii, ps, rfl, rfl, ⟨hpx, hYi⟩⟩
  refine Zc (Za (Zf (Zbh rfl rfl rfl) rfl ?_))
  refine Zd (ρ' := [(0, _), (1, _), (2, _), (7, _), (8, _), (9, _)]) ⟨rfl, rfl, rfl, rfl, rfl, rfl, trivial⟩ ?_
  refine Zb (Zc ?_)
  refine Zn rfl (fun hb2 => ?_) (fun hb2 => ?_)
  ·
   refine Zs (Zb (Zc (Zaa (Zc (Za (ym rfl rfl (ya rfl rfl (Zd (ρ' := [(0, _), (1, _), (2, _), (5, _), (7, _), (8, _)]) ⟨rfl, rfl, rfl, rfl, rfl, rfl, trivial⟩ ?_))))))))
   refine Zb (Zc ?_)
   have hlt : i < bs.length := by have := of_decide_eq_true hb2; omega
   have h1 := h1.mono hle2
   obtain ⟨k, lv, inf, t, d, ti, a, line, kids, vc, vp, vl, vk, hg, hcut1, s1, s2, s3, s4, hok⟩ := hc1.at hlt
   have hbc := hc1.get i _ hg
   rw [hcut1] at hbc
   have oneAll := hbc.one
   have hszk := szB_kids hg
   have hpl : ps.length = (listB (bs.take i)).length := by rw [← hpx.1, List.length_map]
   have hll := listB_len (bs.take i)
   have hst := szB_take hg
   have hst2 := szB_take_le bs (i + 1)
   simp only [szb] at hst
   refine wc_drawI Tryz.mixed ?_
   refine ri_y (i := 1) rfl rfl (by kernel_rfl) (by kernel_rfl) (by kernel_rfl) (Ze (Zg (Ze (Ze (Zg (Ze (Zaq))))))) (fun _ _ => rfl) (Zbj rfl rfl) rfl ?_
   refine ri_y (i := 2) rfl rfl (by kernel_rfl) (by kernel_rfl) (by kernel_rfl) (Ze (Zg (Ze (Ze (Zg (Ze (Zaq))))))) (fun _ _ => rfl) (Zbj rfl rfl) rfl ?_
   refine ri_y (i := 3) rfl rfl (by kernel_rfl) (by kernel_rfl) (by kernel_rfl) (Ze (Zg (Ze (Ze (Zg (Ze (Zaq))))))) (fun _ _ => rfl) (y_index_eX rfl Tryz.s23 rfl rfl (by assumption) (by first | rfl | omega) (by omega)) rfl ?_
   refine Zbq (is := [0, 4]) (by kernel_rfl) rfl ?_
   refine Zaj rfl rfl ?_ ?_
   ·
    refine Does.toI (by simp) ?_
    refine Zcf (Zj rfl Tryz.k90 rfl rfl rfl (vs := [_]) rfl rfl rfl) rfl ?_
    refine Zbi (i := 4) rfl rfl (by kernel_rfl) ?_
    refine Does.toI (by simp) ?_
    refine Zcf (Zag rfl Tryz.k39 rfl (by assumption) (by omega) (by assumption) (vs := [_, _, _, _, _, _, _, _, _, _, _]) rfl rfl rfl rfl) rfl ?_
    refine Zbi (i := 5) rfl rfl (by kernel_rfl) ?_
    refine do_yield (ρ' := [(0, _), (1, _), (2, _), (5, _), (7, _), (8, _)]) [1002] [] rfl rfl rfl rfl rfl ⟨rfl, rfl, rfl, rfl, rfl, rfl, trivial⟩ rfl rfl rfl (YldO.mono (hR.mono hle2 _ _ _ hYi ⟨by rw [List.length_append]; omega, fun p hp ↦ (List.mem_append.1 hp).elim (h11 p) (fun hp ↦ (hpx.2 p hp).len)⟩ u' _ _ (VLe.refl _) hbc (hRt _ (listB_in hg (by rw [listb]; exact List.mem_cons_self)))) ?_)
    rintro v uY l1 hleY ⟨rfl, H2, I2, rfl, hY2⟩ -
    refine ⟨⟨fun _ h => h, trivial⟩, ?_⟩
    have h1 := h1.mono hleY
    refine ri_y (i := 6) rfl rfl (by kernel_rfl) (by kernel_rfl) (by kernel_rfl) (Ze (Zg (Ze (Ze (Zg (Ze (Zaq))))))) (fun _ _ => rfl) (Zbs rfl rfl) rfl ?_
    refine ri_y (i := 7) rfl rfl (by kernel_rfl) (by kernel_rfl) (by kernel_rfl) (Ze (Zg (Ze (Ze (Zg (Ze (Zaq))))))) (fun _ _ => rfl) (Zbj rfl rfl) rfl ?_
    refine ri_y_on (i := 9) rfl rfl rfl rfl (by kernel_rfl) (by kernel_rfl) (by kernel_rfl) (Ze (Zg (Ze (Ze (Zg (Ze (Zaq))))))) (fun _ _ => rfl) (Zbj rfl rfl) rfl ?_
    refine ri_y_on (i := 10) rfl rfl rfl rfl (by kernel_rfl) (by kernel_rfl) (by kernel_rfl) (Ze (Zg (Ze (Ze (Zg (Ze (Zaq))))))) (fun _ _ => rfl) (Zbj rfl rfl) rfl ?_
    refine ri_y_on (i := 11) rfl rfl rfl rfl (by kernel_rfl) (by kernel_rfl) (by kernel_rfl) (Ze (Zg (Ze (Ze (Zg (Ze (Zaq))))))) (fun _ _ => rfl) (y_index_eX rfl Tryz.s23 rfl rfl (by assumption) (by first | rfl | omega) (by omega)) rfl ?_
    refine ri_y_on (i := 12) rfl rfl rfl rfl (by kernel_rfl) (by kernel_rfl) (by kernel_rfl) (Ze (Zg (Ze (Ze (Zg (Ze (Zaq))))))) (fun _ _ => rfl) (Zap rfl Tryz.f39' rfl (by decide) rfl) rfl ?_
    refine Zbq (is := [8, 13]) (by kernel_rfl) rfl ?_
    refine Zci rfl rfl rfl (by simp) ?_ ?_
    ·
     refine Does.toI (by simp) ?_
     refine Zcf (Zj rfl Tryz.k110 rfl rfl rfl (vs := [_]) rfl rfl rfl) rfl ?_
     refine ri_do_on (i := 13) rfl rfl rfl (by kernel_rfl) (by simp) ?_
     refine Does.toI (by simp) ?_
     refine Zcf (Zag rfl Tryz.k23 rfl (by assumption) (by omega) (by assumption) (vs := [_]) rfl rfl rfl rfl) rfl ?_
     refine ri_do_on (i := 14) rfl rfl rfl (by kernel_rfl) (by simp) ?_
     refine Does.toI (by simp) ?_
     refine Zaz (caps := [.pointer (some ⟨b2, 0, none⟩), .pointer (some ⟨b3, 0, none⟩)]) (ρ' := [(0, _), (1, _), (2, _), (7, _), (8, _), (18, _)]) [1000, 1001, 1002] [] trivial rfl rfl rfl Tryz.c75 rfl rfl ⟨rfl, rfl, rfl, rfl, rfl, rfl, trivial⟩ rfl rfl rfl (FnO.mono (ih (szB kids) (by omega) vk kids _ H2 I2 uY (Nat.le_refl _) (by simp only [List.length_append, List.length_cons, List.length_nil]; omega) s4 (hv0.trans (hle2.trans hleY)) (fun p hp ↦ (List.mem_append.1 hp).elim (fun hp ↦ (List.mem_append.1 hp).elim (h11 p) (fun hp ↦ (hpx.2 p hp).len)) (fun hp ↦ by rw [List.mem_singleton.1 hp]; rfl)) (fun y hy ↦ hRt y (listB_in hg (by rw [listb]; exact List.mem_cons_of_mem _ hy))) (hR.mono (hle2.trans hleY)) hY2) ?_)
     rintro v uK l1 hleK ⟨rfl, H3, I3, ps3, hpx3, rfl, hY3⟩ -
     refine ⟨⟨fun _ h => h, fun _ h => h, fun _ h => h, trivial⟩, ?_⟩
     refine ri_y_on (i := 15) rfl rfl rfl rfl (by kernel_rfl) (by kernel_rfl) (by kernel_rfl) (Ze (Zg (Ze (Ze (Zg (Ze (Zaq))))))) (fun _ _ => rfl) (Zbs rfl rfl) rfl ?_
     refine ri_y (i := 16) rfl rfl (by kernel_rfl) (by kernel_rfl) (by kernel_rfl) (Ze (Zg (Ze (Ze (Zg (Ze (Zaq))))))) (fun _ _ => rfl) (Zm rfl rfl rfl) rfl ?_
     refine Zbp (by kernel_rfl) (ρ' := [(0, _), (1, _), (2, _), (7, _), (8, _), (27, _)]) ⟨rfl, rfl, rfl, rfl, rfl, rfl, trivial⟩ ?_
     refine Zb ?_
     refine Zby rfl (rfl) ?_
     refine Zs (Zaf (Zb (Za (Zf (Zas rfl rfl rfl (Zu (by omega))) rfl ?_))))
     refine ym rfl rfl (Zd (ρ' := [(0, _), (1, _), (2, _), (7, _), (8, _)]) ⟨rfl, rfl, rfl, rfl, rfl, trivial⟩ ?_)
     refine Zae ?_
     refine ⟨m - 1, [(0, _), (1, _), (2, _), (7, _), (8, _)], [(1000, _), (1001, _), (1002, _)], by omega, ⟨rfl, rfl, rfl, rfl, rfl, trivial⟩, ⟨rfl, rfl, rfl, trivial⟩, i + 1, by omega, (hle2.trans (hleY.trans hleK)), H3, I3, ps ++ [(.mk k lv inf t d ti a line kids, blkV k lv inf t d ti a.id vc vp vl vk)] ++ ps3, rfl, (by first | rfl | simp), ?_⟩
     refine ⟨⟨?_, ?_⟩, by simpa [List.append_assoc] using hY3⟩
     ·
      rw [listB_take hg, List.map_append, List.map_append, hpx.1, hpx3.1]
      simp [listb]
     ·
      intro p hp
      rcases List.mem_append.1 hp with hp | hp
      ·
       rcases List.mem_append.1 hp with hp | hp
       ·
        exact hpx.2 p hp
       ·
        rw [List.mem_singleton.1 hp]; exact hbc
      ·
       exact hpx3.2 p hp
    refine Zci rfl rfl rfl (by simp) ?_ ?_
    ·
     refine Does.toI (by simp) ?_
     refine Zcf (Zag rfl Tryz.k23 rfl (by assumption) (by omega) (by assumption) (vs := [_]) rfl rfl rfl rfl) rfl ?_
     refine ri_do_on (i := 8) rfl rfl rfl (by kernel_rfl) (by simp) ?_
     refine Does.toI (by simp) ?_
     refine Zcf (Zj rfl Tryz.k110 rfl rfl rfl (vs := [_]) rfl rfl rfl) rfl ?_
     refine ri_do_on (i := 14) rfl rfl rfl (by kernel_rfl) (by simp) ?_
     refine Does.toI (by simp) ?_
     refine Zaz (caps := [.pointer (some ⟨b2, 0, none⟩), .pointer (some ⟨b3, 0, none⟩)]) (ρ' := [(0, _), (1, _), (2, _), (7, _), (8, _), (18, _)]) [1000, 1001, 1002] [] trivial rfl rfl rfl Tryz.c75 rfl rfl ⟨rfl, rfl, rfl, rfl, rfl, rfl, trivial⟩ rfl rfl rfl (FnO.mono (ih (szB kids) (by omega) vk kids _ H2 I2 uY (Nat.le_refl _) (by simp only [List.length_append, List.length_cons, List.length_nil]; omega) s4 (hv0.trans (hle2.trans hleY)) (fun p hp ↦ (List.mem_append.1 hp).elim (fun hp ↦ (List.mem_append.1 hp).elim (h11 p) (fun hp ↦ (hpx.2 p hp).len)) (fun hp ↦ by rw [List.mem_singleton.1 hp]; rfl)) (fun y hy ↦ hRt y (listB_in hg (by rw [listb]; exact List.mem_cons_of_mem _ hy))) (hR.mono (hle2.trans hleY)) hY2) ?_)
     rintro v uK l1 hleK ⟨rfl, H3, I3, ps3, hpx3, rfl, hY3⟩ -
     refine ⟨⟨fun _ h => h, fun _ h => h, fun _ h => h, trivial⟩, ?_⟩
     refine ri_y_on (i := 15) rfl rfl rfl rfl (by kernel_rfl) (by kernel_rfl) (by kernel_rfl) (Ze (Zg (Ze (Ze (Zg (Ze (Zaq))))))) (fun _ _ => rfl) (Zbs rfl rfl) rfl ?_
     refine ri_y (i := 16) rfl rfl (by kernel_rfl) (by kernel_rfl) (by kernel_rfl) (Ze (Zg (Ze (Ze (Zg (Ze (Zaq))))))) (fun _ _ => rfl) (Zm rfl rfl rfl) rfl ?_
     refine Zbp (by kernel_rfl) (ρ' := [(0, _), (1, _), (2, _), (7, _), (8, _), (27, _)]) ⟨rfl, rfl, rfl, rfl, rfl, rfl, trivial⟩ ?_
     refine Zb ?_
     refine Zby rfl (rfl) ?_
     refine Zs (Zaf (Zb (Za (Zf (Zas rfl rfl rfl (Zu (by omega))) rfl ?_))))
     refine ym rfl rfl (Zd (ρ' := [(0, _), (1, _), (2, _), (7, _), (8, _)]) ⟨rfl, rfl, rfl, rfl, rfl, trivial⟩ ?_)
     refine Zae ?_
     refine ⟨m - 1, [(0, _), (1, _), (2, _), (7, _), (8, _)], [(1000, _), (1001, _), (1002, _)], by omega, ⟨rfl, rfl, rfl, rfl, rfl, trivial⟩, ⟨rfl, rfl, rfl, trivial⟩, i + 1, by omega, (hle2.trans (hleY.trans hleK)), H3, I3, ps ++ [(.mk k lv inf t d ti a line kids, blkV k lv inf t d ti a.id vc vp vl vk)] ++ ps3, rfl, (by first | rfl | simp), ?_⟩
     refine ⟨⟨?_, ?_⟩, by simpa [List.append_assoc] using hY3⟩
     ·
      rw [listB_take hg, List.map_append, List.map_append, hpx.1, hpx3.1]
      simp [listb]
     ·
      intro p hp
      rcases List.mem_append.1 hp with hp | hp
      ·
       rcases List.mem_append.1 hp with hp | hp
       ·
        exact hpx.2 p hp
       ·
        rw [List.mem_singleton.1 hp]; exact hbc
      ·
       exact hpx3.2 p hp
    exact Zba
   refine Zaj rfl rfl ?_ ?_
   ·
    refine Does.toI (by simp) ?_
    refine Zcf (Zag rfl Tryz.k39 rfl (by assumption) (by omega) (by assumption) (vs := [_, _, _, _, _, _, _, _, _, _, _]) rfl rfl rfl rfl) rfl ?_
    refine Zbi (i := 0) rfl rfl (by kernel_rfl) ?_
    refine Does.toI (by simp) ?_
    refine Zcf (Zj rfl Tryz.k90 rfl rfl rfl (vs := [_]) rfl rfl rfl) rfl ?_
    refine Zbi (i := 5) rfl rfl (by kernel_rfl) ?_
    refine do_yield (ρ' := [(0, _), (1, _), (2, _), (5, _), (7, _), (8, _)]) [1002] [] rfl rfl rfl rfl rfl ⟨rfl, rfl, rfl, rfl, rfl, rfl, trivial⟩ rfl rfl rfl (YldO.mono (hR.mono hle2 _ _ _ hYi ⟨by rw [List.length_append]; omega, fun p hp ↦ (List.mem_append.1 hp).elim (h11 p) (fun hp ↦ (hpx.2 p hp).len)⟩ u' _ _ (VLe.refl _) hbc (hRt _ (listB_in hg (by rw [listb]; exact List.mem_cons_self)))) ?_)
    rintro v uY l1 hleY ⟨rfl, H2, I2, rfl, hY2⟩ -
    refine ⟨⟨fun _ h => h, trivial⟩, ?_⟩
    have h1 := h1.mono hleY
    refine ri_y (i := 6) rfl rfl (by kernel_rfl) (by kernel_rfl) (by kernel_rfl) (Ze (Zg (Ze (Ze (Zg (Ze (Zaq))))))) (fun _ _ => rfl) (Zbs rfl rfl) rfl ?_
    refine ri_y (i := 7) rfl rfl (by kernel_rfl) (by kernel_rfl) (by kernel_rfl) (Ze (Zg (Ze (Ze (Zg (Ze (Zaq))))))) (fun _ _ => rfl) (Zbj rfl rfl) rfl ?_
    refine ri_y_on (i := 9) rfl rfl rfl rfl (by kernel_rfl) (by kernel_rfl) (by kernel_rfl) (Ze (Zg (Ze (Ze (Zg (Ze (Zaq))))))) (fun _ _ => rfl) (Zbj rfl rfl) rfl ?_
    refine ri_y_on (i := 10) rfl rfl rfl rfl (by kernel_rfl) (by kernel_rfl) (by kernel_rfl) (Ze (Zg (Ze (Ze (Zg (Ze (Zaq))))))) (fun _ _ => rfl) (Zbj rfl rfl) rfl ?_
    refine ri_y_on (i := 11) rfl rfl rfl rfl (by kernel_rfl) (by kernel_rfl) (by kernel_rfl) (Ze (Zg (Ze (Ze (Zg (Ze (Zaq))))))) (fun _ _ => rfl) (y_index_eX rfl Tryz.s23 rfl rfl (by assumption) (by first | rfl | omega) (by omega)) rfl ?_
    refine ri_y_on (i := 12) rfl rfl rfl rfl (by kernel_rfl) (by kernel_rfl) (by kernel_rfl) (Ze (Zg (Ze (Ze (Zg (Ze (Zaq))))))) (fun _ _ => rfl) (Zap rfl Tryz.f39' rfl (by decide) rfl) rfl ?_
    refine Zbq (is := [8, 13]) (by kernel_rfl) rfl ?_
    refine Zci rfl rfl rfl (by simp) ?_ ?_
    ·
     refine Does.toI (by simp) ?_
     refine Zcf (Zj rfl Tryz.k110 rfl rfl rfl (vs := [_]) rfl rfl rfl) rfl ?_
     refine ri_do_on (i := 13) rfl rfl rfl (by kernel_rfl) (by simp) ?_
     refine Does.toI (by simp) ?_
     refine Zcf (Zag rfl Tryz.k23 rfl (by assumption) (by omega) (by assumption) (vs := [_]) rfl rfl rfl rfl) rfl ?_
     refine ri_do_on (i := 14) rfl rfl rfl (by kernel_rfl) (by simp) ?_
     refine Does.toI (by simp) ?_
     refine Zaz (caps := [.pointer (some ⟨b2, 0, none⟩), .pointer (some ⟨b3, 0, none⟩)]) (ρ' := [(0, _), (1, _), (2, _), (7, _), (8, _), (18, _)]) [1000, 1001, 1002] [] trivial rfl rfl rfl Tryz.c75 rfl rfl ⟨rfl, rfl, rfl, rfl, rfl, rfl, trivial⟩ rfl rfl rfl (FnO.mono (ih (szB kids) (by omega) vk kids _ H2 I2 uY (Nat.le_refl _) (by simp only [List.length_append, List.length_cons, List.length_nil]; omega) s4 (hv0.trans (hle2.trans hleY)) (fun p hp ↦ (List.mem_append.1 hp).elim (fun hp ↦ (List.mem_append.1 hp).elim (h11 p) (fun hp ↦ (hpx.2 p hp).len)) (fun hp ↦ by rw [List.mem_singleton.1 hp]; rfl)) (fun y hy ↦ hRt y (listB_in hg (by rw [listb]; exact List.mem_cons_of_mem _ hy))) (hR.mono (hle2.trans hleY)) hY2) ?_)
     rintro v uK l1 hleK ⟨rfl, H3, I3, ps3, hpx3, rfl, hY3⟩ -
     refine ⟨⟨fun _ h => h, fun _ h => h, fun _ h => h, trivial⟩, ?_⟩
     refine ri_y_on (i := 15) rfl rfl rfl rfl (by kernel_rfl) (by kernel_rfl) (by kernel_rfl) (Ze (Zg (Ze (Ze (Zg (Ze (Zaq))))))) (fun _ _ => rfl) (Zbs rfl rfl) rfl ?_
     refine ri_y (i := 16) rfl rfl (by kernel_rfl) (by kernel_rfl) (by kernel_rfl) (Ze (Zg (Ze (Ze (Zg (Ze (Zaq))))))) (fun _ _ => rfl) (Zm rfl rfl rfl) rfl ?_
     refine Zbp (by kernel_rfl) (ρ' := [(0, _), (1, _), (2, _), (7, _), (8, _), (27, _)]) ⟨rfl, rfl, rfl, rfl, rfl, rfl, trivial⟩ ?_
     refine Zb ?_
     refine Zby rfl (rfl) ?_
     refine Zs (Zaf (Zb (Za (Zf (Zas rfl rfl rfl (Zu (by omega))) rfl ?_))))
     refine ym rfl rfl (Zd (ρ' := [(0, _), (1, _), (2, _), (7, _), (8, _)]) ⟨rfl, rfl, rfl, rfl, rfl, trivial⟩ ?_)
     refine Zae ?_
     refine ⟨m - 1, [(0, _), (1, _), (2, _), (7, _), (8, _)], [(1000, _), (1001, _), (1002, _)], by omega, ⟨rfl, rfl, rfl, rfl, rfl, trivial⟩, ⟨rfl, rfl, rfl, trivial⟩, i + 1, by omega, (hle2.trans (hleY.trans hleK)), H3, I3, ps ++ [(.mk k lv inf t d ti a line kids, blkV k lv inf t d ti a.id vc vp vl vk)] ++ ps3, rfl, (by first | rfl | simp), ?_⟩
     refine ⟨⟨?_, ?_⟩, by simpa [List.append_assoc] using hY3⟩
     ·
      rw [listB_take hg, List.map_append, List.map_append, hpx.1, hpx3.1]
      simp [listb]
     ·
      intro p hp
      rcases List.mem_append.1 hp with hp | hp
      ·
       rcases List.mem_append.1 hp with hp | hp
       ·
        exact hpx.2 p hp
       ·
        rw [List.mem_singleton.1 hp]; exact hbc
      ·
       exact hpx3.2 p hp
    refine Zci rfl rfl rfl (by simp) ?_ ?_
    ·
     refine Does.toI (by simp) ?_
     refine Zcf (Zag rfl Tryz.k23 rfl (by assumption) (by omega) (by assumption) (vs := [_]) rfl rfl rfl rfl) rfl ?_
     refine ri_do_on (i := 8) rfl rfl rfl (by kernel_rfl) (by simp) ?_
     refine Does.toI (by simp) ?_
     refine Zcf (Zj rfl Tryz.k110 rfl rfl rfl (vs := [_]) rfl rfl rfl) rfl ?_
     refine ri_do_on (i := 14) rfl rfl rfl (by kernel_rfl) (by simp) ?_
     refine Does.toI (by simp) ?_
     refine Zaz (caps := [.pointer (some ⟨b2, 0, none⟩), .pointer (some ⟨b3, 0, none⟩)]) (ρ' := [(0, _), (1, _), (2, _), (7, _), (8, _), (18, _)]) [1000, 1001, 1002] [] trivial rfl rfl rfl Tryz.c75 rfl rfl ⟨rfl, rfl, rfl, rfl, rfl, rfl, trivial⟩ rfl rfl rfl (FnO.mono (ih (szB kids) (by omega) vk kids _ H2 I2 uY (Nat.le_refl _) (by simp only [List.length_append, List.length_cons, List.length_nil]; omega) s4 (hv0.trans (hle2.trans hleY)) (fun p hp ↦ (List.mem_append.1 hp).elim (fun hp ↦ (List.mem_append.1 hp).elim (h11 p) (fun hp ↦ (hpx.2 p hp).len)) (fun hp ↦ by rw [List.mem_singleton.1 hp]; rfl)) (fun y hy ↦ hRt y (listB_in hg (by rw [listb]; exact List.mem_cons_of_mem _ hy))) (hR.mono (hle2.trans hleY)) hY2) ?_)
     rintro v uK l1 hleK ⟨rfl, H3, I3, ps3, hpx3, rfl, hY3⟩ -
     refine ⟨⟨fun _ h => h, fun _ h => h, fun _ h => h, trivial⟩, ?_⟩
     refine ri_y_on (i := 15) rfl rfl rfl rfl (by kernel_rfl) (by kernel_rfl) (by kernel_rfl) (Ze (Zg (Ze (Ze (Zg (Ze (Zaq))))))) (fun _ _ => rfl) (Zbs rfl rfl) rfl ?_
     refine ri_y (i := 16) rfl rfl (by kernel_rfl) (by kernel_rfl) (by kernel_rfl) (Ze (Zg (Ze (Ze (Zg (Ze (Zaq))))))) (fun _ _ => rfl) (Zm rfl rfl rfl) rfl ?_
     refine Zbp (by kernel_rfl) (ρ' := [(0, _), (1, _), (2, _), (7, _), (8, _), (27, _)]) ⟨rfl, rfl, rfl, rfl, rfl, rfl, trivial⟩ ?_
     refine Zb ?_
     refine Zby rfl (rfl) ?_
     refine Zs (Zaf (Zb (Za (Zf (Zas rfl rfl rfl (Zu (by omega))) rfl ?_))))
     refine ym rfl rfl (Zd (ρ' := [(0, _), (1, _), (2, _), (7, _), (8, _)]) ⟨rfl, rfl, rfl, rfl, rfl, trivial⟩ ?_)
     refine Zae ?_
     refine ⟨m - 1, [(0, _), (1, _), (2, _), (7, _), (8, _)], [(1000, _), (1001, _), (1002, _)], by omega, ⟨rfl, rfl, rfl, rfl, rfl, trivial⟩, ⟨rfl, rfl, rfl, trivial⟩, i + 1, by omega, (hle2.trans (hleY.trans hleK)), H3, I3, ps ++ [(.mk k lv inf t d ti a line kids, blkV k lv inf t d ti a.id vc vp vl vk)] ++ ps3, rfl, (by first | rfl | simp), ?_⟩
     refine ⟨⟨?_, ?_⟩, by simpa [List.append_assoc] using hY3⟩
     ·
      rw [listB_take hg, List.map_append, List.map_append, hpx.1, hpx3.1]
      simp [listb]
     ·
      intro p hp
      rcases List.mem_append.1 hp with hp | hp
      ·
       rcases List.mem_append.1 hp with hp | hp
       ·
        exact hpx.2 p hp
       ·
        rw [List.mem_singleton.1 hp]; exact hbc
      ·
       exact hpx3.2 p hp
    exact Zba
   exact Zba
  ·
   refine Zat ?_
   refine Zp (Zp ?_)
   refine Zah ?_
   refine Zb (Zc (Za (ya rfl rfl (Zd (ρ' := [(4, _)]) ⟨rfl, trivial⟩ ?_))))
   refine Zb (Zv ?_)
   refine finO1 [1000, 1001, 1002] (.tmp rfl) rfl rfl ?_
   have hge := of_decide_eq_false hb2
   rw [List.take_of_length_le (by omega)] at hpx
   exact ⟨rfl, _, _, ps, hpx, rfl, hYi⟩
theorem eachItX_fn (Rt : Blk → Prop) (b1 L : Nat) (Y : FgX) (v : Value) (T : TypeId) (fr : Nat × Nat) (bs : List Blk) (H : Nat → Prop) (I : World → Prop) (u : View) (hbig : szB bs ≤ 100000) (hb1 : u b1 = some (.cells #[v] T fr)) (ha : BlkS u v bs) (hRt : ∀ x ∈ listB bs, Rt x) (hR : RoundsX Rt u L u Y) (hY : Y [] H I) :
  FnO Tryz.prog 74 [yldV L, .pointer (some ⟨b1, 0, none⟩)] u [(none, .fg H I)] fun r u' l' => ∃ H' I' ps, PX u bs ps ∧ l' = [(none, .fg H' I')] ∧ Y ps H' I' := by
 refine FnO.intro [] Tryz.func74 rfl rfl rfl ?_
 intro w0 D hw0
 refine Zc (Za (Zq rfl rfl ?_))
 refine Zbl trivial rfl (cs := [_]) rfl rfl rfl rfl ?_
 refine Zd (ρ' := [(1, _), (2, _)]) ⟨rfl, rfl, trivial⟩ ?_
 refine Zb (Zc (Za (Zq rfl rfl ?_)))
 refine Zax trivial Tryz.z110 rfl rfl rfl ?_
 refine Zd (ρ' := [(1, _), (2, _), (3, _)]) ⟨rfl, rfl, rfl, trivial⟩ ?_
 refine Zb (Zc (Za ?_))
 refine rl_name 2 rfl ⟨2, _, .inl rfl⟩ ?_
 intro b2
 refine rl_name 3 rfl ⟨3, _, .inl rfl⟩ ?_
 intro b3
 refine Zf (y_makeFunc rfl rfl rfl) rfl ?_
 refine Zq rfl rfl ?_
 refine Zt trivial rfl Tryz.k110 rfl rfl rfl (vs := [_]) rfl rfl (by first | rfl | assumption | simp [Value.oneCell', str]) (Nat.le_of_ble_eq_true rfl) rfl ?_
 refine Zd (ρ' := [(1, _), (3, _)]) ⟨rfl, rfl, trivial⟩ ?_
 refine Zb (Za (Zf (Zj rfl Tryz.k110 rfl rfl rfl (vs := [_]) rfl rfl rfl) rfl ?_))
 refine Zf (y_load_v rfl Tryz.k23 rfl (by assumption) (vs := [_]) (by first | rfl | exact hP | exact cut_at hP rfl (Nat.le_of_ble_eq_true rfl) rfl) rfl rfl) rfl ?_
 refine Zq rfl rfl ?_
 refine Zaz (caps := [.pointer (some ⟨b2, 0, none⟩), .pointer (some ⟨b3, 0, none⟩)]) (ρ' := []) [2, 3, 1000] [] trivial rfl rfl rfl Tryz.c75 rfl rfl trivial rfl rfl rfl (FnO.mono (eachRecX_fn Rt u b2 b3 L Y (szB bs) v bs [] H I u (Nat.le_refl _) (by simpa using hbig) ha (VLe.refl _) (fun p hp ↦ by cases hp) hRt hR hY) ?_)
 rintro v u1 l1 hle1 ⟨rfl, H3, I3, ps3, hpx, rfl, hY3⟩ -
 refine ⟨⟨fun _ h => h, fun _ h => h, fun _ h => h, trivial⟩, ?_⟩
 refine Zd (ρ' := []) trivial ?_
 refine finO0n [1000]  rfl rfl ?_
 exact ⟨_, _, ps3, hpx, rfl, by simpa using hY3⟩
def headsP (ps : List PairB) : List PairB := ps.filter fun p => decide (kindB p.1 = 2)
def headsRb (pre : List PairB) : OO := .rb 39 11 (headsP pre).length ((headsP pre).flatMap Prod.snd)
abbrev headsJ (b3 : Nat) (pre : List PairB) : List PO := [(some b3, headsRb pre)]
def headsK (bs : List Blk) (ρ : Env) (σ : Own) (u1 : View) : Prop :=
 ∃ b3 b1 v1 T1 fr1, ρ = [(3, .p 3 0), (7, .v (.func (.func 74) #[] #[.pointer (some ⟨b1, 0, none⟩)]))] ∧ σ = [(3, (some b3, .rb 39 11 0 []))] ∧ u1 b1 = some (.cells #[v1] T1 fr1) ∧ BlkS u1 v1 bs
def headsM (b3 : Nat) (pre : List PairB) (x : PairB) (ρ : Env) (σ : Own) (u : View) : Prop :=
 ∃ k lv inf t d ti a line kids vc vp vl vk, x = (.mk k lv inf t d ti a line kids, blkV k lv inf t d ti a.id vc vp vl vk) ∧ (blkV k lv inf t d ti a.id vc vp vl vk).all Value.oneCell' = true ∧ ρ = [(3, .p 1000 0), (4, .p 4 0)] ∧ σ = [(4, (none, .box (blkV k lv inf t d ti a.id vc vp vl vk))), (1000, (some b3, headsRb pre))]
theorem headsP_snoc (pre : List PairB) (x : PairB) : headsP (pre ++ [x]) = headsP pre ++ if kindB x.1 = 2 then [x] else [] := by
 unfold headsP
 rw [List.filter_append]
 congr 1
 by_cases h : kindB x.1 = 2 <;> simp [h]
theorem headsP_of {u0 : View} {bs : List Blk} {ps : List PairB} (h : PX u0 bs ps) : (headsP ps).map Prod.fst = headsL (listB bs) ∧ ∀ p ∈ headsP ps, BlkC u0 p.1 p.2 := by
 refine ⟨?_, fun p hp => h.2 p ((List.mem_filter.1 hp).1)⟩
 unfold headsP headsL
 rw [← h.1]
 generalize ps = L
 induction L with
 | nil => rfl
 | cons p L ih =>
  by_cases e : kindB p.1 = 2
  ·
   simp [e, ih]
  ·
   simp [e, ih]
theorem pairsC_of {u : View} : ∀ {l : List PairB}, (∀ p ∈ l, BlkC u p.1 p.2) → BlksC u (l.map Prod.fst) (l.flatMap Prod.snd)
 | [], _ => BlksC.nil
 | p :: l, h => by
  rw [List.map_cons, List.flatMap_cons]
  unfold BlksC
  exact ⟨_, _, rfl, h p (by simp), pairsC_of fun q hq => h q (by simp [hq])⟩
theorem heads_cells (pre : List PairB) (h : ∀ p ∈ pre, p.2.length = 11) : ((headsP pre).flatMap Prod.snd).length = (headsP pre).length * 11 := by
 have h2 : ∀ p ∈ headsP pre, p.2.length = 11 := fun p hp => h p (List.mem_filter.1 hp).1
 generalize headsP pre = L at h2
 induction L with
 | nil => rfl
 | cons p L ih =>
  have := ih fun q hq => h2 q (by simp [hq])
  have := h2 p (by simp)
  rw [List.flatMap_cons, List.length_append, List.length_cons]
  omega
set_option maxHeartbeats 4000000 in
theorem headings_fn (vm vb : Value) (bs : List Blk) (u : View) (hbig : szB bs ≤ 1000) (ha : BlkS u vb bs) :
  FnP Tryz.prog 19 [.agg #[vm, vb]] u fun r u' => BlkS u' r (headsL (listB bs)) := by
 have ha2 := ha
 obtain ⟨cs, ⟨ad, cap, rfl, h1⟩, hc1⟩ := ha2
 have hll := listB_len bs
 refine FnP.intro_rangeX (α := PairB) (pre := [_, _]) [.tmp 2] (fun u x v => v = .agg x.2.toArray ∧ BlkC u x.1 x.2) (headsK bs) Tryz.func19 rfl rfl rfl rfl ?_ ?_
 ·
  intro w0 D hw0
  refine Za (Zq rfl rfl ?_)
  refine Zbl trivial rfl (cs := [_, _]) rfl rfl rfl rfl ?_
  refine ya rfl rfl (Zd (ρ' := [(1, _)]) ⟨rfl, trivial⟩ ?_)
  refine ⟨rfl, ?_⟩
  refine Za (Zq rfl rfl ?_)
  refine do_alloc_rb 39 11 trivial Tryz.z23 rfl rfl rfl ?_
  refine rl_name 3 rfl ⟨3, _, .inl rfl⟩ ?_
  intro b3
  refine Zd (ρ' := [(1, _), (3, _)]) ⟨rfl, rfl, trivial⟩ ?_
  refine ⟨rfl, ?_⟩
  refine Za (Zf (Zi rfl Tryz.f25' rfl (by decide) rfl) rfl ?_)
  refine Zf (Zj rfl Tryz.k23 rfl rfl rfl (vs := [_]) rfl rfl rfl) rfl ?_
  refine Zq rfl rfl ?_
  refine Zbb (caps := []) trivial rfl rfl Tryz.c39 rfl (FnP.mono (each_fn _ bs u ha) ?_)
  rintro v uE hle0 ⟨b1, v1, T1, fr1, rfl, hb1, ha1⟩ hleE
  refine Zd (ρ' := [(3, _), (7, _)]) ⟨rfl, rfl, trivial⟩ ?_
  exact ⟨rfl, [(3, _), (7, _)], [(3, _)], ⟨rfl, rfl, trivial⟩, ⟨rfl, trivial⟩, b3, b1, v1, T1, fr1, rfl, rfl, hb1, ha1⟩
 ·
  rintro ρ σ u1 hle ⟨b3, b1, v1, T1, fr1, rfl, rfl, hb1, ha1⟩
  refine ⟨74, [.pointer (some ⟨b1, 0, none⟩)], [3], headsJ b3, PX u1 bs, fun pre => pre.length ≤ 100000 ∧ ∀ p ∈ pre, p.2.length = 11, [(3, .pointer (some ⟨b3, 0, none⟩))], [(3, .p 3 0)], headsM b3, rfl, Tryz.c74, rfl, rfl, ?_, ⟨rfl, trivial⟩, rfl, fun _ _ => ⟨fun _ h => h, trivial⟩, rfl, ?_, ?_, ?_, ?_⟩
  ·
   intro k x hk
   simp only [gv] at hk
   split at hk
   ·
    rename_i hb
    cases hk
    have := Nat.eq_of_beq_eq_true hb
    subst this
    rfl
   ·
    cases hk
  ·
   intro L Y hY H I hYI
   exact FnO.mono (eachItX_fn (fun _ => True) b1 L Y v1 T1 fr1 bs H I u1 (by omega) hb1 ha1 (fun _ _ => trivial) (fun pre H I h hl u' x cs hv hc _ => hY pre H I h hl u' (x, cs) _ hv ⟨rfl, hc.mono hv⟩) hYI) fun _ _ _ _ ⟨H', I', ps, h1, h2, h3⟩ => ⟨H', I', ps, h1, h2, h3⟩
  ·
   rintro L pre x v u' w0 D hpb hv ⟨rfl, hc⟩ hlt
   obtain ⟨⟨k, lv, inf, t, d, ti, a, line, kids⟩, cs⟩ := x
   have oneAll := hc.one
   obtain ⟨vc, vp, vl, vk, rfl, s1, s2, s3, s4, hok⟩ := hc.cells
   refine wc_pin 3 1000 _ 0 rfl rfl ?_
   refine Za (Zq rfl rfl ?_)
   refine Zax trivial Tryz.z39 rfl rfl rfl ?_
   refine Zq rfl rfl ?_
   refine Zt trivial rfl Tryz.k39 rfl rfl rfl (vs := [_, _, _, _, _, _, _, _, _, _, _]) rfl rfl (by first | rfl | assumption | simp [Value.oneCell', str]) (Nat.le_of_ble_eq_true rfl) rfl ?_
   refine Zd (ρ' := [(3, _), (4, _)]) ⟨rfl, rfl, trivial⟩ ?_
   exact ⟨rfl, [(3, _), (4, _)], [(4, _), (1000, _)], ⟨rfl, rfl, trivial⟩, ⟨rfl, rfl, trivial⟩, k, lv, inf, t, d, ti, a, line, kids, vc, vp, vl, vk, rfl, oneAll, rfl, rfl⟩
  ·
   rintro L pre x ρ σ u'' w0 D hpb ⟨k, lv, inf, t, d, ti, a, line, kids, vc, vp, vl, vk, rfl, oneAll, rfl, rfl⟩
   have hpb2 : (headsP pre).length ≤ pre.length := List.length_filter_le _ _
   have hpb3 : pre.length ≤ 100000 := hpb.1
   have hpb4 := heads_cells pre hpb.2
   have hsn := headsP_snoc pre (.mk k lv inf t d ti a line kids, blkV k lv inf t d ti a.id vc vp vl vk)
   refine Zaa (Zc (Za (Zf (Zi rfl Tryz.f39' rfl (by decide) rfl) rfl ?_)))
   refine Zf (Zj rfl Tryz.k3 rfl rfl rfl (vs := [_]) rfl rfl rfl) rfl ?_
   refine Zf (Zay rfl rfl rfl) rfl ?_
   refine Zd (ρ' := [(3, _), (4, _), (11, _)]) ⟨rfl, rfl, rfl, trivial⟩ ?_
   refine Zb ?_
   refine Zn rfl (fun hb4 => ?_) (fun hb4 => ?_)
   ·
    rw [if_pos (show kindB (.mk k lv inf t d ti a line kids) = 2 from of_decide_eq_true hb4)] at hsn
    refine wc_rbOpen 1000 1001 rfl rfl rfl ?_
    intro ad5 cap5
    refine wc_drawI Tryz.mixed ?_
    refine Zbq (is := [0, 1, 3]) (by kernel_rfl) rfl ?_
    refine Zaj rfl rfl ?_ ?_
    ·
     refine Does.toI (by simp) ?_
     refine Zcf (Zj rfl Tryz.k23 rfl rfl rfl (vs := [_]) rfl rfl rfl) rfl ?_
     refine Zbq (is := [1, 2, 3]) (by kernel_rfl) rfl ?_
     refine Zaj rfl rfl ?_ ?_
     ·
      refine Does.toI (by simp) ?_
      refine Zcf (Zj rfl Tryz.k39 rfl rfl rfl (vs := [_, _, _, _, _, _, _, _, _, _, _]) rfl rfl rfl) rfl ?_
      refine Zbq (is := [2, 3]) (by kernel_rfl) rfl ?_
      refine Zaj rfl rfl ?_ ?_
      ·
       refine Does.toI (by simp) ?_
       refine Zcf (Zal rfl rfl Tryz.s23 rfl) rfl ?_
       refine Zbi (i := 3) rfl rfl (by kernel_rfl) ?_
       refine Does.toI (by simp) ?_
       refine Zac trivial Tryz.s23 Tryz.z39 (ps := [(_, _)]) rfl (xs := [_, _, _, _, _, _, _, _, _, _, _]) rfl rfl rfl rfl rfl rfl rfl ?_
       refine Zbi (i := 4) rfl rfl (by kernel_rfl) ?_
       refine Does.toI (by simp) ?_
       refine Zbd 1001 trivial rfl rfl Tryz.s23 Tryz.z39 rfl rfl rfl rfl rfl rfl (by first | rfl | simp [Value.oneCell', str]) (by omega) (by omega) rfl rfl ?_
       intro a2 c2
       refine Zbq (is := [5, 7]) (by kernel_rfl) rfl ?_
       refine Zaj rfl rfl ?_ ?_
       ·
        refine Does.toI (by simp) ?_
        refine Zcf (Zbf 1001 rfl Tryz.s23 rfl rfl rfl (j := (headsP pre).length) rfl (by omega)) rfl ?_
        refine Zbq (is := [6, 7]) (by kernel_rfl) rfl ?_
        refine Zaj rfl rfl ?_ ?_
        ·
         refine Does.toI (by simp) ?_
         refine Zar trivial rfl Tryz.k39 rfl rfl rfl (vs := [_, _, _, _, _, _, _, _, _, _, _]) rfl rfl oneAll (by simp [hpb4]) (setAt_append (by omega) rfl) ?_
         refine Zbi (i := 7) rfl rfl (by kernel_rfl) ?_
         refine Does.toI (by simp) ?_
         refine Zt trivial rfl Tryz.k23 rfl rfl rfl (vs := [_]) rfl rfl (by first | rfl | assumption | simp [Value.oneCell', str]) (Nat.le_of_ble_eq_true rfl) rfl ?_
         refine Zaw 1000 1001 rfl rfl rfl ?_
         refine Zbp (by kernel_rfl) (ρ' := []) trivial ?_
         refine Zaf ?_
         refine ⟨rfl, [1000], ?_, rfl⟩
         first
          | (rw [show headsJ b3 (pre ++ [(.mk k lv inf t d ti a line kids, blkV k lv inf t d ti a.id vc vp vl vk)]) = [(some b3, .rb 39 11 ((headsP pre).length + 1) ((headsP pre).flatMap Prod.snd ++ blkV k lv inf t d ti a.id vc vp vl vk))] by (unfold headsJ headsRb; rw [hsn]; simp)]; rfl)
          | (rw [show headsJ b3 (pre ++ [(.mk k lv inf t d ti a line kids, blkV k lv inf t d ti a.id vc vp vl vk)]) = [(some b3, headsRb pre)] by (unfold headsJ headsRb; rw [hsn])]; rfl)
        refine Zaj rfl rfl ?_ ?_
        ·
         refine Does.toI (by simp) ?_
         refine Zt trivial rfl Tryz.k23 rfl rfl rfl (vs := [_]) rfl rfl (by first | rfl | assumption | simp [Value.oneCell', str]) (Nat.le_of_ble_eq_true rfl) rfl ?_
         refine Zbi (i := 6) rfl rfl (by kernel_rfl) ?_
         refine Does.toI (by simp) ?_
         refine Zar trivial rfl Tryz.k39 rfl rfl rfl (vs := [_, _, _, _, _, _, _, _, _, _, _]) rfl rfl oneAll (by simp [hpb4]) (setAt_append (by omega) rfl) ?_
         refine Zaw 1000 1001 rfl rfl rfl ?_
         refine Zbp (by kernel_rfl) (ρ' := []) trivial ?_
         refine Zaf ?_
         refine ⟨rfl, [1000], ?_, rfl⟩
         first
          | (rw [show headsJ b3 (pre ++ [(.mk k lv inf t d ti a line kids, blkV k lv inf t d ti a.id vc vp vl vk)]) = [(some b3, .rb 39 11 ((headsP pre).length + 1) ((headsP pre).flatMap Prod.snd ++ blkV k lv inf t d ti a.id vc vp vl vk))] by (unfold headsJ headsRb; rw [hsn]; simp)]; rfl)
          | (rw [show headsJ b3 (pre ++ [(.mk k lv inf t d ti a line kids, blkV k lv inf t d ti a.id vc vp vl vk)]) = [(some b3, headsRb pre)] by (unfold headsJ headsRb; rw [hsn])]; rfl)
        exact Zba
       refine Zaj rfl rfl ?_ ?_
       ·
        refine Does.toI (by simp) ?_
        refine Zt trivial rfl Tryz.k23 rfl rfl rfl (vs := [_]) rfl rfl (by first | rfl | assumption | simp [Value.oneCell', str]) (Nat.le_of_ble_eq_true rfl) rfl ?_
        refine Zbi (i := 5) rfl rfl (by kernel_rfl) ?_
        refine Does.toI (by simp) ?_
        refine Zcf (Zbf 1001 rfl Tryz.s23 rfl rfl rfl (j := (headsP pre).length) rfl (by omega)) rfl ?_
        refine Zbi (i := 6) rfl rfl (by kernel_rfl) ?_
        refine Does.toI (by simp) ?_
        refine Zar trivial rfl Tryz.k39 rfl rfl rfl (vs := [_, _, _, _, _, _, _, _, _, _, _]) rfl rfl oneAll (by simp [hpb4]) (setAt_append (by omega) rfl) ?_
        refine Zaw 1000 1001 rfl rfl rfl ?_
        refine Zbp (by kernel_rfl) (ρ' := []) trivial ?_
        refine Zaf ?_
        refine ⟨rfl, [1000], ?_, rfl⟩
        first
         | (rw [show headsJ b3 (pre ++ [(.mk k lv inf t d ti a line kids, blkV k lv inf t d ti a.id vc vp vl vk)]) = [(some b3, .rb 39 11 ((headsP pre).length + 1) ((headsP pre).flatMap Prod.snd ++ blkV k lv inf t d ti a.id vc vp vl vk))] by (unfold headsJ headsRb; rw [hsn]; simp)]; rfl)
         | (rw [show headsJ b3 (pre ++ [(.mk k lv inf t d ti a line kids, blkV k lv inf t d ti a.id vc vp vl vk)]) = [(some b3, headsRb pre)] by (unfold headsJ headsRb; rw [hsn])]; rfl)
       exact Zba
      refine Zaj rfl rfl ?_ ?_
      ·
       refine Does.toI (by simp) ?_
       refine Zac trivial Tryz.s23 Tryz.z39 (ps := [(_, _)]) rfl (xs := [_, _, _, _, _, _, _, _, _, _, _]) rfl rfl rfl rfl rfl rfl rfl ?_
       refine Zbi (i := 2) rfl rfl (by kernel_rfl) ?_
       refine Does.toI (by simp) ?_
       refine Zcf (Zal rfl rfl Tryz.s23 rfl) rfl ?_
       refine Zbi (i := 4) rfl rfl (by kernel_rfl) ?_
       refine Does.toI (by simp) ?_
       refine Zbd 1001 trivial rfl rfl Tryz.s23 Tryz.z39 rfl rfl rfl rfl rfl rfl (by first | rfl | simp [Value.oneCell', str]) (by omega) (by omega) rfl rfl ?_
       intro a2 c2
       refine Zbq (is := [5, 7]) (by kernel_rfl) rfl ?_
       refine Zaj rfl rfl ?_ ?_
       ·
        refine Does.toI (by simp) ?_
        refine Zcf (Zbf 1001 rfl Tryz.s23 rfl rfl rfl (j := (headsP pre).length) rfl (by omega)) rfl ?_
        refine Zbq (is := [6, 7]) (by kernel_rfl) rfl ?_
        refine Zaj rfl rfl ?_ ?_
        ·
         refine Does.toI (by simp) ?_
         refine Zar trivial rfl Tryz.k39 rfl rfl rfl (vs := [_, _, _, _, _, _, _, _, _, _, _]) rfl rfl oneAll (by simp [hpb4]) (setAt_append (by omega) rfl) ?_
         refine Zbi (i := 7) rfl rfl (by kernel_rfl) ?_
         refine Does.toI (by simp) ?_
         refine Zt trivial rfl Tryz.k23 rfl rfl rfl (vs := [_]) rfl rfl (by first | rfl | assumption | simp [Value.oneCell', str]) (Nat.le_of_ble_eq_true rfl) rfl ?_
         refine Zaw 1000 1001 rfl rfl rfl ?_
         refine Zbp (by kernel_rfl) (ρ' := []) trivial ?_
         refine Zaf ?_
         refine ⟨rfl, [1000], ?_, rfl⟩
         first
          | (rw [show headsJ b3 (pre ++ [(.mk k lv inf t d ti a line kids, blkV k lv inf t d ti a.id vc vp vl vk)]) = [(some b3, .rb 39 11 ((headsP pre).length + 1) ((headsP pre).flatMap Prod.snd ++ blkV k lv inf t d ti a.id vc vp vl vk))] by (unfold headsJ headsRb; rw [hsn]; simp)]; rfl)
          | (rw [show headsJ b3 (pre ++ [(.mk k lv inf t d ti a line kids, blkV k lv inf t d ti a.id vc vp vl vk)]) = [(some b3, headsRb pre)] by (unfold headsJ headsRb; rw [hsn])]; rfl)
        refine Zaj rfl rfl ?_ ?_
        ·
         refine Does.toI (by simp) ?_
         refine Zt trivial rfl Tryz.k23 rfl rfl rfl (vs := [_]) rfl rfl (by first | rfl | assumption | simp [Value.oneCell', str]) (Nat.le_of_ble_eq_true rfl) rfl ?_
         refine Zbi (i := 6) rfl rfl (by kernel_rfl) ?_
         refine Does.toI (by simp) ?_
         refine Zar trivial rfl Tryz.k39 rfl rfl rfl (vs := [_, _, _, _, _, _, _, _, _, _, _]) rfl rfl oneAll (by simp [hpb4]) (setAt_append (by omega) rfl) ?_
         refine Zaw 1000 1001 rfl rfl rfl ?_
         refine Zbp (by kernel_rfl) (ρ' := []) trivial ?_
         refine Zaf ?_
         refine ⟨rfl, [1000], ?_, rfl⟩
         first
          | (rw [show headsJ b3 (pre ++ [(.mk k lv inf t d ti a line kids, blkV k lv inf t d ti a.id vc vp vl vk)]) = [(some b3, .rb 39 11 ((headsP pre).length + 1) ((headsP pre).flatMap Prod.snd ++ blkV k lv inf t d ti a.id vc vp vl vk))] by (unfold headsJ headsRb; rw [hsn]; simp)]; rfl)
          | (rw [show headsJ b3 (pre ++ [(.mk k lv inf t d ti a line kids, blkV k lv inf t d ti a.id vc vp vl vk)]) = [(some b3, headsRb pre)] by (unfold headsJ headsRb; rw [hsn])]; rfl)
        exact Zba
       refine Zaj rfl rfl ?_ ?_
       ·
        refine Does.toI (by simp) ?_
        refine Zt trivial rfl Tryz.k23 rfl rfl rfl (vs := [_]) rfl rfl (by first | rfl | assumption | simp [Value.oneCell', str]) (Nat.le_of_ble_eq_true rfl) rfl ?_
        refine Zbi (i := 5) rfl rfl (by kernel_rfl) ?_
        refine Does.toI (by simp) ?_
        refine Zcf (Zbf 1001 rfl Tryz.s23 rfl rfl rfl (j := (headsP pre).length) rfl (by omega)) rfl ?_
        refine Zbi (i := 6) rfl rfl (by kernel_rfl) ?_
        refine Does.toI (by simp) ?_
        refine Zar trivial rfl Tryz.k39 rfl rfl rfl (vs := [_, _, _, _, _, _, _, _, _, _, _]) rfl rfl oneAll (by simp [hpb4]) (setAt_append (by omega) rfl) ?_
        refine Zaw 1000 1001 rfl rfl rfl ?_
        refine Zbp (by kernel_rfl) (ρ' := []) trivial ?_
        refine Zaf ?_
        refine ⟨rfl, [1000], ?_, rfl⟩
        first
         | (rw [show headsJ b3 (pre ++ [(.mk k lv inf t d ti a line kids, blkV k lv inf t d ti a.id vc vp vl vk)]) = [(some b3, .rb 39 11 ((headsP pre).length + 1) ((headsP pre).flatMap Prod.snd ++ blkV k lv inf t d ti a.id vc vp vl vk))] by (unfold headsJ headsRb; rw [hsn]; simp)]; rfl)
         | (rw [show headsJ b3 (pre ++ [(.mk k lv inf t d ti a line kids, blkV k lv inf t d ti a.id vc vp vl vk)]) = [(some b3, headsRb pre)] by (unfold headsJ headsRb; rw [hsn])]; rfl)
       exact Zba
      exact Zba
     refine Zaj rfl rfl ?_ ?_
     ·
      refine Does.toI (by simp) ?_
      refine Zcf (Zal rfl rfl Tryz.s23 rfl) rfl ?_
      refine Zbq (is := [1, 3]) (by kernel_rfl) rfl ?_
      refine Zaj rfl rfl ?_ ?_
      ·
       refine Does.toI (by simp) ?_
       refine Zcf (Zj rfl Tryz.k39 rfl rfl rfl (vs := [_, _, _, _, _, _, _, _, _, _, _]) rfl rfl rfl) rfl ?_
       refine Zbi (i := 3) rfl rfl (by kernel_rfl) ?_
       refine Does.toI (by simp) ?_
       refine Zac trivial Tryz.s23 Tryz.z39 (ps := [(_, _)]) rfl (xs := [_, _, _, _, _, _, _, _, _, _, _]) rfl rfl rfl rfl rfl rfl rfl ?_
       refine Zbi (i := 4) rfl rfl (by kernel_rfl) ?_
       refine Does.toI (by simp) ?_
       refine Zbd 1001 trivial rfl rfl Tryz.s23 Tryz.z39 rfl rfl rfl rfl rfl rfl (by first | rfl | simp [Value.oneCell', str]) (by omega) (by omega) rfl rfl ?_
       intro a2 c2
       refine Zbq (is := [5, 7]) (by kernel_rfl) rfl ?_
       refine Zaj rfl rfl ?_ ?_
       ·
        refine Does.toI (by simp) ?_
        refine Zcf (Zbf 1001 rfl Tryz.s23 rfl rfl rfl (j := (headsP pre).length) rfl (by omega)) rfl ?_
        refine Zbq (is := [6, 7]) (by kernel_rfl) rfl ?_
        refine Zaj rfl rfl ?_ ?_
        ·
         refine Does.toI (by simp) ?_
         refine Zar trivial rfl Tryz.k39 rfl rfl rfl (vs := [_, _, _, _, _, _, _, _, _, _, _]) rfl rfl oneAll (by simp [hpb4]) (setAt_append (by omega) rfl) ?_
         refine Zbi (i := 7) rfl rfl (by kernel_rfl) ?_
         refine Does.toI (by simp) ?_
         refine Zt trivial rfl Tryz.k23 rfl rfl rfl (vs := [_]) rfl rfl (by first | rfl | assumption | simp [Value.oneCell', str]) (Nat.le_of_ble_eq_true rfl) rfl ?_
         refine Zaw 1000 1001 rfl rfl rfl ?_
         refine Zbp (by kernel_rfl) (ρ' := []) trivial ?_
         refine Zaf ?_
         refine ⟨rfl, [1000], ?_, rfl⟩
         first
          | (rw [show headsJ b3 (pre ++ [(.mk k lv inf t d ti a line kids, blkV k lv inf t d ti a.id vc vp vl vk)]) = [(some b3, .rb 39 11 ((headsP pre).length + 1) ((headsP pre).flatMap Prod.snd ++ blkV k lv inf t d ti a.id vc vp vl vk))] by (unfold headsJ headsRb; rw [hsn]; simp)]; rfl)
          | (rw [show headsJ b3 (pre ++ [(.mk k lv inf t d ti a line kids, blkV k lv inf t d ti a.id vc vp vl vk)]) = [(some b3, headsRb pre)] by (unfold headsJ headsRb; rw [hsn])]; rfl)
        refine Zaj rfl rfl ?_ ?_
        ·
         refine Does.toI (by simp) ?_
         refine Zt trivial rfl Tryz.k23 rfl rfl rfl (vs := [_]) rfl rfl (by first | rfl | assumption | simp [Value.oneCell', str]) (Nat.le_of_ble_eq_true rfl) rfl ?_
         refine Zbi (i := 6) rfl rfl (by kernel_rfl) ?_
         refine Does.toI (by simp) ?_
         refine Zar trivial rfl Tryz.k39 rfl rfl rfl (vs := [_, _, _, _, _, _, _, _, _, _, _]) rfl rfl oneAll (by simp [hpb4]) (setAt_append (by omega) rfl) ?_
         refine Zaw 1000 1001 rfl rfl rfl ?_
         refine Zbp (by kernel_rfl) (ρ' := []) trivial ?_
         refine Zaf ?_
         refine ⟨rfl, [1000], ?_, rfl⟩
         first
          | (rw [show headsJ b3 (pre ++ [(.mk k lv inf t d ti a line kids, blkV k lv inf t d ti a.id vc vp vl vk)]) = [(some b3, .rb 39 11 ((headsP pre).length + 1) ((headsP pre).flatMap Prod.snd ++ blkV k lv inf t d ti a.id vc vp vl vk))] by (unfold headsJ headsRb; rw [hsn]; simp)]; rfl)
          | (rw [show headsJ b3 (pre ++ [(.mk k lv inf t d ti a line kids, blkV k lv inf t d ti a.id vc vp vl vk)]) = [(some b3, headsRb pre)] by (unfold headsJ headsRb; rw [hsn])]; rfl)
        exact Zba
       refine Zaj rfl rfl ?_ ?_
       ·
        refine Does.toI (by simp) ?_
        refine Zt trivial rfl Tryz.k23 rfl rfl rfl (vs := [_]) rfl rfl (by first | rfl | assumption | simp [Value.oneCell', str]) (Nat.le_of_ble_eq_true rfl) rfl ?_
        refine Zbi (i := 5) rfl rfl (by kernel_rfl) ?_
        refine Does.toI (by simp) ?_
        refine Zcf (Zbf 1001 rfl Tryz.s23 rfl rfl rfl (j := (headsP pre).length) rfl (by omega)) rfl ?_
        refine Zbi (i := 6) rfl rfl (by kernel_rfl) ?_
        refine Does.toI (by simp) ?_
        refine Zar trivial rfl Tryz.k39 rfl rfl rfl (vs := [_, _, _, _, _, _, _, _, _, _, _]) rfl rfl oneAll (by simp [hpb4]) (setAt_append (by omega) rfl) ?_
        refine Zaw 1000 1001 rfl rfl rfl ?_
        refine Zbp (by kernel_rfl) (ρ' := []) trivial ?_
        refine Zaf ?_
        refine ⟨rfl, [1000], ?_, rfl⟩
        first
         | (rw [show headsJ b3 (pre ++ [(.mk k lv inf t d ti a line kids, blkV k lv inf t d ti a.id vc vp vl vk)]) = [(some b3, .rb 39 11 ((headsP pre).length + 1) ((headsP pre).flatMap Prod.snd ++ blkV k lv inf t d ti a.id vc vp vl vk))] by (unfold headsJ headsRb; rw [hsn]; simp)]; rfl)
         | (rw [show headsJ b3 (pre ++ [(.mk k lv inf t d ti a line kids, blkV k lv inf t d ti a.id vc vp vl vk)]) = [(some b3, headsRb pre)] by (unfold headsJ headsRb; rw [hsn])]; rfl)
       exact Zba
      refine Zaj rfl rfl ?_ ?_
      ·
       refine Does.toI (by simp) ?_
       refine Zac trivial Tryz.s23 Tryz.z39 (ps := [(_, _)]) rfl (xs := [_, _, _, _, _, _, _, _, _, _, _]) rfl rfl rfl rfl rfl rfl rfl ?_
       refine Zbi (i := 1) rfl rfl (by kernel_rfl) ?_
       refine Does.toI (by simp) ?_
       refine Zcf (Zj rfl Tryz.k39 rfl rfl rfl (vs := [_, _, _, _, _, _, _, _, _, _, _]) rfl rfl rfl) rfl ?_
       refine Zbi (i := 4) rfl rfl (by kernel_rfl) ?_
       refine Does.toI (by simp) ?_
       refine Zbd 1001 trivial rfl rfl Tryz.s23 Tryz.z39 rfl rfl rfl rfl rfl rfl (by first | rfl | simp [Value.oneCell', str]) (by omega) (by omega) rfl rfl ?_
       intro a2 c2
       refine Zbq (is := [5, 7]) (by kernel_rfl) rfl ?_
       refine Zaj rfl rfl ?_ ?_
       ·
        refine Does.toI (by simp) ?_
        refine Zcf (Zbf 1001 rfl Tryz.s23 rfl rfl rfl (j := (headsP pre).length) rfl (by omega)) rfl ?_
        refine Zbq (is := [6, 7]) (by kernel_rfl) rfl ?_
        refine Zaj rfl rfl ?_ ?_
        ·
         refine Does.toI (by simp) ?_
         refine Zar trivial rfl Tryz.k39 rfl rfl rfl (vs := [_, _, _, _, _, _, _, _, _, _, _]) rfl rfl oneAll (by simp [hpb4]) (setAt_append (by omega) rfl) ?_
         refine Zbi (i := 7) rfl rfl (by kernel_rfl) ?_
         refine Does.toI (by simp) ?_
         refine Zt trivial rfl Tryz.k23 rfl rfl rfl (vs := [_]) rfl rfl (by first | rfl | assumption | simp [Value.oneCell', str]) (Nat.le_of_ble_eq_true rfl) rfl ?_
         refine Zaw 1000 1001 rfl rfl rfl ?_
         refine Zbp (by kernel_rfl) (ρ' := []) trivial ?_
         refine Zaf ?_
         refine ⟨rfl, [1000], ?_, rfl⟩
         first
          | (rw [show headsJ b3 (pre ++ [(.mk k lv inf t d ti a line kids, blkV k lv inf t d ti a.id vc vp vl vk)]) = [(some b3, .rb 39 11 ((headsP pre).length + 1) ((headsP pre).flatMap Prod.snd ++ blkV k lv inf t d ti a.id vc vp vl vk))] by (unfold headsJ headsRb; rw [hsn]; simp)]; rfl)
          | (rw [show headsJ b3 (pre ++ [(.mk k lv inf t d ti a line kids, blkV k lv inf t d ti a.id vc vp vl vk)]) = [(some b3, headsRb pre)] by (unfold headsJ headsRb; rw [hsn])]; rfl)
        refine Zaj rfl rfl ?_ ?_
        ·
         refine Does.toI (by simp) ?_
         refine Zt trivial rfl Tryz.k23 rfl rfl rfl (vs := [_]) rfl rfl (by first | rfl | assumption | simp [Value.oneCell', str]) (Nat.le_of_ble_eq_true rfl) rfl ?_
         refine Zbi (i := 6) rfl rfl (by kernel_rfl) ?_
         refine Does.toI (by simp) ?_
         refine Zar trivial rfl Tryz.k39 rfl rfl rfl (vs := [_, _, _, _, _, _, _, _, _, _, _]) rfl rfl oneAll (by simp [hpb4]) (setAt_append (by omega) rfl) ?_
         refine Zaw 1000 1001 rfl rfl rfl ?_
         refine Zbp (by kernel_rfl) (ρ' := []) trivial ?_
         refine Zaf ?_
         refine ⟨rfl, [1000], ?_, rfl⟩
         first
          | (rw [show headsJ b3 (pre ++ [(.mk k lv inf t d ti a line kids, blkV k lv inf t d ti a.id vc vp vl vk)]) = [(some b3, .rb 39 11 ((headsP pre).length + 1) ((headsP pre).flatMap Prod.snd ++ blkV k lv inf t d ti a.id vc vp vl vk))] by (unfold headsJ headsRb; rw [hsn]; simp)]; rfl)
          | (rw [show headsJ b3 (pre ++ [(.mk k lv inf t d ti a line kids, blkV k lv inf t d ti a.id vc vp vl vk)]) = [(some b3, headsRb pre)] by (unfold headsJ headsRb; rw [hsn])]; rfl)
        exact Zba
       refine Zaj rfl rfl ?_ ?_
       ·
        refine Does.toI (by simp) ?_
        refine Zt trivial rfl Tryz.k23 rfl rfl rfl (vs := [_]) rfl rfl (by first | rfl | assumption | simp [Value.oneCell', str]) (Nat.le_of_ble_eq_true rfl) rfl ?_
        refine Zbi (i := 5) rfl rfl (by kernel_rfl) ?_
        refine Does.toI (by simp) ?_
        refine Zcf (Zbf 1001 rfl Tryz.s23 rfl rfl rfl (j := (headsP pre).length) rfl (by omega)) rfl ?_
        refine Zbi (i := 6) rfl rfl (by kernel_rfl) ?_
        refine Does.toI (by simp) ?_
        refine Zar trivial rfl Tryz.k39 rfl rfl rfl (vs := [_, _, _, _, _, _, _, _, _, _, _]) rfl rfl oneAll (by simp [hpb4]) (setAt_append (by omega) rfl) ?_
        refine Zaw 1000 1001 rfl rfl rfl ?_
        refine Zbp (by kernel_rfl) (ρ' := []) trivial ?_
        refine Zaf ?_
        refine ⟨rfl, [1000], ?_, rfl⟩
        first
         | (rw [show headsJ b3 (pre ++ [(.mk k lv inf t d ti a line kids, blkV k lv inf t d ti a.id vc vp vl vk)]) = [(some b3, .rb 39 11 ((headsP pre).length + 1) ((headsP pre).flatMap Prod.snd ++ blkV k lv inf t d ti a.id vc vp vl vk))] by (unfold headsJ headsRb; rw [hsn]; simp)]; rfl)
         | (rw [show headsJ b3 (pre ++ [(.mk k lv inf t d ti a line kids, blkV k lv inf t d ti a.id vc vp vl vk)]) = [(some b3, headsRb pre)] by (unfold headsJ headsRb; rw [hsn])]; rfl)
       exact Zba
      exact Zba
     refine Zaj rfl rfl ?_ ?_
     ·
      refine Does.toI (by simp) ?_
      refine Zac trivial Tryz.s23 Tryz.z39 (ps := [(_, _)]) rfl (xs := [_, _, _, _, _, _, _, _, _, _, _]) rfl rfl rfl rfl rfl rfl rfl ?_
      refine Zbq (is := [1, 2]) (by kernel_rfl) rfl ?_
      refine Zaj rfl rfl ?_ ?_
      ·
       refine Does.toI (by simp) ?_
       refine Zcf (Zj rfl Tryz.k39 rfl rfl rfl (vs := [_, _, _, _, _, _, _, _, _, _, _]) rfl rfl rfl) rfl ?_
       refine Zbi (i := 2) rfl rfl (by kernel_rfl) ?_
       refine Does.toI (by simp) ?_
       refine Zcf (Zal rfl rfl Tryz.s23 rfl) rfl ?_
       refine Zbi (i := 4) rfl rfl (by kernel_rfl) ?_
       refine Does.toI (by simp) ?_
       refine Zbd 1001 trivial rfl rfl Tryz.s23 Tryz.z39 rfl rfl rfl rfl rfl rfl (by first | rfl | simp [Value.oneCell', str]) (by omega) (by omega) rfl rfl ?_
       intro a2 c2
       refine Zbq (is := [5, 7]) (by kernel_rfl) rfl ?_
       refine Zaj rfl rfl ?_ ?_
       ·
        refine Does.toI (by simp) ?_
        refine Zcf (Zbf 1001 rfl Tryz.s23 rfl rfl rfl (j := (headsP pre).length) rfl (by omega)) rfl ?_
        refine Zbq (is := [6, 7]) (by kernel_rfl) rfl ?_
        refine Zaj rfl rfl ?_ ?_
        ·
         refine Does.toI (by simp) ?_
         refine Zar trivial rfl Tryz.k39 rfl rfl rfl (vs := [_, _, _, _, _, _, _, _, _, _, _]) rfl rfl oneAll (by simp [hpb4]) (setAt_append (by omega) rfl) ?_
         refine Zbi (i := 7) rfl rfl (by kernel_rfl) ?_
         refine Does.toI (by simp) ?_
         refine Zt trivial rfl Tryz.k23 rfl rfl rfl (vs := [_]) rfl rfl (by first | rfl | assumption | simp [Value.oneCell', str]) (Nat.le_of_ble_eq_true rfl) rfl ?_
         refine Zaw 1000 1001 rfl rfl rfl ?_
         refine Zbp (by kernel_rfl) (ρ' := []) trivial ?_
         refine Zaf ?_
         refine ⟨rfl, [1000], ?_, rfl⟩
         first
          | (rw [show headsJ b3 (pre ++ [(.mk k lv inf t d ti a line kids, blkV k lv inf t d ti a.id vc vp vl vk)]) = [(some b3, .rb 39 11 ((headsP pre).length + 1) ((headsP pre).flatMap Prod.snd ++ blkV k lv inf t d ti a.id vc vp vl vk))] by (unfold headsJ headsRb; rw [hsn]; simp)]; rfl)
          | (rw [show headsJ b3 (pre ++ [(.mk k lv inf t d ti a line kids, blkV k lv inf t d ti a.id vc vp vl vk)]) = [(some b3, headsRb pre)] by (unfold headsJ headsRb; rw [hsn])]; rfl)
        refine Zaj rfl rfl ?_ ?_
        ·
         refine Does.toI (by simp) ?_
         refine Zt trivial rfl Tryz.k23 rfl rfl rfl (vs := [_]) rfl rfl (by first | rfl | assumption | simp [Value.oneCell', str]) (Nat.le_of_ble_eq_true rfl) rfl ?_
         refine Zbi (i := 6) rfl rfl (by kernel_rfl) ?_
         refine Does.toI (by simp) ?_
         refine Zar trivial rfl Tryz.k39 rfl rfl rfl (vs := [_, _, _, _, _, _, _, _, _, _, _]) rfl rfl oneAll (by simp [hpb4]) (setAt_append (by omega) rfl) ?_
         refine Zaw 1000 1001 rfl rfl rfl ?_
         refine Zbp (by kernel_rfl) (ρ' := []) trivial ?_
         refine Zaf ?_
         refine ⟨rfl, [1000], ?_, rfl⟩
         first
          | (rw [show headsJ b3 (pre ++ [(.mk k lv inf t d ti a line kids, blkV k lv inf t d ti a.id vc vp vl vk)]) = [(some b3, .rb 39 11 ((headsP pre).length + 1) ((headsP pre).flatMap Prod.snd ++ blkV k lv inf t d ti a.id vc vp vl vk))] by (unfold headsJ headsRb; rw [hsn]; simp)]; rfl)
          | (rw [show headsJ b3 (pre ++ [(.mk k lv inf t d ti a line kids, blkV k lv inf t d ti a.id vc vp vl vk)]) = [(some b3, headsRb pre)] by (unfold headsJ headsRb; rw [hsn])]; rfl)
        exact Zba
       refine Zaj rfl rfl ?_ ?_
       ·
        refine Does.toI (by simp) ?_
        refine Zt trivial rfl Tryz.k23 rfl rfl rfl (vs := [_]) rfl rfl (by first | rfl | assumption | simp [Value.oneCell', str]) (Nat.le_of_ble_eq_true rfl) rfl ?_
        refine Zbi (i := 5) rfl rfl (by kernel_rfl) ?_
        refine Does.toI (by simp) ?_
        refine Zcf (Zbf 1001 rfl Tryz.s23 rfl rfl rfl (j := (headsP pre).length) rfl (by omega)) rfl ?_
        refine Zbi (i := 6) rfl rfl (by kernel_rfl) ?_
        refine Does.toI (by simp) ?_
        refine Zar trivial rfl Tryz.k39 rfl rfl rfl (vs := [_, _, _, _, _, _, _, _, _, _, _]) rfl rfl oneAll (by simp [hpb4]) (setAt_append (by omega) rfl) ?_
        refine Zaw 1000 1001 rfl rfl rfl ?_
        refine Zbp (by kernel_rfl) (ρ' := []) trivial ?_
        refine Zaf ?_
        refine ⟨rfl, [1000], ?_, rfl⟩
        first
         | (rw [show headsJ b3 (pre ++ [(.mk k lv inf t d ti a line kids, blkV k lv inf t d ti a.id vc vp vl vk)]) = [(some b3, .rb 39 11 ((headsP pre).length + 1) ((headsP pre).flatMap Prod.snd ++ blkV k lv inf t d ti a.id vc vp vl vk))] by (unfold headsJ headsRb; rw [hsn]; simp)]; rfl)
         | (rw [show headsJ b3 (pre ++ [(.mk k lv inf t d ti a line kids, blkV k lv inf t d ti a.id vc vp vl vk)]) = [(some b3, headsRb pre)] by (unfold headsJ headsRb; rw [hsn])]; rfl)
       exact Zba
      refine Zaj rfl rfl ?_ ?_
      ·
       refine Does.toI (by simp) ?_
       refine Zcf (Zal rfl rfl Tryz.s23 rfl) rfl ?_
       refine Zbi (i := 1) rfl rfl (by kernel_rfl) ?_
       refine Does.toI (by simp) ?_
       refine Zcf (Zj rfl Tryz.k39 rfl rfl rfl (vs := [_, _, _, _, _, _, _, _, _, _, _]) rfl rfl rfl) rfl ?_
       refine Zbi (i := 4) rfl rfl (by kernel_rfl) ?_
       refine Does.toI (by simp) ?_
       refine Zbd 1001 trivial rfl rfl Tryz.s23 Tryz.z39 rfl rfl rfl rfl rfl rfl (by first | rfl | simp [Value.oneCell', str]) (by omega) (by omega) rfl rfl ?_
       intro a2 c2
       refine Zbq (is := [5, 7]) (by kernel_rfl) rfl ?_
       refine Zaj rfl rfl ?_ ?_
       ·
        refine Does.toI (by simp) ?_
        refine Zcf (Zbf 1001 rfl Tryz.s23 rfl rfl rfl (j := (headsP pre).length) rfl (by omega)) rfl ?_
        refine Zbq (is := [6, 7]) (by kernel_rfl) rfl ?_
        refine Zaj rfl rfl ?_ ?_
        ·
         refine Does.toI (by simp) ?_
         refine Zar trivial rfl Tryz.k39 rfl rfl rfl (vs := [_, _, _, _, _, _, _, _, _, _, _]) rfl rfl oneAll (by simp [hpb4]) (setAt_append (by omega) rfl) ?_
         refine Zbi (i := 7) rfl rfl (by kernel_rfl) ?_
         refine Does.toI (by simp) ?_
         refine Zt trivial rfl Tryz.k23 rfl rfl rfl (vs := [_]) rfl rfl (by first | rfl | assumption | simp [Value.oneCell', str]) (Nat.le_of_ble_eq_true rfl) rfl ?_
         refine Zaw 1000 1001 rfl rfl rfl ?_
         refine Zbp (by kernel_rfl) (ρ' := []) trivial ?_
         refine Zaf ?_
         refine ⟨rfl, [1000], ?_, rfl⟩
         first
          | (rw [show headsJ b3 (pre ++ [(.mk k lv inf t d ti a line kids, blkV k lv inf t d ti a.id vc vp vl vk)]) = [(some b3, .rb 39 11 ((headsP pre).length + 1) ((headsP pre).flatMap Prod.snd ++ blkV k lv inf t d ti a.id vc vp vl vk))] by (unfold headsJ headsRb; rw [hsn]; simp)]; rfl)
          | (rw [show headsJ b3 (pre ++ [(.mk k lv inf t d ti a line kids, blkV k lv inf t d ti a.id vc vp vl vk)]) = [(some b3, headsRb pre)] by (unfold headsJ headsRb; rw [hsn])]; rfl)
        refine Zaj rfl rfl ?_ ?_
        ·
         refine Does.toI (by simp) ?_
         refine Zt trivial rfl Tryz.k23 rfl rfl rfl (vs := [_]) rfl rfl (by first | rfl | assumption | simp [Value.oneCell', str]) (Nat.le_of_ble_eq_true rfl) rfl ?_
         refine Zbi (i := 6) rfl rfl (by kernel_rfl) ?_
         refine Does.toI (by simp) ?_
         refine Zar trivial rfl Tryz.k39 rfl rfl rfl (vs := [_, _, _, _, _, _, _, _, _, _, _]) rfl rfl oneAll (by simp [hpb4]) (setAt_append (by omega) rfl) ?_
         refine Zaw 1000 1001 rfl rfl rfl ?_
         refine Zbp (by kernel_rfl) (ρ' := []) trivial ?_
         refine Zaf ?_
         refine ⟨rfl, [1000], ?_, rfl⟩
         first
          | (rw [show headsJ b3 (pre ++ [(.mk k lv inf t d ti a line kids, blkV k lv inf t d ti a.id vc vp vl vk)]) = [(some b3, .rb 39 11 ((headsP pre).length + 1) ((headsP pre).flatMap Prod.snd ++ blkV k lv inf t d ti a.id vc vp vl vk))] by (unfold headsJ headsRb; rw [hsn]; simp)]; rfl)
          | (rw [show headsJ b3 (pre ++ [(.mk k lv inf t d ti a line kids, blkV k lv inf t d ti a.id vc vp vl vk)]) = [(some b3, headsRb pre)] by (unfold headsJ headsRb; rw [hsn])]; rfl)
        exact Zba
       refine Zaj rfl rfl ?_ ?_
       ·
        refine Does.toI (by simp) ?_
        refine Zt trivial rfl Tryz.k23 rfl rfl rfl (vs := [_]) rfl rfl (by first | rfl | assumption | simp [Value.oneCell', str]) (Nat.le_of_ble_eq_true rfl) rfl ?_
        refine Zbi (i := 5) rfl rfl (by kernel_rfl) ?_
        refine Does.toI (by simp) ?_
        refine Zcf (Zbf 1001 rfl Tryz.s23 rfl rfl rfl (j := (headsP pre).length) rfl (by omega)) rfl ?_
        refine Zbi (i := 6) rfl rfl (by kernel_rfl) ?_
        refine Does.toI (by simp) ?_
        refine Zar trivial rfl Tryz.k39 rfl rfl rfl (vs := [_, _, _, _, _, _, _, _, _, _, _]) rfl rfl oneAll (by simp [hpb4]) (setAt_append (by omega) rfl) ?_
        refine Zaw 1000 1001 rfl rfl rfl ?_
        refine Zbp (by kernel_rfl) (ρ' := []) trivial ?_
        refine Zaf ?_
        refine ⟨rfl, [1000], ?_, rfl⟩
        first
         | (rw [show headsJ b3 (pre ++ [(.mk k lv inf t d ti a line kids, blkV k lv inf t d ti a.id vc vp vl vk)]) = [(some b3, .rb 39 11 ((headsP pre).length + 1) ((headsP pre).flatMap Prod.snd ++ blkV k lv inf t d ti a.id vc vp vl vk))] by (unfold headsJ headsRb; rw [hsn]; simp)]; rfl)
         | (rw [show headsJ b3 (pre ++ [(.mk k lv inf t d ti a line kids, blkV k lv inf t d ti a.id vc vp vl vk)]) = [(some b3, headsRb pre)] by (unfold headsJ headsRb; rw [hsn])]; rfl)
       exact Zba
      exact Zba
     exact Zba
    refine Zaj rfl rfl ?_ ?_
    ·
     refine Does.toI (by simp) ?_
     refine Zcf (Zj rfl Tryz.k39 rfl rfl rfl (vs := [_, _, _, _, _, _, _, _, _, _, _]) rfl rfl rfl) rfl ?_
     refine Zbq (is := [0, 3]) (by kernel_rfl) rfl ?_
     refine Zaj rfl rfl ?_ ?_
     ·
      refine Does.toI (by simp) ?_
      refine Zcf (Zj rfl Tryz.k23 rfl rfl rfl (vs := [_]) rfl rfl rfl) rfl ?_
      refine Zbq (is := [2, 3]) (by kernel_rfl) rfl ?_
      refine Zaj rfl rfl ?_ ?_
      ·
       refine Does.toI (by simp) ?_
       refine Zcf (Zal rfl rfl Tryz.s23 rfl) rfl ?_
       refine Zbi (i := 3) rfl rfl (by kernel_rfl) ?_
       refine Does.toI (by simp) ?_
       refine Zac trivial Tryz.s23 Tryz.z39 (ps := [(_, _)]) rfl (xs := [_, _, _, _, _, _, _, _, _, _, _]) rfl rfl rfl rfl rfl rfl rfl ?_
       refine Zbi (i := 4) rfl rfl (by kernel_rfl) ?_
       refine Does.toI (by simp) ?_
       refine Zbd 1001 trivial rfl rfl Tryz.s23 Tryz.z39 rfl rfl rfl rfl rfl rfl (by first | rfl | simp [Value.oneCell', str]) (by omega) (by omega) rfl rfl ?_
       intro a2 c2
       refine Zbq (is := [5, 7]) (by kernel_rfl) rfl ?_
       refine Zaj rfl rfl ?_ ?_
       ·
        refine Does.toI (by simp) ?_
        refine Zcf (Zbf 1001 rfl Tryz.s23 rfl rfl rfl (j := (headsP pre).length) rfl (by omega)) rfl ?_
        refine Zbq (is := [6, 7]) (by kernel_rfl) rfl ?_
        refine Zaj rfl rfl ?_ ?_
        ·
         refine Does.toI (by simp) ?_
         refine Zar trivial rfl Tryz.k39 rfl rfl rfl (vs := [_, _, _, _, _, _, _, _, _, _, _]) rfl rfl oneAll (by simp [hpb4]) (setAt_append (by omega) rfl) ?_
         refine Zbi (i := 7) rfl rfl (by kernel_rfl) ?_
         refine Does.toI (by simp) ?_
         refine Zt trivial rfl Tryz.k23 rfl rfl rfl (vs := [_]) rfl rfl (by first | rfl | assumption | simp [Value.oneCell', str]) (Nat.le_of_ble_eq_true rfl) rfl ?_
         refine Zaw 1000 1001 rfl rfl rfl ?_
         refine Zbp (by kernel_rfl) (ρ' := []) trivial ?_
         refine Zaf ?_
         refine ⟨rfl, [1000], ?_, rfl⟩
         first
          | (rw [show headsJ b3 (pre ++ [(.mk k lv inf t d ti a line kids, blkV k lv inf t d ti a.id vc vp vl vk)]) = [(some b3, .rb 39 11 ((headsP pre).length + 1) ((headsP pre).flatMap Prod.snd ++ blkV k lv inf t d ti a.id vc vp vl vk))] by (unfold headsJ headsRb; rw [hsn]; simp)]; rfl)
          | (rw [show headsJ b3 (pre ++ [(.mk k lv inf t d ti a line kids, blkV k lv inf t d ti a.id vc vp vl vk)]) = [(some b3, headsRb pre)] by (unfold headsJ headsRb; rw [hsn])]; rfl)
        refine Zaj rfl rfl ?_ ?_
        ·
         refine Does.toI (by simp) ?_
         refine Zt trivial rfl Tryz.k23 rfl rfl rfl (vs := [_]) rfl rfl (by first | rfl | assumption | simp [Value.oneCell', str]) (Nat.le_of_ble_eq_true rfl) rfl ?_
         refine Zbi (i := 6) rfl rfl (by kernel_rfl) ?_
         refine Does.toI (by simp) ?_
         refine Zar trivial rfl Tryz.k39 rfl rfl rfl (vs := [_, _, _, _, _, _, _, _, _, _, _]) rfl rfl oneAll (by simp [hpb4]) (setAt_append (by omega) rfl) ?_
         refine Zaw 1000 1001 rfl rfl rfl ?_
         refine Zbp (by kernel_rfl) (ρ' := []) trivial ?_
         refine Zaf ?_
         refine ⟨rfl, [1000], ?_, rfl⟩
         first
          | (rw [show headsJ b3 (pre ++ [(.mk k lv inf t d ti a line kids, blkV k lv inf t d ti a.id vc vp vl vk)]) = [(some b3, .rb 39 11 ((headsP pre).length + 1) ((headsP pre).flatMap Prod.snd ++ blkV k lv inf t d ti a.id vc vp vl vk))] by (unfold headsJ headsRb; rw [hsn]; simp)]; rfl)
          | (rw [show headsJ b3 (pre ++ [(.mk k lv inf t d ti a line kids, blkV k lv inf t d ti a.id vc vp vl vk)]) = [(some b3, headsRb pre)] by (unfold headsJ headsRb; rw [hsn])]; rfl)
        exact Zba
       refine Zaj rfl rfl ?_ ?_
       ·
        refine Does.toI (by simp) ?_
        refine Zt trivial rfl Tryz.k23 rfl rfl rfl (vs := [_]) rfl rfl (by first | rfl | assumption | simp [Value.oneCell', str]) (Nat.le_of_ble_eq_true rfl) rfl ?_
        refine Zbi (i := 5) rfl rfl (by kernel_rfl) ?_
        refine Does.toI (by simp) ?_
        refine Zcf (Zbf 1001 rfl Tryz.s23 rfl rfl rfl (j := (headsP pre).length) rfl (by omega)) rfl ?_
        refine Zbi (i := 6) rfl rfl (by kernel_rfl) ?_
        refine Does.toI (by simp) ?_
        refine Zar trivial rfl Tryz.k39 rfl rfl rfl (vs := [_, _, _, _, _, _, _, _, _, _, _]) rfl rfl oneAll (by simp [hpb4]) (setAt_append (by omega) rfl) ?_
        refine Zaw 1000 1001 rfl rfl rfl ?_
        refine Zbp (by kernel_rfl) (ρ' := []) trivial ?_
        refine Zaf ?_
        refine ⟨rfl, [1000], ?_, rfl⟩
        first
         | (rw [show headsJ b3 (pre ++ [(.mk k lv inf t d ti a line kids, blkV k lv inf t d ti a.id vc vp vl vk)]) = [(some b3, .rb 39 11 ((headsP pre).length + 1) ((headsP pre).flatMap Prod.snd ++ blkV k lv inf t d ti a.id vc vp vl vk))] by (unfold headsJ headsRb; rw [hsn]; simp)]; rfl)
         | (rw [show headsJ b3 (pre ++ [(.mk k lv inf t d ti a line kids, blkV k lv inf t d ti a.id vc vp vl vk)]) = [(some b3, headsRb pre)] by (unfold headsJ headsRb; rw [hsn])]; rfl)
       exact Zba
      refine Zaj rfl rfl ?_ ?_
      ·
       refine Does.toI (by simp) ?_
       refine Zac trivial Tryz.s23 Tryz.z39 (ps := [(_, _)]) rfl (xs := [_, _, _, _, _, _, _, _, _, _, _]) rfl rfl rfl rfl rfl rfl rfl ?_
       refine Zbi (i := 2) rfl rfl (by kernel_rfl) ?_
       refine Does.toI (by simp) ?_
       refine Zcf (Zal rfl rfl Tryz.s23 rfl) rfl ?_
       refine Zbi (i := 4) rfl rfl (by kernel_rfl) ?_
       refine Does.toI (by simp) ?_
       refine Zbd 1001 trivial rfl rfl Tryz.s23 Tryz.z39 rfl rfl rfl rfl rfl rfl (by first | rfl | simp [Value.oneCell', str]) (by omega) (by omega) rfl rfl ?_
       intro a2 c2
       refine Zbq (is := [5, 7]) (by kernel_rfl) rfl ?_
       refine Zaj rfl rfl ?_ ?_
       ·
        refine Does.toI (by simp) ?_
        refine Zcf (Zbf 1001 rfl Tryz.s23 rfl rfl rfl (j := (headsP pre).length) rfl (by omega)) rfl ?_
        refine Zbq (is := [6, 7]) (by kernel_rfl) rfl ?_
        refine Zaj rfl rfl ?_ ?_
        ·
         refine Does.toI (by simp) ?_
         refine Zar trivial rfl Tryz.k39 rfl rfl rfl (vs := [_, _, _, _, _, _, _, _, _, _, _]) rfl rfl oneAll (by simp [hpb4]) (setAt_append (by omega) rfl) ?_
         refine Zbi (i := 7) rfl rfl (by kernel_rfl) ?_
         refine Does.toI (by simp) ?_
         refine Zt trivial rfl Tryz.k23 rfl rfl rfl (vs := [_]) rfl rfl (by first | rfl | assumption | simp [Value.oneCell', str]) (Nat.le_of_ble_eq_true rfl) rfl ?_
         refine Zaw 1000 1001 rfl rfl rfl ?_
         refine Zbp (by kernel_rfl) (ρ' := []) trivial ?_
         refine Zaf ?_
         refine ⟨rfl, [1000], ?_, rfl⟩
         first
          | (rw [show headsJ b3 (pre ++ [(.mk k lv inf t d ti a line kids, blkV k lv inf t d ti a.id vc vp vl vk)]) = [(some b3, .rb 39 11 ((headsP pre).length + 1) ((headsP pre).flatMap Prod.snd ++ blkV k lv inf t d ti a.id vc vp vl vk))] by (unfold headsJ headsRb; rw [hsn]; simp)]; rfl)
          | (rw [show headsJ b3 (pre ++ [(.mk k lv inf t d ti a line kids, blkV k lv inf t d ti a.id vc vp vl vk)]) = [(some b3, headsRb pre)] by (unfold headsJ headsRb; rw [hsn])]; rfl)
        refine Zaj rfl rfl ?_ ?_
        ·
         refine Does.toI (by simp) ?_
         refine Zt trivial rfl Tryz.k23 rfl rfl rfl (vs := [_]) rfl rfl (by first | rfl | assumption | simp [Value.oneCell', str]) (Nat.le_of_ble_eq_true rfl) rfl ?_
         refine Zbi (i := 6) rfl rfl (by kernel_rfl) ?_
         refine Does.toI (by simp) ?_
         refine Zar trivial rfl Tryz.k39 rfl rfl rfl (vs := [_, _, _, _, _, _, _, _, _, _, _]) rfl rfl oneAll (by simp [hpb4]) (setAt_append (by omega) rfl) ?_
         refine Zaw 1000 1001 rfl rfl rfl ?_
         refine Zbp (by kernel_rfl) (ρ' := []) trivial ?_
         refine Zaf ?_
         refine ⟨rfl, [1000], ?_, rfl⟩
         first
          | (rw [show headsJ b3 (pre ++ [(.mk k lv inf t d ti a line kids, blkV k lv inf t d ti a.id vc vp vl vk)]) = [(some b3, .rb 39 11 ((headsP pre).length + 1) ((headsP pre).flatMap Prod.snd ++ blkV k lv inf t d ti a.id vc vp vl vk))] by (unfold headsJ headsRb; rw [hsn]; simp)]; rfl)
          | (rw [show headsJ b3 (pre ++ [(.mk k lv inf t d ti a line kids, blkV k lv inf t d ti a.id vc vp vl vk)]) = [(some b3, headsRb pre)] by (unfold headsJ headsRb; rw [hsn])]; rfl)
        exact Zba
       refine Zaj rfl rfl ?_ ?_
       ·
        refine Does.toI (by simp) ?_
        refine Zt trivial rfl Tryz.k23 rfl rfl rfl (vs := [_]) rfl rfl (by first | rfl | assumption | simp [Value.oneCell', str]) (Nat.le_of_ble_eq_true rfl) rfl ?_
        refine Zbi (i := 5) rfl rfl (by kernel_rfl) ?_
        refine Does.toI (by simp) ?_
        refine Zcf (Zbf 1001 rfl Tryz.s23 rfl rfl rfl (j := (headsP pre).length) rfl (by omega)) rfl ?_
        refine Zbi (i := 6) rfl rfl (by kernel_rfl) ?_
        refine Does.toI (by simp) ?_
        refine Zar trivial rfl Tryz.k39 rfl rfl rfl (vs := [_, _, _, _, _, _, _, _, _, _, _]) rfl rfl oneAll (by simp [hpb4]) (setAt_append (by omega) rfl) ?_
        refine Zaw 1000 1001 rfl rfl rfl ?_
        refine Zbp (by kernel_rfl) (ρ' := []) trivial ?_
        refine Zaf ?_
        refine ⟨rfl, [1000], ?_, rfl⟩
        first
         | (rw [show headsJ b3 (pre ++ [(.mk k lv inf t d ti a line kids, blkV k lv inf t d ti a.id vc vp vl vk)]) = [(some b3, .rb 39 11 ((headsP pre).length + 1) ((headsP pre).flatMap Prod.snd ++ blkV k lv inf t d ti a.id vc vp vl vk))] by (unfold headsJ headsRb; rw [hsn]; simp)]; rfl)
         | (rw [show headsJ b3 (pre ++ [(.mk k lv inf t d ti a line kids, blkV k lv inf t d ti a.id vc vp vl vk)]) = [(some b3, headsRb pre)] by (unfold headsJ headsRb; rw [hsn])]; rfl)
       exact Zba
      exact Zba
     refine Zaj rfl rfl ?_ ?_
     ·
      refine Does.toI (by simp) ?_
      refine Zac trivial Tryz.s23 Tryz.z39 (ps := [(_, _)]) rfl (xs := [_, _, _, _, _, _, _, _, _, _, _]) rfl rfl rfl rfl rfl rfl rfl ?_
      refine Zbi (i := 0) rfl rfl (by kernel_rfl) ?_
      refine Does.toI (by simp) ?_
      refine Zcf (Zj rfl Tryz.k23 rfl rfl rfl (vs := [_]) rfl rfl rfl) rfl ?_
      refine Zbi (i := 2) rfl rfl (by kernel_rfl) ?_
      refine Does.toI (by simp) ?_
      refine Zcf (Zal rfl rfl Tryz.s23 rfl) rfl ?_
      refine Zbi (i := 4) rfl rfl (by kernel_rfl) ?_
      refine Does.toI (by simp) ?_
      refine Zbd 1001 trivial rfl rfl Tryz.s23 Tryz.z39 rfl rfl rfl rfl rfl rfl (by first | rfl | simp [Value.oneCell', str]) (by omega) (by omega) rfl rfl ?_
      intro a2 c2
      refine Zbq (is := [5, 7]) (by kernel_rfl) rfl ?_
      refine Zaj rfl rfl ?_ ?_
      ·
       refine Does.toI (by simp) ?_
       refine Zcf (Zbf 1001 rfl Tryz.s23 rfl rfl rfl (j := (headsP pre).length) rfl (by omega)) rfl ?_
       refine Zbq (is := [6, 7]) (by kernel_rfl) rfl ?_
       refine Zaj rfl rfl ?_ ?_
       ·
        refine Does.toI (by simp) ?_
        refine Zar trivial rfl Tryz.k39 rfl rfl rfl (vs := [_, _, _, _, _, _, _, _, _, _, _]) rfl rfl oneAll (by simp [hpb4]) (setAt_append (by omega) rfl) ?_
        refine Zbi (i := 7) rfl rfl (by kernel_rfl) ?_
        refine Does.toI (by simp) ?_
        refine Zt trivial rfl Tryz.k23 rfl rfl rfl (vs := [_]) rfl rfl (by first | rfl | assumption | simp [Value.oneCell', str]) (Nat.le_of_ble_eq_true rfl) rfl ?_
        refine Zaw 1000 1001 rfl rfl rfl ?_
        refine Zbp (by kernel_rfl) (ρ' := []) trivial ?_
        refine Zaf ?_
        refine ⟨rfl, [1000], ?_, rfl⟩
        first
         | (rw [show headsJ b3 (pre ++ [(.mk k lv inf t d ti a line kids, blkV k lv inf t d ti a.id vc vp vl vk)]) = [(some b3, .rb 39 11 ((headsP pre).length + 1) ((headsP pre).flatMap Prod.snd ++ blkV k lv inf t d ti a.id vc vp vl vk))] by (unfold headsJ headsRb; rw [hsn]; simp)]; rfl)
         | (rw [show headsJ b3 (pre ++ [(.mk k lv inf t d ti a line kids, blkV k lv inf t d ti a.id vc vp vl vk)]) = [(some b3, headsRb pre)] by (unfold headsJ headsRb; rw [hsn])]; rfl)
       refine Zaj rfl rfl ?_ ?_
       ·
        refine Does.toI (by simp) ?_
        refine Zt trivial rfl Tryz.k23 rfl rfl rfl (vs := [_]) rfl rfl (by first | rfl | assumption | simp [Value.oneCell', str]) (Nat.le_of_ble_eq_true rfl) rfl ?_
        refine Zbi (i := 6) rfl rfl (by kernel_rfl) ?_
        refine Does.toI (by simp) ?_
        refine Zar trivial rfl Tryz.k39 rfl rfl rfl (vs := [_, _, _, _, _, _, _, _, _, _, _]) rfl rfl oneAll (by simp [hpb4]) (setAt_append (by omega) rfl) ?_
        refine Zaw 1000 1001 rfl rfl rfl ?_
        refine Zbp (by kernel_rfl) (ρ' := []) trivial ?_
        refine Zaf ?_
        refine ⟨rfl, [1000], ?_, rfl⟩
        first
         | (rw [show headsJ b3 (pre ++ [(.mk k lv inf t d ti a line kids, blkV k lv inf t d ti a.id vc vp vl vk)]) = [(some b3, .rb 39 11 ((headsP pre).length + 1) ((headsP pre).flatMap Prod.snd ++ blkV k lv inf t d ti a.id vc vp vl vk))] by (unfold headsJ headsRb; rw [hsn]; simp)]; rfl)
         | (rw [show headsJ b3 (pre ++ [(.mk k lv inf t d ti a line kids, blkV k lv inf t d ti a.id vc vp vl vk)]) = [(some b3, headsRb pre)] by (unfold headsJ headsRb; rw [hsn])]; rfl)
       exact Zba
      refine Zaj rfl rfl ?_ ?_
      ·
       refine Does.toI (by simp) ?_
       refine Zt trivial rfl Tryz.k23 rfl rfl rfl (vs := [_]) rfl rfl (by first | rfl | assumption | simp [Value.oneCell', str]) (Nat.le_of_ble_eq_true rfl) rfl ?_
       refine Zbi (i := 5) rfl rfl (by kernel_rfl) ?_
       refine Does.toI (by simp) ?_
       refine Zcf (Zbf 1001 rfl Tryz.s23 rfl rfl rfl (j := (headsP pre).length) rfl (by omega)) rfl ?_
       refine Zbi (i := 6) rfl rfl (by kernel_rfl) ?_
       refine Does.toI (by simp) ?_
       refine Zar trivial rfl Tryz.k39 rfl rfl rfl (vs := [_, _, _, _, _, _, _, _, _, _, _]) rfl rfl oneAll (by simp [hpb4]) (setAt_append (by omega) rfl) ?_
       refine Zaw 1000 1001 rfl rfl rfl ?_
       refine Zbp (by kernel_rfl) (ρ' := []) trivial ?_
       refine Zaf ?_
       refine ⟨rfl, [1000], ?_, rfl⟩
       first
        | (rw [show headsJ b3 (pre ++ [(.mk k lv inf t d ti a line kids, blkV k lv inf t d ti a.id vc vp vl vk)]) = [(some b3, .rb 39 11 ((headsP pre).length + 1) ((headsP pre).flatMap Prod.snd ++ blkV k lv inf t d ti a.id vc vp vl vk))] by (unfold headsJ headsRb; rw [hsn]; simp)]; rfl)
        | (rw [show headsJ b3 (pre ++ [(.mk k lv inf t d ti a line kids, blkV k lv inf t d ti a.id vc vp vl vk)]) = [(some b3, headsRb pre)] by (unfold headsJ headsRb; rw [hsn])]; rfl)
      exact Zba
     exact Zba
    refine Zaj rfl rfl ?_ ?_
    ·
     refine Does.toI (by simp) ?_
     refine Zac trivial Tryz.s23 Tryz.z39 (ps := [(_, _)]) rfl (xs := [_, _, _, _, _, _, _, _, _, _, _]) rfl rfl rfl rfl rfl rfl rfl ?_
     refine Zbq (is := [0, 1]) (by kernel_rfl) rfl ?_
     refine Zaj rfl rfl ?_ ?_
     ·
      refine Does.toI (by simp) ?_
      refine Zcf (Zj rfl Tryz.k23 rfl rfl rfl (vs := [_]) rfl rfl rfl) rfl ?_
      refine Zbq (is := [1, 2]) (by kernel_rfl) rfl ?_
      refine Zaj rfl rfl ?_ ?_
      ·
       refine Does.toI (by simp) ?_
       refine Zcf (Zj rfl Tryz.k39 rfl rfl rfl (vs := [_, _, _, _, _, _, _, _, _, _, _]) rfl rfl rfl) rfl ?_
       refine Zbi (i := 2) rfl rfl (by kernel_rfl) ?_
       refine Does.toI (by simp) ?_
       refine Zcf (Zal rfl rfl Tryz.s23 rfl) rfl ?_
       refine Zbi (i := 4) rfl rfl (by kernel_rfl) ?_
       refine Does.toI (by simp) ?_
       refine Zbd 1001 trivial rfl rfl Tryz.s23 Tryz.z39 rfl rfl rfl rfl rfl rfl (by first | rfl | simp [Value.oneCell', str]) (by omega) (by omega) rfl rfl ?_
       intro a2 c2
       refine Zbq (is := [5, 7]) (by kernel_rfl) rfl ?_
       refine Zaj rfl rfl ?_ ?_
       ·
        refine Does.toI (by simp) ?_
        refine Zcf (Zbf 1001 rfl Tryz.s23 rfl rfl rfl (j := (headsP pre).length) rfl (by omega)) rfl ?_
        refine Zbq (is := [6, 7]) (by kernel_rfl) rfl ?_
        refine Zaj rfl rfl ?_ ?_
        ·
         refine Does.toI (by simp) ?_
         refine Zar trivial rfl Tryz.k39 rfl rfl rfl (vs := [_, _, _, _, _, _, _, _, _, _, _]) rfl rfl oneAll (by simp [hpb4]) (setAt_append (by omega) rfl) ?_
         refine Zbi (i := 7) rfl rfl (by kernel_rfl) ?_
         refine Does.toI (by simp) ?_
         refine Zt trivial rfl Tryz.k23 rfl rfl rfl (vs := [_]) rfl rfl (by first | rfl | assumption | simp [Value.oneCell', str]) (Nat.le_of_ble_eq_true rfl) rfl ?_
         refine Zaw 1000 1001 rfl rfl rfl ?_
         refine Zbp (by kernel_rfl) (ρ' := []) trivial ?_
         refine Zaf ?_
         refine ⟨rfl, [1000], ?_, rfl⟩
         first
          | (rw [show headsJ b3 (pre ++ [(.mk k lv inf t d ti a line kids, blkV k lv inf t d ti a.id vc vp vl vk)]) = [(some b3, .rb 39 11 ((headsP pre).length + 1) ((headsP pre).flatMap Prod.snd ++ blkV k lv inf t d ti a.id vc vp vl vk))] by (unfold headsJ headsRb; rw [hsn]; simp)]; rfl)
          | (rw [show headsJ b3 (pre ++ [(.mk k lv inf t d ti a line kids, blkV k lv inf t d ti a.id vc vp vl vk)]) = [(some b3, headsRb pre)] by (unfold headsJ headsRb; rw [hsn])]; rfl)
        refine Zaj rfl rfl ?_ ?_
        ·
         refine Does.toI (by simp) ?_
         refine Zt trivial rfl Tryz.k23 rfl rfl rfl (vs := [_]) rfl rfl (by first | rfl | assumption | simp [Value.oneCell', str]) (Nat.le_of_ble_eq_true rfl) rfl ?_
         refine Zbi (i := 6) rfl rfl (by kernel_rfl) ?_
         refine Does.toI (by simp) ?_
         refine Zar trivial rfl Tryz.k39 rfl rfl rfl (vs := [_, _, _, _, _, _, _, _, _, _, _]) rfl rfl oneAll (by simp [hpb4]) (setAt_append (by omega) rfl) ?_
         refine Zaw 1000 1001 rfl rfl rfl ?_
         refine Zbp (by kernel_rfl) (ρ' := []) trivial ?_
         refine Zaf ?_
         refine ⟨rfl, [1000], ?_, rfl⟩
         first
          | (rw [show headsJ b3 (pre ++ [(.mk k lv inf t d ti a line kids, blkV k lv inf t d ti a.id vc vp vl vk)]) = [(some b3, .rb 39 11 ((headsP pre).length + 1) ((headsP pre).flatMap Prod.snd ++ blkV k lv inf t d ti a.id vc vp vl vk))] by (unfold headsJ headsRb; rw [hsn]; simp)]; rfl)
          | (rw [show headsJ b3 (pre ++ [(.mk k lv inf t d ti a line kids, blkV k lv inf t d ti a.id vc vp vl vk)]) = [(some b3, headsRb pre)] by (unfold headsJ headsRb; rw [hsn])]; rfl)
        exact Zba
       refine Zaj rfl rfl ?_ ?_
       ·
        refine Does.toI (by simp) ?_
        refine Zt trivial rfl Tryz.k23 rfl rfl rfl (vs := [_]) rfl rfl (by first | rfl | assumption | simp [Value.oneCell', str]) (Nat.le_of_ble_eq_true rfl) rfl ?_
        refine Zbi (i := 5) rfl rfl (by kernel_rfl) ?_
        refine Does.toI (by simp) ?_
        refine Zcf (Zbf 1001 rfl Tryz.s23 rfl rfl rfl (j := (headsP pre).length) rfl (by omega)) rfl ?_
        refine Zbi (i := 6) rfl rfl (by kernel_rfl) ?_
        refine Does.toI (by simp) ?_
        refine Zar trivial rfl Tryz.k39 rfl rfl rfl (vs := [_, _, _, _, _, _, _, _, _, _, _]) rfl rfl oneAll (by simp [hpb4]) (setAt_append (by omega) rfl) ?_
        refine Zaw 1000 1001 rfl rfl rfl ?_
        refine Zbp (by kernel_rfl) (ρ' := []) trivial ?_
        refine Zaf ?_
        refine ⟨rfl, [1000], ?_, rfl⟩
        first
         | (rw [show headsJ b3 (pre ++ [(.mk k lv inf t d ti a line kids, blkV k lv inf t d ti a.id vc vp vl vk)]) = [(some b3, .rb 39 11 ((headsP pre).length + 1) ((headsP pre).flatMap Prod.snd ++ blkV k lv inf t d ti a.id vc vp vl vk))] by (unfold headsJ headsRb; rw [hsn]; simp)]; rfl)
         | (rw [show headsJ b3 (pre ++ [(.mk k lv inf t d ti a line kids, blkV k lv inf t d ti a.id vc vp vl vk)]) = [(some b3, headsRb pre)] by (unfold headsJ headsRb; rw [hsn])]; rfl)
       exact Zba
      refine Zaj rfl rfl ?_ ?_
      ·
       refine Does.toI (by simp) ?_
       refine Zcf (Zal rfl rfl Tryz.s23 rfl) rfl ?_
       refine Zbi (i := 1) rfl rfl (by kernel_rfl) ?_
       refine Does.toI (by simp) ?_
       refine Zcf (Zj rfl Tryz.k39 rfl rfl rfl (vs := [_, _, _, _, _, _, _, _, _, _, _]) rfl rfl rfl) rfl ?_
       refine Zbi (i := 4) rfl rfl (by kernel_rfl) ?_
       refine Does.toI (by simp) ?_
       refine Zbd 1001 trivial rfl rfl Tryz.s23 Tryz.z39 rfl rfl rfl rfl rfl rfl (by first | rfl | simp [Value.oneCell', str]) (by omega) (by omega) rfl rfl ?_
       intro a2 c2
       refine Zbq (is := [5, 7]) (by kernel_rfl) rfl ?_
       refine Zaj rfl rfl ?_ ?_
       ·
        refine Does.toI (by simp) ?_
        refine Zcf (Zbf 1001 rfl Tryz.s23 rfl rfl rfl (j := (headsP pre).length) rfl (by omega)) rfl ?_
        refine Zbq (is := [6, 7]) (by kernel_rfl) rfl ?_
        refine Zaj rfl rfl ?_ ?_
        ·
         refine Does.toI (by simp) ?_
         refine Zar trivial rfl Tryz.k39 rfl rfl rfl (vs := [_, _, _, _, _, _, _, _, _, _, _]) rfl rfl oneAll (by simp [hpb4]) (setAt_append (by omega) rfl) ?_
         refine Zbi (i := 7) rfl rfl (by kernel_rfl) ?_
         refine Does.toI (by simp) ?_
         refine Zt trivial rfl Tryz.k23 rfl rfl rfl (vs := [_]) rfl rfl (by first | rfl | assumption | simp [Value.oneCell', str]) (Nat.le_of_ble_eq_true rfl) rfl ?_
         refine Zaw 1000 1001 rfl rfl rfl ?_
         refine Zbp (by kernel_rfl) (ρ' := []) trivial ?_
         refine Zaf ?_
         refine ⟨rfl, [1000], ?_, rfl⟩
         first
          | (rw [show headsJ b3 (pre ++ [(.mk k lv inf t d ti a line kids, blkV k lv inf t d ti a.id vc vp vl vk)]) = [(some b3, .rb 39 11 ((headsP pre).length + 1) ((headsP pre).flatMap Prod.snd ++ blkV k lv inf t d ti a.id vc vp vl vk))] by (unfold headsJ headsRb; rw [hsn]; simp)]; rfl)
          | (rw [show headsJ b3 (pre ++ [(.mk k lv inf t d ti a line kids, blkV k lv inf t d ti a.id vc vp vl vk)]) = [(some b3, headsRb pre)] by (unfold headsJ headsRb; rw [hsn])]; rfl)
        refine Zaj rfl rfl ?_ ?_
        ·
         refine Does.toI (by simp) ?_
         refine Zt trivial rfl Tryz.k23 rfl rfl rfl (vs := [_]) rfl rfl (by first | rfl | assumption | simp [Value.oneCell', str]) (Nat.le_of_ble_eq_true rfl) rfl ?_
         refine Zbi (i := 6) rfl rfl (by kernel_rfl) ?_
         refine Does.toI (by simp) ?_
         refine Zar trivial rfl Tryz.k39 rfl rfl rfl (vs := [_, _, _, _, _, _, _, _, _, _, _]) rfl rfl oneAll (by simp [hpb4]) (setAt_append (by omega) rfl) ?_
         refine Zaw 1000 1001 rfl rfl rfl ?_
         refine Zbp (by kernel_rfl) (ρ' := []) trivial ?_
         refine Zaf ?_
         refine ⟨rfl, [1000], ?_, rfl⟩
         first
          | (rw [show headsJ b3 (pre ++ [(.mk k lv inf t d ti a line kids, blkV k lv inf t d ti a.id vc vp vl vk)]) = [(some b3, .rb 39 11 ((headsP pre).length + 1) ((headsP pre).flatMap Prod.snd ++ blkV k lv inf t d ti a.id vc vp vl vk))] by (unfold headsJ headsRb; rw [hsn]; simp)]; rfl)
          | (rw [show headsJ b3 (pre ++ [(.mk k lv inf t d ti a line kids, blkV k lv inf t d ti a.id vc vp vl vk)]) = [(some b3, headsRb pre)] by (unfold headsJ headsRb; rw [hsn])]; rfl)
        exact Zba
       refine Zaj rfl rfl ?_ ?_
       ·
        refine Does.toI (by simp) ?_
        refine Zt trivial rfl Tryz.k23 rfl rfl rfl (vs := [_]) rfl rfl (by first | rfl | assumption | simp [Value.oneCell', str]) (Nat.le_of_ble_eq_true rfl) rfl ?_
        refine Zbi (i := 5) rfl rfl (by kernel_rfl) ?_
        refine Does.toI (by simp) ?_
        refine Zcf (Zbf 1001 rfl Tryz.s23 rfl rfl rfl (j := (headsP pre).length) rfl (by omega)) rfl ?_
        refine Zbi (i := 6) rfl rfl (by kernel_rfl) ?_
        refine Does.toI (by simp) ?_
        refine Zar trivial rfl Tryz.k39 rfl rfl rfl (vs := [_, _, _, _, _, _, _, _, _, _, _]) rfl rfl oneAll (by simp [hpb4]) (setAt_append (by omega) rfl) ?_
        refine Zaw 1000 1001 rfl rfl rfl ?_
        refine Zbp (by kernel_rfl) (ρ' := []) trivial ?_
        refine Zaf ?_
        refine ⟨rfl, [1000], ?_, rfl⟩
        first
         | (rw [show headsJ b3 (pre ++ [(.mk k lv inf t d ti a line kids, blkV k lv inf t d ti a.id vc vp vl vk)]) = [(some b3, .rb 39 11 ((headsP pre).length + 1) ((headsP pre).flatMap Prod.snd ++ blkV k lv inf t d ti a.id vc vp vl vk))] by (unfold headsJ headsRb; rw [hsn]; simp)]; rfl)
         | (rw [show headsJ b3 (pre ++ [(.mk k lv inf t d ti a line kids, blkV k lv inf t d ti a.id vc vp vl vk)]) = [(some b3, headsRb pre)] by (unfold headsJ headsRb; rw [hsn])]; rfl)
       exact Zba
      exact Zba
     refine Zaj rfl rfl ?_ ?_
     ·
      refine Does.toI (by simp) ?_
      refine Zcf (Zj rfl Tryz.k39 rfl rfl rfl (vs := [_, _, _, _, _, _, _, _, _, _, _]) rfl rfl rfl) rfl ?_
      refine Zbi (i := 0) rfl rfl (by kernel_rfl) ?_
      refine Does.toI (by simp) ?_
      refine Zcf (Zj rfl Tryz.k23 rfl rfl rfl (vs := [_]) rfl rfl rfl) rfl ?_
      refine Zbi (i := 2) rfl rfl (by kernel_rfl) ?_
      refine Does.toI (by simp) ?_
      refine Zcf (Zal rfl rfl Tryz.s23 rfl) rfl ?_
      refine Zbi (i := 4) rfl rfl (by kernel_rfl) ?_
      refine Does.toI (by simp) ?_
      refine Zbd 1001 trivial rfl rfl Tryz.s23 Tryz.z39 rfl rfl rfl rfl rfl rfl (by first | rfl | simp [Value.oneCell', str]) (by omega) (by omega) rfl rfl ?_
      intro a2 c2
      refine Zbq (is := [5, 7]) (by kernel_rfl) rfl ?_
      refine Zaj rfl rfl ?_ ?_
      ·
       refine Does.toI (by simp) ?_
       refine Zcf (Zbf 1001 rfl Tryz.s23 rfl rfl rfl (j := (headsP pre).length) rfl (by omega)) rfl ?_
       refine Zbq (is := [6, 7]) (by kernel_rfl) rfl ?_
       refine Zaj rfl rfl ?_ ?_
       ·
        refine Does.toI (by simp) ?_
        refine Zar trivial rfl Tryz.k39 rfl rfl rfl (vs := [_, _, _, _, _, _, _, _, _, _, _]) rfl rfl oneAll (by simp [hpb4]) (setAt_append (by omega) rfl) ?_
        refine Zbi (i := 7) rfl rfl (by kernel_rfl) ?_
        refine Does.toI (by simp) ?_
        refine Zt trivial rfl Tryz.k23 rfl rfl rfl (vs := [_]) rfl rfl (by first | rfl | assumption | simp [Value.oneCell', str]) (Nat.le_of_ble_eq_true rfl) rfl ?_
        refine Zaw 1000 1001 rfl rfl rfl ?_
        refine Zbp (by kernel_rfl) (ρ' := []) trivial ?_
        refine Zaf ?_
        refine ⟨rfl, [1000], ?_, rfl⟩
        first
         | (rw [show headsJ b3 (pre ++ [(.mk k lv inf t d ti a line kids, blkV k lv inf t d ti a.id vc vp vl vk)]) = [(some b3, .rb 39 11 ((headsP pre).length + 1) ((headsP pre).flatMap Prod.snd ++ blkV k lv inf t d ti a.id vc vp vl vk))] by (unfold headsJ headsRb; rw [hsn]; simp)]; rfl)
         | (rw [show headsJ b3 (pre ++ [(.mk k lv inf t d ti a line kids, blkV k lv inf t d ti a.id vc vp vl vk)]) = [(some b3, headsRb pre)] by (unfold headsJ headsRb; rw [hsn])]; rfl)
       refine Zaj rfl rfl ?_ ?_
       ·
        refine Does.toI (by simp) ?_
        refine Zt trivial rfl Tryz.k23 rfl rfl rfl (vs := [_]) rfl rfl (by first | rfl | assumption | simp [Value.oneCell', str]) (Nat.le_of_ble_eq_true rfl) rfl ?_
        refine Zbi (i := 6) rfl rfl (by kernel_rfl) ?_
        refine Does.toI (by simp) ?_
        refine Zar trivial rfl Tryz.k39 rfl rfl rfl (vs := [_, _, _, _, _, _, _, _, _, _, _]) rfl rfl oneAll (by simp [hpb4]) (setAt_append (by omega) rfl) ?_
        refine Zaw 1000 1001 rfl rfl rfl ?_
        refine Zbp (by kernel_rfl) (ρ' := []) trivial ?_
        refine Zaf ?_
        refine ⟨rfl, [1000], ?_, rfl⟩
        first
         | (rw [show headsJ b3 (pre ++ [(.mk k lv inf t d ti a line kids, blkV k lv inf t d ti a.id vc vp vl vk)]) = [(some b3, .rb 39 11 ((headsP pre).length + 1) ((headsP pre).flatMap Prod.snd ++ blkV k lv inf t d ti a.id vc vp vl vk))] by (unfold headsJ headsRb; rw [hsn]; simp)]; rfl)
         | (rw [show headsJ b3 (pre ++ [(.mk k lv inf t d ti a line kids, blkV k lv inf t d ti a.id vc vp vl vk)]) = [(some b3, headsRb pre)] by (unfold headsJ headsRb; rw [hsn])]; rfl)
       exact Zba
      refine Zaj rfl rfl ?_ ?_
      ·
       refine Does.toI (by simp) ?_
       refine Zt trivial rfl Tryz.k23 rfl rfl rfl (vs := [_]) rfl rfl (by first | rfl | assumption | simp [Value.oneCell', str]) (Nat.le_of_ble_eq_true rfl) rfl ?_
       refine Zbi (i := 5) rfl rfl (by kernel_rfl) ?_
       refine Does.toI (by simp) ?_
       refine Zcf (Zbf 1001 rfl Tryz.s23 rfl rfl rfl (j := (headsP pre).length) rfl (by omega)) rfl ?_
       refine Zbi (i := 6) rfl rfl (by kernel_rfl) ?_
       refine Does.toI (by simp) ?_
       refine Zar trivial rfl Tryz.k39 rfl rfl rfl (vs := [_, _, _, _, _, _, _, _, _, _, _]) rfl rfl oneAll (by simp [hpb4]) (setAt_append (by omega) rfl) ?_
       refine Zaw 1000 1001 rfl rfl rfl ?_
       refine Zbp (by kernel_rfl) (ρ' := []) trivial ?_
       refine Zaf ?_
       refine ⟨rfl, [1000], ?_, rfl⟩
       first
        | (rw [show headsJ b3 (pre ++ [(.mk k lv inf t d ti a line kids, blkV k lv inf t d ti a.id vc vp vl vk)]) = [(some b3, .rb 39 11 ((headsP pre).length + 1) ((headsP pre).flatMap Prod.snd ++ blkV k lv inf t d ti a.id vc vp vl vk))] by (unfold headsJ headsRb; rw [hsn]; simp)]; rfl)
        | (rw [show headsJ b3 (pre ++ [(.mk k lv inf t d ti a line kids, blkV k lv inf t d ti a.id vc vp vl vk)]) = [(some b3, headsRb pre)] by (unfold headsJ headsRb; rw [hsn])]; rfl)
      exact Zba
     exact Zba
    exact Zba
   ·
    rw [if_neg (show ¬ kindB (.mk k lv inf t d ti a line kids) = 2 from of_decide_eq_false hb4), List.append_nil] at hsn
    refine Zs (Zaf ?_)
    refine ⟨rfl, [1000], ?_, rfl⟩
    first
     | (rw [show headsJ b3 (pre ++ [(.mk k lv inf t d ti a line kids, blkV k lv inf t d ti a.id vc vp vl vk)]) = [(some b3, .rb 39 11 ((headsP pre).length + 1) ((headsP pre).flatMap Prod.snd ++ blkV k lv inf t d ti a.id vc vp vl vk))] by (unfold headsJ headsRb; rw [hsn]; simp)]; rfl)
     | (rw [show headsJ b3 (pre ++ [(.mk k lv inf t d ti a line kids, blkV k lv inf t d ti a.id vc vp vl vk)]) = [(some b3, headsRb pre)] by (unfold headsJ headsRb; rw [hsn])]; rfl)
  ·
   intro xs hpx w0 D df dH dI u2 hle2
   show WC _ _ [(3, .p 3 0)] [(3, (some b3, headsRb xs)), (900, (none, .fg dH dI))] _ _
   refine Zc (Za (Zf (y_load_rb rfl Tryz.k23 rfl rfl rfl) rfl ?_))
   refine rl_freeze_rb 3 rfl ?_
   intro ad3 cap3 u3 hle3z hsl3
   refine ya rfl rfl (Zd (ρ' := [(2, _)]) ⟨rfl, trivial⟩ ?_)
   refine Zb (Zv ?_)
   refine ⟨?_, rfl⟩
   refine Zav (.tmp rfl) ?_
   obtain ⟨q1, q2⟩ := headsP_of hpx
   have hc := pairsC_of q2
   rw [q1] at hc
   have hn : (headsP xs).length = (headsL (listB bs)).length := by rw [← q1, List.length_map]
   rw [hn] at hsl3 ⊢
   exact ⟨_, ⟨_, _, rfl, hsl3⟩, hc.mono (hle2.trans hle3z)⟩
theorem headsL_len (bs : List Blk) : (headsL (listB bs)).length ≤ szB bs :=
 Nat.le_trans (List.length_filter_le _ _) (listB_len bs)
theorem headsL_ok {bs : List Blk} (hs : smB bs) {x : Blk} (hx : x ∈ headsL (listB bs)) : smB1 x ∧ szb x ≤ szB bs :=
 aB_mem _ bs (Nat.le_refl _) hs x (List.mem_filter.1 hx).1
def lastL : Int → List Blk → Int
 | bf, [] => bf
 | _, h :: hs => lastL (levB h) hs
theorem lastL_snoc : ∀ (bf : Int) (l : List Blk) (x : Blk), lastL bf (l ++ [x]) = levB x
 | bf, [], x => rfl
 | bf, h :: hs, x => by rw [List.cons_append, lastL]; exact lastL_snoc _ hs x
theorem skipsL_snoc : ∀ (bf : Int) (l : List Blk) (x : Blk), skipsL bf (l ++ [x]) = skipsL bf l ++ if lastL bf l < levB x ∧ lastL bf l < levB x - 1 then [trim (plain (lineOf x))] else []
 | bf, [], x => by
  show (if bf < levB x ∧ bf < levB x - 1 then [trim (plain (lineOf x))] else []) ++ [] = [] ++ (if bf < levB x ∧ bf < levB x - 1 then [trim (plain (lineOf x))] else [])
  rw [List.append_nil, List.nil_append]
 | bf, h :: hs, x => by
  rw [List.cons_append, skipsL, skipsL_snoc _ hs x, skipsL, lastL, List.append_assoc]
theorem skipsL_len : ∀ (bf : Int) (l : List Blk), (skipsL bf l).length ≤ l.length
 | bf, [] => by simp [skipsL]
 | bf, h :: hs => by
  have := skipsL_len (levB h) hs
  rw [skipsL, List.length_append, List.length_cons]
  split <;> simp <;> omega
set_option maxHeartbeats 1000000 in
theorem skips_fn (vm vb : Value) (bs : List Blk) (u : View) (hbig : szB bs ≤ 1000) (hsm : smB bs) (ha : BlkS u vb bs) :
  FnP Tryz.prog 50 [.agg #[vm, vb]] u fun r u' => StrS u' r (skipsL 0 (headsL (listB bs))) := by
 have hhl := headsL_len bs
 refine FnP.intro [.tmp 2] Tryz.func50 rfl rfl rfl ?_
 intro w0 D hw0
 refine Zc (Za (Zq rfl rfl ?_))
 refine Zbl trivial rfl (cs := [_, _]) rfl rfl rfl rfl ?_
 refine ya rfl rfl (Zd (ρ' := [(1, _)]) ⟨rfl, trivial⟩ ?_)
 refine Zb (Zc (Za (ya rfl rfl ?_)))
 refine Zbz 3 503 9 1 rfl rfl rfl ?_
 refine Zd (ρ' := [(1, _), (3, _)]) ⟨rfl, rfl, trivial⟩ ?_
 refine Zb (Zc (Za (ya rfl rfl (Zd (ρ' := [(1, _), (3, _), (4, _)]) ⟨rfl, rfl, rfl, trivial⟩ ?_))))
 refine Zb (Zc (Zc (Za (Zf (Zj rfl Tryz.k25 rfl rfl rfl (vs := [_, _]) rfl rfl rfl) rfl ?_))))
 refine Zq rfl rfl ?_
 refine Zbb (caps := []) trivial rfl rfl Tryz.c19 rfl (FnP.mono (headings_fn vm vb bs u hbig ha) ?_)
 rintro v uH hle0 ⟨hcs, ⟨had, hcap, rfl, hh1⟩, hh2⟩ hleH
 refine Zf (Zal rfl rfl Tryz.s23 rfl) rfl ?_
 refine ym rfl rfl (Zd (ρ' := [(3, _), (4, _), (8, _), (9, _), (10, _)]) ⟨rfl, rfl, rfl, rfl, rfl, trivial⟩ ?_)
 refine Zb (Zaa ?_)
 refine Zau (fun m ρ σ u' => ∃ i : Nat, i + m = (headsL (listB bs)).length ∧ VLe uH u' ∧ σ = [(503, (none, .row 9 1 (skipsL 0 ((headsL (listB bs)).take i)).length (strsC (skipsL 0 ((headsL (listB bs)).take i)))))] ∧ ρ = [(3, .s 503), (4, .v (.int .i64 (lastL 0 ((headsL (listB bs)).take i)))), (8, .v (.slice had (headsL (listB bs)).length hcap)), (9, .v (.int .i64 (headsL (listB bs)).length)), (10, .v (.int .i64 i))] ∧ (uH = u' ∧ IntOk (lastL 0 ((headsL (listB bs)).take i)))) ((headsL (listB bs)).length) ?_ ?_
 ·
  refine ⟨[(3, _), (4, _), (8, _), (9, _), (10, _)], [(503, _)], ⟨rfl, rfl, rfl, rfl, rfl, trivial⟩, ⟨rfl, trivial⟩, 0, by omega, VLe.refl _, rfl, rfl, ?_⟩
  exact ⟨rfl, intOk_of (by simp [lastL])⟩
 ·
  rintro m ρ σ u' ⟨i, hi4, hle4, rfl, rfl, ⟨rfl, hbf⟩⟩
  refine Zc (Za (Zf (Zbh rfl rfl rfl) rfl ?_))
  refine Zd (ρ' := [(3, _), (4, _), (8, _), (9, _), (10, _), (11, _)]) ⟨rfl, rfl, rfl, rfl, rfl, rfl, trivial⟩ ?_
  refine Zb (Zc ?_)
  refine Zn rfl (fun hb4 => ?_) (fun hb4 => ?_)
  ·
   have hlt : i < (headsL (listB bs)).length := by have := of_decide_eq_true hb4; omega
   obtain ⟨k, lv, inf, t, d, ti, a, line, kids, vc, vp, vl, vk, hg, hcut1, s1, s2, s3, s4, hok⟩ := hh2.at hlt
   have oneAll := (hh2.get i _ hg).one
   rw [hcut1] at oneAll
   obtain ⟨q1, q2⟩ := headsL_ok hsm (List.mem_of_getElem? hg)
   unfold smB1 at q1
   simp only [szb] at q2
   have hlv : IntOk lv := hok.2.1
   have hlv0 := hlv
   have htk : (headsL (listB bs)).take (i + 1) = (headsL (listB bs)).take i ++ [.mk k lv inf t d ti a line kids] := by
    obtain ⟨h0, he⟩ := List.getElem?_eq_some_iff.1 hg
    rw [List.take_succ_eq_append_getElem h0, he]
   have hsn := skipsL_snoc 0 ((headsL (listB bs)).take i) (.mk k lv inf t d ti a line kids)
   have hln := lastL_snoc 0 ((headsL (listB bs)).take i) (.mk k lv inf t d ti a line kids)
   rw [← htk] at hsn hln
   have hln : lastL 0 ((headsL (listB bs)).take (i + 1)) = lv := hln
   have hsl := skipsL_len 0 ((headsL (listB bs)).take i)
   have htl : ((headsL (listB bs)).take i).length ≤ i := by simp; omega
   unfold IntOk at hlv
   generalize hbfe : lastL 0 ((headsL (listB bs)).take i) = bf at *
   refine Zs (Zb (Zc (Zaa (Zc (Za (Zf (Zai rfl Tryz.s23 rfl rfl (by assumption) (by first | rfl | omega) (by omega)) rfl ?_))))))
   refine Zf (Zag rfl Tryz.k39 rfl (by assumption) (by omega) (by assumption) (vs := [_, _, _, _, _, _, _, _, _, _, _]) rfl rfl rfl rfl) rfl ?_
   refine Zq rfl rfl ?_
   refine Zax trivial Tryz.z39 rfl rfl rfl ?_
   refine Zq rfl rfl ?_
   refine Zt trivial rfl Tryz.k39 rfl rfl rfl (vs := [_, _, _, _, _, _, _, _, _, _, _]) rfl rfl (by first | rfl | assumption | simp [Value.oneCell', str]) (Nat.le_of_ble_eq_true rfl) rfl ?_
   refine Zd (ρ' := [(3, _), (4, _), (6, _), (8, _), (9, _), (10, _)]) ⟨rfl, rfl, rfl, rfl, rfl, rfl, trivial⟩ ?_
   refine Zb (Zc (Zc ?_))
   refine Zca 24 (decide (bf < lv ∧ bf < lv - 1)) (ρk := [(3, _), (6, _), (8, _), (9, _), (10, _)]) ⟨rfl, rfl, rfl, rfl, rfl, trivial⟩ ?_ ?_
   ·
    refine Za (Zf (Zi rfl Tryz.f39' rfl (by decide) rfl) rfl ?_)
    refine Zf (Zj rfl Tryz.k3 rfl rfl rfl (vs := [_]) rfl rfl rfl) rfl ?_
    refine ym rfl rfl (Zf (Zcd rfl rfl rfl) rfl ?_)
    refine ym rfl rfl ?_
    rcases Bool.eq_false_or_eq_true (decide (bf < lv)) with hg6_4 | hg6_4
    ·
     simp only [hg6_4]
     refine Zk rfl rfl (Zf (Zi rfl Tryz.f39' rfl (by decide) rfl) rfl ?_)
     refine Zk rfl rfl (Zf (Zj rfl Tryz.k3 rfl rfl rfl (vs := [_]) rfl rfl rfl) rfl ?_)
     refine Zk rfl rfl (Zf (y_sub rfl rfl rfl (Zu (by have := of_decide_eq_true hg6_4; have := hbf.1; omega))) rfl ?_)
     refine Zk rfl rfl (ym rfl rfl (Zk rfl rfl (Zf (Zcd rfl rfl rfl) rfl ?_)))
     refine Zf (Zl rfl rfl rfl) rfl ?_
     exact Zak rfl ⟨rfl, rfl, rfl, rfl, rfl, trivial⟩ (by (first | refine (decide_eq_true ?_).symm | refine (decide_eq_false ?_).symm | refine decide_eq_decide.2 ?_ | refine decide_eq_true ?_ | refine decide_eq_false ?_) <;> (try unfold id) <;> (try simp only [decide_eq_true_eq, decide_eq_false_iff_not] at *) <;> omega)
    ·
     simp only [hg6_4]
     iterate 5 refine Zo rfl rfl rfl rfl ?_
     refine Zf (Zm rfl rfl rfl) rfl ?_
     exact Zak rfl ⟨rfl, rfl, rfl, rfl, rfl, trivial⟩ (by (first | refine (decide_eq_true ?_).symm | refine (decide_eq_false ?_).symm | refine decide_eq_decide.2 ?_ | refine decide_eq_true ?_ | refine decide_eq_false ?_) <;> (try unfold id) <;> (try simp only [decide_eq_true_eq, decide_eq_false_iff_not] at *) <;> omega)
   refine Zb ?_
   refine Zn rfl (fun hb6 => ?_) (fun hb6 => ?_)
   ·
    have hsn : skipsL 0 ((headsL (listB bs)).take (i + 1)) = skipsL 0 ((headsL (listB bs)).take i) ++ [trim (plain line)] := hsn.trans (congrArg _ (if_pos (show bf < lv ∧ bf < lv - 1 from of_decide_eq_true hb6)))
    refine Za (ym rfl rfl (Zf (Zi rfl Tryz.f39' rfl (by decide) rfl) rfl ?_))
    refine Zf (Zj rfl Tryz.k37 rfl rfl rfl (vs := [_]) rfl rfl rfl) rfl ?_
    refine Zq rfl rfl ?_
    refine Zw (caps := []) trivial rfl rfl Tryz.c20 rfl (FnP.mono (trimmed_fn vl line (by omega) (aI_tx _ q1.2.2.2.2.1) uH s3) ?_)
    rintro v u1 hle1 rfl
    refine Zq rfl rfl ?_
    refine Zac trivial Tryz.s34 Tryz.z9 (ps := [(_, _)]) rfl (xs := [_]) rfl rfl rfl rfl rfl rfl rfl ?_
    refine Zq rfl rfl ?_
    refine Zbr trivial rfl rfl Tryz.s34 Tryz.z9 rfl rfl rfl rfl rfl rfl (by first | rfl | assumption | simp [Value.oneCell', str]) (by omega) (by omega) (ρ' := [(6, _), (8, _), (9, _), (10, _)]) ⟨rfl, rfl, rfl, rfl, trivial⟩ rfl rfl rfl ?_
    refine ya rfl rfl ?_
    refine Zch 30 503 rfl rfl rfl ?_
    refine Zd (ρ' := [(3, _), (6, _), (8, _), (9, _), (10, _)]) ⟨rfl, rfl, rfl, rfl, rfl, trivial⟩ ?_
    refine Zb (Za (Zf (Zi rfl Tryz.f39' rfl (by decide) rfl) rfl ?_))
    refine Zf (Zj rfl Tryz.k3 rfl rfl rfl (vs := [_]) rfl rfl rfl) rfl ?_
    refine ya rfl rfl (Zd (ρ' := [(3, _), (4, _), (8, _), (9, _), (10, _)]) ⟨rfl, rfl, rfl, rfl, rfl, trivial⟩ ?_)
    refine Zaf (Zb (Za (Zf (Zas rfl rfl rfl (Zu (by omega))) rfl ?_)))
    refine ym rfl rfl (Zd (ρ' := [(3, _), (4, _), (8, _), (9, _), (10, _)]) ⟨rfl, rfl, rfl, rfl, rfl, trivial⟩ ?_)
    refine Zae ?_
    refine ⟨m - 1, [(3, _), (4, _), (8, _), (9, _), (10, _)], [(503, _)], by omega, ⟨rfl, rfl, rfl, rfl, rfl, trivial⟩, ⟨rfl, trivial⟩, i + 1, by omega, hle4, (by first | (rw [hsn, List.length_append]; simp [strsC]; done) | (rw [hsn])), (by first | (rw [hln]; done) | (rw [hln]; rfl) | (simp only [hln]; done) | (simp [hln]; done)), ?_⟩
    exact ⟨rfl, by rw [hln]; exact hlv0⟩
   ·
    have hsn : skipsL 0 ((headsL (listB bs)).take (i + 1)) = skipsL 0 ((headsL (listB bs)).take i) := (hsn.trans (congrArg _ (if_neg (show ¬ (bf < lv ∧ bf < lv - 1) from of_decide_eq_false hb6)))).trans (List.append_nil _)
    refine Zs (Zb (Za (Zf (Zi rfl Tryz.f39' rfl (by decide) rfl) rfl ?_)))
    refine Zf (Zj rfl Tryz.k3 rfl rfl rfl (vs := [_]) rfl rfl rfl) rfl ?_
    refine ya rfl rfl (Zd (ρ' := [(3, _), (4, _), (8, _), (9, _), (10, _)]) ⟨rfl, rfl, rfl, rfl, rfl, trivial⟩ ?_)
    refine Zaf (Zb (Za (Zf (Zas rfl rfl rfl (Zu (by omega))) rfl ?_)))
    refine ym rfl rfl (Zd (ρ' := [(3, _), (4, _), (8, _), (9, _), (10, _)]) ⟨rfl, rfl, rfl, rfl, rfl, trivial⟩ ?_)
    refine Zae ?_
    refine ⟨m - 1, [(3, _), (4, _), (8, _), (9, _), (10, _)], [(503, _)], by omega, ⟨rfl, rfl, rfl, rfl, rfl, trivial⟩, ⟨rfl, trivial⟩, i + 1, by omega, hle4, (by first | (rw [hsn, List.length_append]; simp [strsC]; done) | (rw [hsn])), (by first | (rw [hln]; done) | (rw [hln]; rfl) | (simp only [hln]; done) | (simp [hln]; done)), ?_⟩
    exact ⟨rfl, by rw [hln]; exact hlv0⟩
  ·
   have hge := of_decide_eq_false hb4
   refine Zat ?_
   refine Zp (Zp ?_)
   refine Zah ?_
   refine Zb (Zc (Za (ym rfl rfl ?_)))
   refine Zbm 503 rfl ?_
   intro ad503 cap503 u503 hle503z hsl503
   refine ya rfl rfl (Zd (ρ' := [(2, _)]) ⟨rfl, trivial⟩ ?_)
   refine Zb (Zv ?_)
   refine Zav (.tmp rfl) ?_
   rw [List.take_of_length_le (by omega)] at hsl503
   exact ⟨_, _, by rw [List.take_of_length_le (by omega)], hsl503⟩
def infX : Blk → Bs
 | .mk _ _ inf _ _ _ _ _ _ => inf
def bareT (L : List Blk) : List Bs := (L.filter bareX).map infX
theorem bareT_snoc (L : List Blk) (x : Blk) : bareT (L ++ [x]) = bareT L ++ if bareX x = true then [infX x] else [] := by
 unfold bareT
 rw [List.filter_append, List.map_append]
 congr 1
 by_cases h : bareX x = true <;> simp [h]
theorem bareT_len (L : List Blk) : (bareT L).length ≤ L.length := by
 unfold bareT
 rw [List.length_map]
 exact List.length_filter_le _ _
def bareRb (pre : List PairB) : OO := .rb 9 1 (bareT (pre.map Prod.fst)).length (strsC (bareT (pre.map Prod.fst)))
abbrev bareJ (b3 : Nat) (pre : List PairB) : List PO := [(some b3, bareRb pre)]
def bareK (bs : List Blk) (ρ : Env) (σ : Own) (u1 : View) : Prop :=
 ∃ b3 b1 v1 T1 fr1, ρ = [(3, .p 3 0), (7, .v (.func (.func 74) #[] #[.pointer (some ⟨b1, 0, none⟩)]))] ∧ σ = [(3, (some b3, .rb 9 1 0 []))] ∧ u1 b1 = some (.cells #[v1] T1 fr1) ∧ BlkS u1 v1 bs
def bareM (b3 : Nat) (pre : List PairB) (x : PairB) (ρ : Env) (σ : Own) (u : View) : Prop :=
 ∃ k lv inf t d ti a line kids vc vp vl vk, x = (.mk k lv inf t d ti a line kids, blkV k lv inf t d ti a.id vc vp vl vk) ∧ BlkC u x.1 x.2 ∧ (smB1 x.1 ∧ szb x.1 ≤ 1000) ∧ ρ = [(3, .p 1000 0), (4, .p 4 0)] ∧ σ = [(4, (none, .box (blkV k lv inf t d ti a.id vc vp vl vk))), (1000, (some b3, bareRb pre))]
set_option maxHeartbeats 4000000 in
theorem rule2_fn (vm vb : Value) (bs : List Blk) (u : View) (hbig : szB bs ≤ 1000) (hsm : smB bs) (ha : BlkS u vb bs) :
  FnP Tryz.prog 51 [.agg #[vm, vb]] u fun r u' => StrS u' r (bareT (listB bs)) := by
 have ha2 := ha
 obtain ⟨cs, ⟨ad, cap, rfl, h1⟩, hc1⟩ := ha2
 refine FnP.intro_rangeX (α := PairB) (pre := [_, _]) [.tmp 2] (fun u x v => v = .agg x.2.toArray ∧ BlkC u x.1 x.2 ∧ (smB1 x.1 ∧ szb x.1 ≤ 1000)) (bareK bs) Tryz.func51 rfl rfl rfl rfl ?_ ?_
 ·
  intro w0 D hw0
  refine Za (Zq rfl rfl ?_)
  refine Zbl trivial rfl (cs := [_, _]) rfl rfl rfl rfl ?_
  refine ya rfl rfl (Zd (ρ' := [(1, _)]) ⟨rfl, trivial⟩ ?_)
  refine ⟨rfl, ?_⟩
  refine Za (Zq rfl rfl ?_)
  refine do_alloc_rb 9 1 trivial Tryz.z34 rfl rfl rfl ?_
  refine rl_name 3 rfl ⟨3, _, .inl rfl⟩ ?_
  intro b3
  refine Zd (ρ' := [(1, _), (3, _)]) ⟨rfl, rfl, trivial⟩ ?_
  refine ⟨rfl, ?_⟩
  refine Za (Zf (Zi rfl Tryz.f25' rfl (by decide) rfl) rfl ?_)
  refine Zf (Zj rfl Tryz.k23 rfl rfl rfl (vs := [_]) rfl rfl rfl) rfl ?_
  refine Zq rfl rfl ?_
  refine Zbb (caps := []) trivial rfl rfl Tryz.c39 rfl (FnP.mono (each_fn _ bs u ha) ?_)
  rintro v uE hle0 ⟨b1, v1, T1, fr1, rfl, hb1, ha1⟩ hleE
  refine Zd (ρ' := [(3, _), (7, _)]) ⟨rfl, rfl, trivial⟩ ?_
  exact ⟨rfl, [(3, _), (7, _)], [(3, _)], ⟨rfl, rfl, trivial⟩, ⟨rfl, trivial⟩, b3, b1, v1, T1, fr1, rfl, rfl, hb1, ha1⟩
 ·
  rintro ρ σ u1 hle ⟨b3, b1, v1, T1, fr1, rfl, rfl, hb1, ha1⟩
  refine ⟨74, [.pointer (some ⟨b1, 0, none⟩)], [3], bareJ b3, PX u1 bs, fun pre => pre.length ≤ 100000, [(3, .pointer (some ⟨b3, 0, none⟩))], [(3, .p 3 0)], bareM b3, rfl, Tryz.c74, rfl, rfl, ?_, ⟨rfl, trivial⟩, rfl, fun _ _ => ⟨fun _ h => h, trivial⟩, rfl, ?_, ?_, ?_, ?_⟩
  ·
   intro k x hk
   simp only [gv] at hk
   split at hk
   ·
    rename_i hb
    cases hk
    have := Nat.eq_of_beq_eq_true hb
    subst this
    rfl
   ·
    cases hk
  ·
   intro L Y hY H I hYI
   exact FnO.mono (eachItX_fn (fun x => smB1 x ∧ szb x ≤ 1000) b1 L Y v1 T1 fr1 bs H I u1 (by omega) hb1 ha1 (fun x hx => by obtain ⟨q1, q2⟩ := aB_mem _ bs (Nat.le_refl _) hsm x hx; exact ⟨q1, by omega⟩) (fun pre H I h hl u' x cs hv hc hx => hY pre H I h hl.1 u' (x, cs) _ hv ⟨rfl, hc.mono hv, hx⟩) hYI) fun _ _ _ _ ⟨H', I', ps, h1, h2, h3⟩ => ⟨H', I', ps, h1, h2, h3⟩
  ·
   rintro L pre x v u' w0 D hpb hv ⟨rfl, hc, hx⟩ hlt
   obtain ⟨⟨k, lv, inf, t, d, ti, a, line, kids⟩, cs⟩ := x
   have hc0 := hc
   have oneAll := hc.one
   obtain ⟨vc, vp, vl, vk, rfl, s1, s2, s3, s4, hok⟩ := hc.cells
   refine wc_pin 3 1000 _ 0 rfl rfl ?_
   refine Za (Zq rfl rfl ?_)
   refine Zax trivial Tryz.z39 rfl rfl rfl ?_
   refine Zq rfl rfl ?_
   refine Zt trivial rfl Tryz.k39 rfl rfl rfl (vs := [_, _, _, _, _, _, _, _, _, _, _]) rfl rfl (by first | rfl | assumption | simp [Value.oneCell', str]) (Nat.le_of_ble_eq_true rfl) rfl ?_
   refine Zd (ρ' := [(3, _), (4, _)]) ⟨rfl, rfl, trivial⟩ ?_
   exact ⟨rfl, [(3, _), (4, _)], [(4, _), (1000, _)], ⟨rfl, rfl, trivial⟩, ⟨rfl, rfl, trivial⟩, k, lv, inf, t, d, ti, a, line, kids, vc, vp, vl, vk, rfl, hc0, hx, rfl, rfl⟩
  ·
   rintro L pre x ρ σ u'' w0 D hpb ⟨k, lv, inf, t, d, ti, a, line, kids, vc, vp, vl, vk, rfl, hc, hx, rfl, rfl⟩
   have oneAll := hc.one
   have hpb2 := bareT_len (pre.map Prod.fst)
   rw [List.length_map] at hpb2
   have hpb3 : pre.length ≤ 100000 := hpb
   have hsn := bareT_snoc (pre.map Prod.fst) (.mk k lv inf t d ti a line kids)
   refine Zaa (Zc (Za (Zf (Zj rfl Tryz.k39 rfl rfl rfl (vs := [_, _, _, _, _, _, _, _, _, _, _]) rfl rfl rfl) rfl ?_)))
   refine Zq rfl rfl ?_
   refine Zw (caps := []) trivial rfl rfl Tryz.c52 rfl (FnP.mono (bare_fn (.mk k lv inf t d ti a line kids) _ hx.1 hx.2 u'' hc) ?_)
   rintro v u1 hle1 rfl
   refine Zd (ρ' := [(3, _), (4, _), (10, _)]) ⟨rfl, rfl, rfl, trivial⟩ ?_
   refine Zb ?_
   refine Zn rfl (fun hb4 => ?_) (fun hb4 => ?_)
   ·
    rw [if_pos (show bareX (.mk k lv inf t d ti a line kids) = true by simpa using hb4)] at hsn
    refine Za (Zf (y_load_rb rfl Tryz.k34 rfl rfl rfl) rfl ?_)
    refine Zf (Zi rfl Tryz.f39' rfl (by decide) rfl) rfl ?_
    refine Zf (Zj rfl Tryz.k9 rfl rfl rfl (vs := [_]) rfl rfl rfl) rfl ?_
    refine Zq rfl rfl ?_
    refine Zac trivial Tryz.s34 Tryz.z9 (ps := [(_, _)]) rfl (xs := [_]) rfl rfl rfl rfl rfl rfl rfl ?_
    refine Zq rfl rfl ?_
    refine do_append_rb_s trivial rfl rfl Tryz.s34 Tryz.z9 rfl rfl rfl rfl rfl rfl (by first | rfl | assumption | simp [Value.oneCell', str]) (by omega) (by omega) (ρ' := [(3, _)]) ⟨rfl, trivial⟩ rfl rfl rfl rfl ?_
    refine Zq rfl rfl ?_
    refine do_store_rb (ρ' := []) trivial rfl Tryz.k34 rfl rfl rfl rfl trivial rfl rfl rfl ?_
    refine Zd (ρ' := []) trivial ?_
    refine Zaf ?_
    refine ⟨rfl, [1000], ?_, rfl⟩
    have e : (pre ++ [((.mk k lv inf t d ti a line kids : Blk), blkV k lv inf t d ti a.id vc vp vl vk)]).map Prod.fst = pre.map Prod.fst ++ [.mk k lv inf t d ti a line kids] := by simp
    first
     | (rw [show bareJ b3 (pre ++ [(.mk k lv inf t d ti a line kids, blkV k lv inf t d ti a.id vc vp vl vk)]) = [(some b3, .rb 9 1 ((bareT (pre.map Prod.fst)).length + 1) (strsC (bareT (pre.map Prod.fst)) ++ [str inf]))] by (unfold bareJ bareRb; rw [e, hsn]; simp [strsC, infX])]; rfl)
     | (rw [show bareJ b3 (pre ++ [(.mk k lv inf t d ti a line kids, blkV k lv inf t d ti a.id vc vp vl vk)]) = [(some b3, bareRb pre)] by (unfold bareJ bareRb; rw [e, hsn])]; rfl)
   ·
    rw [if_neg (show ¬ bareX (.mk k lv inf t d ti a line kids) = true by simpa using hb4), List.append_nil] at hsn
    refine Zs (Zaf ?_)
    refine ⟨rfl, [1000], ?_, rfl⟩
    have e : (pre ++ [((.mk k lv inf t d ti a line kids : Blk), blkV k lv inf t d ti a.id vc vp vl vk)]).map Prod.fst = pre.map Prod.fst ++ [.mk k lv inf t d ti a line kids] := by simp
    first
     | (rw [show bareJ b3 (pre ++ [(.mk k lv inf t d ti a line kids, blkV k lv inf t d ti a.id vc vp vl vk)]) = [(some b3, .rb 9 1 ((bareT (pre.map Prod.fst)).length + 1) (strsC (bareT (pre.map Prod.fst)) ++ [str inf]))] by (unfold bareJ bareRb; rw [e, hsn]; simp [strsC, infX])]; rfl)
     | (rw [show bareJ b3 (pre ++ [(.mk k lv inf t d ti a line kids, blkV k lv inf t d ti a.id vc vp vl vk)]) = [(some b3, bareRb pre)] by (unfold bareJ bareRb; rw [e, hsn])]; rfl)
  ·
   intro xs hpx w0 D df dH dI u2 hle2
   show WC _ _ [(3, .p 3 0)] [(3, (some b3, bareRb xs)), (900, (none, .fg dH dI))] _ _
   refine Zc (Za (Zf (y_load_rb rfl Tryz.k34 rfl rfl rfl) rfl ?_))
   refine rl_freeze_rb 3 rfl ?_
   intro ad3 cap3 u3 hle3z hsl3
   refine ya rfl rfl (Zd (ρ' := [(2, _)]) ⟨rfl, trivial⟩ ?_)
   refine Zb (Zv ?_)
   refine ⟨?_, rfl⟩
   refine Zav (.tmp rfl) ?_
   rw [hpx.1] at hsl3 ⊢
   exact ⟨_, _, rfl, hsl3⟩
theorem itoaZ_fn (z : Int) (hz : IntOk z) (u : View) (ht : TabU u) : FnP Tryz.prog 56 [.int .i64 z] u fun v _ => v = str (Lib.itoa z) := by
 refine FnP.of_calls fun w hA => (Tryz.strconv_Itoa z hz.1 hz.2 w (tabIs_of ht hA)).mono ?_
 rintro e w' ⟨rfl, k, os, rfl⟩
 exact ⟨_, rfl, rfl, grow_below w k os⟩
def emptyL (L : List Blk) : List Bs := (L.filter fun h => decide (trim (plain (lineOf h)) = [])).map fun h => Lib.itoa (levB h)
theorem emptyL_take {L : List Blk} {i : Nat} {x : Blk} (h : L[i]? = some x) : emptyL (L.take (i + 1)) = emptyL (L.take i) ++ if trim (plain (lineOf x)) = [] then [Lib.itoa (levB x)] else [] := by
 obtain ⟨hlt, rfl⟩ := List.getElem?_eq_some_iff.1 h
 unfold emptyL
 rw [List.take_succ_eq_append_getElem hlt, List.filter_append, List.map_append]
 congr 1
 by_cases e : trim (plain (lineOf L[i])) = []
 ·
  simp [e]
 ·
  simp [e]
theorem emptyL_len (L : List Blk) : (emptyL L).length ≤ L.length := by
 unfold emptyL
 rw [List.length_map]
 exact List.length_filter_le _ _
set_option maxHeartbeats 1000000 in
theorem rule4_fn (vm vb : Value) (bs : List Blk) (u : View) (hT : TabU u) (hbig : szB bs ≤ 1000) (hsm : smB bs) (ha : BlkS u vb bs) :
  FnP Tryz.prog 55 [.agg #[vm, vb]] u fun r u' => StrS u' r (emptyL (headsL (listB bs))) := by
 have hhl := headsL_len bs
 refine FnP.intro [.tmp 2] Tryz.func55 rfl rfl rfl ?_
 intro w0 D hw0
 refine Zc (Za (Zq rfl rfl ?_))
 refine Zbl trivial rfl (cs := [_, _]) rfl rfl rfl rfl ?_
 refine ya rfl rfl (Zd (ρ' := [(1, _)]) ⟨rfl, trivial⟩ ?_)
 refine Zb (Zc (Za (ya rfl rfl ?_)))
 refine Zbz 3 503 9 1 rfl rfl rfl ?_
 refine Zd (ρ' := [(1, _), (3, _)]) ⟨rfl, rfl, trivial⟩ ?_
 refine Zb (Zc (Zc (Za (Zf (Zj rfl Tryz.k25 rfl rfl rfl (vs := [_, _]) rfl rfl rfl) rfl ?_))))
 refine Zq rfl rfl ?_
 refine Zbb (caps := []) trivial rfl rfl Tryz.c19 rfl (FnP.mono (headings_fn vm vb bs u hbig ha) ?_)
 rintro v uH hle0 ⟨hcs, ⟨had, hcap, rfl, hh1⟩, hh2⟩ hleH
 refine Zf (Zal rfl rfl Tryz.s23 rfl) rfl ?_
 refine ym rfl rfl (Zd (ρ' := [(3, _), (7, _), (8, _), (9, _)]) ⟨rfl, rfl, rfl, rfl, trivial⟩ ?_)
 refine Zb (Zaa ?_)
 refine Zau (fun m ρ σ u' => ∃ i : Nat, i + m = (headsL (listB bs)).length ∧ VLe uH u' ∧ σ = [(503, (none, .row 9 1 (emptyL ((headsL (listB bs)).take i)).length (strsC (emptyL ((headsL (listB bs)).take i)))))] ∧ ρ = [(3, .s 503), (7, .v (.slice had (headsL (listB bs)).length hcap)), (8, .v (.int .i64 (headsL (listB bs)).length)), (9, .v (.int .i64 i))] ∧ (uH = u')) ((headsL (listB bs)).length) ?_ ?_
 ·
  refine ⟨[(3, _), (7, _), (8, _), (9, _)], [(503, _)], ⟨rfl, rfl, rfl, rfl, trivial⟩, ⟨rfl, trivial⟩, 0, by omega, VLe.refl _, rfl, rfl, ?_⟩
  rfl
 ·
  rintro m ρ σ u' ⟨i, hi3, hle3, rfl, rfl, rfl⟩
  refine Zc (Za (Zf (Zbh rfl rfl rfl) rfl ?_))
  refine Zd (ρ' := [(3, _), (7, _), (8, _), (9, _), (10, _)]) ⟨rfl, rfl, rfl, rfl, rfl, trivial⟩ ?_
  refine Zb (Zc ?_)
  refine Zn rfl (fun hb3 => ?_) (fun hb3 => ?_)
  ·
   have hlt : i < (headsL (listB bs)).length := by have := of_decide_eq_true hb3; omega
   obtain ⟨k, lv, inf, t, d, ti, a, line, kids, vc, vp, vl, vk, hg, hcut1, s1, s2, s3, s4, hok⟩ := hh2.at hlt
   have oneAll := (hh2.get i _ hg).one
   rw [hcut1] at oneAll
   obtain ⟨q1, q2⟩ := headsL_ok hsm (List.mem_of_getElem? hg)
   unfold smB1 at q1
   simp only [szb] at q2
   have hlv : IntOk lv := hok.2.1
   have hsn := emptyL_take hg
   have hsl := emptyL_len ((headsL (listB bs)).take i)
   have htl : ((headsL (listB bs)).take i).length ≤ i := by simp; omega
   refine Zs (Zb (Zc (Zaa (Zc (Za (Zf (Zai rfl Tryz.s23 rfl rfl (by assumption) (by first | rfl | omega) (by omega)) rfl ?_))))))
   refine Zf (Zag rfl Tryz.k39 rfl (by assumption) (by omega) (by assumption) (vs := [_, _, _, _, _, _, _, _, _, _, _]) rfl rfl rfl rfl) rfl ?_
   refine Zq rfl rfl ?_
   refine Zax trivial Tryz.z39 rfl rfl rfl ?_
   refine Zq rfl rfl ?_
   refine Zt trivial rfl Tryz.k39 rfl rfl rfl (vs := [_, _, _, _, _, _, _, _, _, _, _]) rfl rfl (by first | rfl | assumption | simp [Value.oneCell', str]) (Nat.le_of_ble_eq_true rfl) rfl ?_
   refine Zd (ρ' := [(3, _), (5, _), (7, _), (8, _), (9, _)]) ⟨rfl, rfl, rfl, rfl, rfl, trivial⟩ ?_
   refine Zb (Zc (Za (Zf (Zi rfl Tryz.f39' rfl (by decide) rfl) rfl ?_)))
   refine Zf (Zj rfl Tryz.k37 rfl rfl rfl (vs := [_]) rfl rfl rfl) rfl ?_
   refine Zq rfl rfl ?_
   refine Zw (caps := []) trivial rfl rfl Tryz.c20 rfl (FnP.mono (trimmed_fn vl line (by omega) (aI_tx _ q1.2.2.2.2.1) uH s3) ?_)
   rintro v u1 hle1 rfl
   refine Zf (Zbg rfl rfl rfl) rfl ?_
   refine Zd (ρ' := [(3, _), (5, _), (7, _), (8, _), (9, _), (16, _)]) ⟨rfl, rfl, rfl, rfl, rfl, rfl, trivial⟩ ?_
   refine Zb ?_
   refine Zn rfl (fun hb5 => ?_) (fun hb5 => ?_)
   ·
    have hsn : emptyL ((headsL (listB bs)).take (i + 1)) = emptyL ((headsL (listB bs)).take i) ++ [Lib.itoa lv] := hsn.trans (congrArg _ (if_pos (show trim (plain line) = [] from of_decide_eq_true hb5)))
    refine Za (ym rfl rfl (Zf (Zi rfl Tryz.f39' rfl (by decide) rfl) rfl ?_))
    refine Zf (Zj rfl Tryz.k3 rfl rfl rfl (vs := [_]) rfl rfl rfl) rfl ?_
    refine Zq rfl rfl ?_
    refine Zw (caps := []) trivial rfl rfl Tryz.c56 rfl (FnP.mono (itoaZ_fn lv hlv uH (hT.mono hleH)) ?_)
    rintro v u1 hle1 rfl
    refine Zq rfl rfl ?_
    refine Zac trivial Tryz.s34 Tryz.z9 (ps := [(_, _)]) rfl (xs := [_]) rfl rfl rfl rfl rfl rfl rfl ?_
    refine Zq rfl rfl ?_
    refine Zbr trivial rfl rfl Tryz.s34 Tryz.z9 rfl rfl rfl rfl rfl rfl (by first | rfl | assumption | simp [Value.oneCell', str]) (by omega) (by omega) (ρ' := [(7, _), (8, _), (9, _)]) ⟨rfl, rfl, rfl, trivial⟩ rfl rfl rfl ?_
    refine ya rfl rfl ?_
    refine Zch 22 503 rfl rfl rfl ?_
    refine Zd (ρ' := [(3, _), (7, _), (8, _), (9, _)]) ⟨rfl, rfl, rfl, rfl, trivial⟩ ?_
    refine Zaf (Zb (Za (Zf (Zas rfl rfl rfl (Zu (by omega))) rfl ?_)))
    refine ym rfl rfl (Zd (ρ' := [(3, _), (7, _), (8, _), (9, _)]) ⟨rfl, rfl, rfl, rfl, trivial⟩ ?_)
    refine Zae ?_
    refine ⟨m - 1, [(3, _), (7, _), (8, _), (9, _)], [(503, _)], by omega, ⟨rfl, rfl, rfl, rfl, trivial⟩, ⟨rfl, trivial⟩, i + 1, by omega, hle3, (by first | (rw [hsn, List.length_append]; simp [strsC]; done) | (rw [hsn])), (by first | rfl | simp), ?_⟩
    rfl
   ·
    have hsn : emptyL ((headsL (listB bs)).take (i + 1)) = emptyL ((headsL (listB bs)).take i) := (hsn.trans (congrArg _ (if_neg (show ¬ trim (plain line) = [] from of_decide_eq_false hb5)))).trans (List.append_nil _)
    refine Zs (Zaf (Zb (Za (Zf (Zas rfl rfl rfl (Zu (by omega))) rfl ?_))))
    refine ym rfl rfl (Zd (ρ' := [(3, _), (7, _), (8, _), (9, _)]) ⟨rfl, rfl, rfl, rfl, trivial⟩ ?_)
    refine Zae ?_
    refine ⟨m - 1, [(3, _), (7, _), (8, _), (9, _)], [(503, _)], by omega, ⟨rfl, rfl, rfl, rfl, trivial⟩, ⟨rfl, trivial⟩, i + 1, by omega, hle3, (by first | (rw [hsn, List.length_append]; simp [strsC]; done) | (rw [hsn])), (by first | rfl | simp), ?_⟩
    rfl
  ·
   have hge := of_decide_eq_false hb3
   refine Zat ?_
   refine Zp (Zp ?_)
   refine Zah ?_
   refine Zb (Zc (Za (ym rfl rfl ?_)))
   refine Zbm 503 rfl ?_
   intro ad503 cap503 u503 hle503z hsl503
   refine ya rfl rfl (Zd (ρ' := [(2, _)]) ⟨rfl, trivial⟩ ?_)
   refine Zb (Zv ?_)
   refine Zav (.tmp rfl) ?_
   rw [List.take_of_length_le (by omega)] at hsl503
   exact ⟨_, _, by rw [List.take_of_length_le (by omega)], hsl503⟩
def lowC (c : UInt8) : UInt8 := if 65 ≤ c.toNat ∧ c.toNat ≤ 90 then c + 32 else c
def lowS (s : Bs) : Bs := s.map lowC
def lowI (s : Bs) (i : Nat) : Bs := lowS (s.take i) ++ s.drop i
theorem lowI_len (s : Bs) (i : Nat) : (lowI s i).length = s.length := by simp [lowI, lowS]; omega
theorem lowI_get {s : Bs} {i : Nat} (h : i < s.length) : (lowI s i)[i]? = some s[i] := by
 unfold lowI lowS
 rw [List.getElem?_append_right (by simp; omega)]
 simp [Nat.min_eq_left (Nat.le_of_lt h)]
theorem lowI_zero (s : Bs) : lowI s 0 = s := by simp [lowI, lowS]
theorem lowI_end {s : Bs} {i : Nat} (h : s.length ≤ i) : lowI s i = lowS s := by simp [lowI, List.take_of_length_le h, List.drop_eq_nil_of_le h]
theorem lowI_succ {s : Bs} {i : Nat} (h : i < s.length) : lowI s (i + 1) = (lowI s i).set i (lowC s[i]) := by
 unfold lowI lowS
 rw [List.take_succ_eq_append_getElem h, List.map_append, List.set_append_right _ _ (by simp; omega)]
 simp [Nat.min_eq_left (Nat.le_of_lt h)]
 rw [List.drop_eq_getElem_cons h, List.set_cons_zero]
theorem set_same {s : Bs} {i : Nat} {c : UInt8} (h : s[i]? = some c) : s.set i c = s := by
 obtain ⟨hlt, rfl⟩ := List.getElem?_eq_some_iff.1 h
 exact List.set_getElem_self hlt
theorem cut_bytesC {l : Bs} {i : Nat} {c : UInt8} (h : l[i]? = some c) : cut (bytesC l) (i * 1) 1 = [.int .u8 c.toNat] := by
 obtain ⟨hlt, rfl⟩ := List.getElem?_eq_some_iff.1 h
 unfold cut bytesC Lib.byteCells
 rw [Nat.mul_one, List.drop_eq_getElem_cons (by simpa using hlt)]
 simp
theorem set_bytesC (l : Bs) (i : Nat) (c : UInt8) : (bytesC l).set (i * 1) (.int .u8 c.toNat) = bytesC (l.set i c) := by
 unfold bytesC Lib.byteCells
 rw [Nat.mul_one, List.map_set]
theorem low_up {c : UInt8} (h : 65 ≤ c.toNat ∧ c.toNat ≤ 90) : ((lowC c).toNat : Int) = c.toNat + 97 - 65 := by
 unfold lowC
 rw [if_pos h, UInt8.toNat_add]
 have : (32 : UInt8).toNat = 32 := rfl
 omega
theorem lower_fn (s : Bs) (hs : s.length ≤ 1000000000) (u : View) : FnP Tryz.prog 90 [str s] u fun r _ => r = str (lowS s) := by
 refine FnP.intro [.tmp 2] Tryz.func90 rfl rfl rfl ?_
 intro w0 D hw0
 refine Zc (Za (ya rfl rfl (Zd (ρ' := [(0, _)]) ⟨rfl, trivial⟩ ?_)))
 refine Zb (Zc (Za (ym rfl rfl (Zq rfl rfl ?_))))
 refine do_convSB trivial Tryz.str9 Tryz.s64 Tryz.u5 rfl rfl rfl rfl ?_
 intro b7 cap7
 refine ya rfl rfl (Zd (ρ' := [(3, _)]) ⟨rfl, trivial⟩ ?_)
 refine Zb (Zc (Zc (Za (ym rfl rfl (Zf (Zal rfl rfl Tryz.s64 rfl) rfl ?_)))))
 refine ym rfl rfl (Zd (ρ' := [(3, _), (8, _), (9, _), (10, _)]) ⟨rfl, rfl, rfl, rfl, trivial⟩ ?_)
 refine Zb (Zaa ?_)
 refine Zau (fun m ρ σ u' => ∃ i : Nat, i + m = s.length ∧ VLe u u' ∧ σ = [(7, (some b7, .cv 5 (bytesC (lowI s i))))] ∧ ρ = [(3, .v (.slice (some ⟨b7, 0, none⟩) s.length cap7)), (8, .v (.slice (some ⟨b7, 0, none⟩) s.length cap7)), (9, .v (.int .i64 s.length)), (10, .v (.int .i64 i))] ∧ (u = u')) (s.length) ?_ ?_
 ·
  refine ⟨[(3, _), (8, _), (9, _), (10, _)], [(7, _)], ⟨rfl, rfl, rfl, rfl, trivial⟩, ⟨rfl, trivial⟩, 0, by omega, VLe.refl _, (by rw [lowI_zero]), rfl, ?_⟩
  rfl
 ·
  rintro m ρ σ u' ⟨i, hi3, hle3, rfl, rfl, rfl⟩
  refine Zc (Za (Zf (Zbh rfl rfl rfl) rfl ?_))
  refine Zd (ρ' := [(3, _), (8, _), (9, _), (10, _), (11, _)]) ⟨rfl, rfl, rfl, rfl, rfl, trivial⟩ ?_
  refine Zb (Zc ?_)
  refine Zn rfl (fun hb3 => ?_) (fun hb3 => ?_)
  ·
   have hlt : i < s.length := by have := of_decide_eq_true hb3; omega
   have hc := lowI_get hlt
   have hcc := cut_bytesC hc
   have hll := lowI_len s i
   have hbl := bytesC_len (lowI s i)
   have hsu := lowI_succ hlt
   have hcl : (s[i]).toNat < 256 := UInt8.toNat_lt _
   generalize hcd : s[i] = c at *
   refine Zs (Zb (Zc (Zaa (Zc (Za (ym rfl rfl (Zf (y_index_cv 7 rfl Tryz.s64 rfl rfl rfl (j := i) rfl hlt) rfl ?_)))))))
   refine Zf (y_load_cv rfl Tryz.k5 rfl rfl rfl hcc rfl rfl (by omega)) rfl ?_
   refine ya rfl rfl (ya rfl rfl (Zd (ρ' := [(3, _), (4, _), (5, _), (8, _), (9, _), (10, _)]) ⟨rfl, rfl, rfl, rfl, rfl, rfl, trivial⟩ ?_))
   refine Zb (Zc ?_)
   refine Zca 20 (decide (65 ≤ c.toNat ∧ c.toNat ≤ 90)) (ρk := [(3, _), (4, _), (5, _), (8, _), (9, _), (10, _)]) ⟨rfl, rfl, rfl, rfl, rfl, rfl, trivial⟩ ?_ ?_
   ·
    refine Za (ym rfl rfl (Zf (Zbw rfl rfl rfl) rfl ?_))
    refine ym rfl rfl ?_
    rcases Bool.eq_false_or_eq_true (decide ((65 : Int) ≤ (c.toNat : Int))) with hg5_2 | hg5_2
    ·
     simp only [hg5_2]
     refine Zk rfl rfl (ym rfl rfl (Zk rfl rfl (Zf (y_leq rfl rfl rfl) rfl ?_)))
     refine Zf (Zl rfl rfl rfl) rfl ?_
     exact Zak rfl ⟨rfl, rfl, rfl, rfl, rfl, rfl, trivial⟩ (by (first | refine (decide_eq_true ?_).symm | refine (decide_eq_false ?_).symm | refine decide_eq_decide.2 ?_ | refine decide_eq_true ?_ | refine decide_eq_false ?_) <;> (try unfold lowC) <;> (try simp only [decide_eq_true_eq, decide_eq_false_iff_not] at *) <;> omega)
    ·
     simp only [hg5_2]
     refine Zo rfl rfl rfl rfl (Zo rfl rfl rfl rfl (Zf (Zm rfl rfl rfl) rfl ?_))
     exact Zak rfl ⟨rfl, rfl, rfl, rfl, rfl, rfl, trivial⟩ (by (first | refine (decide_eq_true ?_).symm | refine (decide_eq_false ?_).symm | refine decide_eq_decide.2 ?_ | refine decide_eq_true ?_ | refine decide_eq_false ?_) <;> (try unfold lowC) <;> (try simp only [decide_eq_true_eq, decide_eq_false_iff_not] at *) <;> omega)
   refine Zb ?_
   refine Zn rfl (fun hb5 => ?_) (fun hb5 => ?_)
   ·
    have h5 := of_decide_eq_true hb5
    have hup := low_up h5
    refine Za (ym rfl rfl (ym rfl rfl (ym rfl rfl (Zf (Zas rfl rfl rfl (IntWalk.u8_in _ (by omega))) rfl ?_))))
    refine Zf (y_sub rfl rfl rfl (IntWalk.u8_in _ (by omega))) rfl ?_
    refine Zf (y_index_cv 7 rfl Tryz.s64 rfl rfl rfl (j := i) rfl hlt) rfl ?_
    refine Zq rfl rfl ?_
    refine do_store_cv trivial rfl Tryz.k5 (xs' := bytesC (lowI s (i + 1))) rfl rfl rfl rfl rfl (by omega) (by rw [hsu, ← hup]; exact set_bytesC _ i (lowC c)) ?_
    refine Zd (ρ' := [(3, _), (8, _), (9, _), (10, _)]) ⟨rfl, rfl, rfl, rfl, trivial⟩ ?_
    refine Zaf (Zb (Za (Zf (Zas rfl rfl rfl (Zu (by omega))) rfl ?_)))
    refine ym rfl rfl (Zd (ρ' := [(3, _), (8, _), (9, _), (10, _)]) ⟨rfl, rfl, rfl, rfl, trivial⟩ ?_)
    refine Zae ?_
    refine ⟨m - 1, [(3, _), (8, _), (9, _), (10, _)], [(7, _)], by omega, ⟨rfl, rfl, rfl, rfl, trivial⟩, ⟨rfl, trivial⟩, i + 1, by omega, hle3, (by first | rfl | rw [hsu]), rfl, ?_⟩
    rfl
   ·
    have h5 := of_decide_eq_false hb5
    have hsu : lowI s (i + 1) = lowI s i := by rw [hsu, show lowC c = c from if_neg h5, set_same hc]
    refine Zs (Zaf (Zb (Za (Zf (Zas rfl rfl rfl (Zu (by omega))) rfl ?_))))
    refine ym rfl rfl (Zd (ρ' := [(3, _), (8, _), (9, _), (10, _)]) ⟨rfl, rfl, rfl, rfl, trivial⟩ ?_)
    refine Zae ?_
    refine ⟨m - 1, [(3, _), (8, _), (9, _), (10, _)], [(7, _)], by omega, ⟨rfl, rfl, rfl, rfl, trivial⟩, ⟨rfl, trivial⟩, i + 1, by omega, hle3, (by first | rfl | rw [hsu]), rfl, ?_⟩
    rfl
  ·
   have hge := of_decide_eq_false hb3
   refine Zat ?_
   refine Zp (Zp ?_)
   refine Zah ?_
   refine Zb (Zc (Za (ym rfl rfl (Zf (y_convBS 7 rfl Tryz.s64 Tryz.u5 Tryz.str9 rfl (lowI_len s i) rfl rfl) rfl ?_))))
   refine ya rfl rfl (Zd (ρ' := [(2, _)]) ⟨rfl, trivial⟩ ?_)
   refine Zb (Zv ?_)
   refine Zav (.tmp rfl) ?_
   have hge := of_decide_eq_false hb3
   rw [lowI_end (by omega)]
def hereS : Bs := [104, 101, 114, 101]
def clickS : Bs := [99, 108, 105, 99, 107]
def clhS : Bs := [99, 108, 105, 99, 107, 32, 104, 101, 114, 101]
def vague : Inl → Bool
 | .mk k _ _ _ _ _ _ kids => decide (k = 9) && decide (lowS (trim (plain kids)) = hereS ∨ lowS (trim (plain kids)) = clickS ∨ lowS (trim (plain kids)) = clhS)
def sayI : Inl → Bs
 | .mk _ _ _ _ _ _ _ kids => trim (plain kids)
theorem vague_fn (x : Inl) (cs : List Value) (u : View) (hsz : sz1 x ≤ 1000) (htx : txI 100000 (match x with | .mk _ _ _ _ _ _ _ kids => kids)) (hx : InlC u x cs) :
  FnP Tryz.prog 61 [.agg cs.toArray] u fun r _ => r = .bool (vague x) := by
 obtain ⟨k, t, d, ti, a, args, cites, kids⟩ := x
 have oneAll := hx.one
 obtain ⟨vc, vp, va, vt, vk, rfl, q1, q2, q3, q4, q5, hok⟩ := hx.cells
 simp only [sz1] at hsz
 simp only at htx
 have hl := plain_len 100000 (by omega) kids htx
 have htl := trim_le (plain kids)
 generalize hL : lowS (trim (plain kids)) = L
 refine FnP.intro [.tmp 2] Tryz.func61 rfl rfl rfl ?_
 intro w0 D hw0
 refine Zc (Za (Zq rfl rfl ?_))
 refine Zbl trivial rfl (cs := [_, _, _, _, _, _, _, _, _, _]) rfl rfl rfl rfl ?_
 refine ya rfl rfl (Zd (ρ' := [(1, _)]) ⟨rfl, trivial⟩ ?_)
 refine Zb (Zc (Zc (Za (Zf (Zi rfl Tryz.f45' rfl (by decide) rfl) rfl ?_))))
 refine Zf (Zj rfl Tryz.k3 rfl rfl rfl (vs := [_]) rfl rfl rfl) rfl ?_
 refine Zf (Zcc rfl rfl rfl) rfl ?_
 refine Zd (ρ' := [(1, _), (6, _)]) ⟨rfl, rfl, trivial⟩ ?_
 refine Zb ?_
 refine Zn rfl (fun hb1 => ?_) (fun hb1 => ?_)
 ·
  have h1 : ¬ k = 9 := of_decide_eq_true hb1
  refine Zc (Za (ya rfl rfl (Zd (ρ' := [(2, _)]) ⟨rfl, trivial⟩ ?_)))
  refine Zb (Zv (Zh ?_))
  refine Zav (.tmp rfl) ?_
  unfold vague; simp [h1]
 ·
  have h1 : k = 9 := Decidable.of_not_not (of_decide_eq_false hb1)
  refine Zs (Zb (Zc (Za (Zf (Zi rfl Tryz.f45' rfl (by decide) rfl) rfl ?_))))
  refine Zf (Zj rfl Tryz.k37 rfl rfl rfl (vs := [_]) rfl rfl rfl) rfl ?_
  refine Zq rfl rfl ?_
  refine Zw (caps := []) trivial rfl rfl Tryz.c20 rfl (FnP.mono (trimmed_fn vk kids (by omega) htx u q5) ?_)
  rintro v u1 hle1 rfl
  refine Zq rfl rfl ?_
  refine Zw (caps := []) trivial rfl rfl Tryz.c90 rfl (FnP.mono (lower_fn (trim (plain kids)) (by omega) u) ?_)
  rintro v u1 hle1 rfl
  rw [hL]
  refine ya rfl rfl (Zd (ρ' := [(3, _)]) ⟨rfl, trivial⟩ ?_)
  refine Zb (Zc (Za (ym rfl rfl (Zf (Zbg rfl rfl rfl) rfl ?_))))
  refine ym rfl rfl ?_
  rcases Bool.eq_false_or_eq_true (decide (L = [104, 101, 114, 101])) with hg4_2 | hg4_2
  ·
   simp only [hg4_2]
   refine Zo rfl rfl rfl rfl (Zo rfl rfl rfl rfl (Zf (Zl rfl rfl rfl) rfl (ym rfl rfl (Zo rfl rfl rfl rfl (Zo rfl rfl rfl rfl (Zf (Zl rfl rfl rfl) rfl (ya rfl rfl (Zd (ρ' := [(2, _)]) ⟨rfl, trivial⟩ ?_))))))))
   refine Zb (Zv ?_)
   refine Zav (.tmp rfl) ?_
   have e : vague (.mk k t d ti a args cites kids) = (decide (k = 9) && decide (lowS (trim (plain kids)) = hereS ∨ lowS (trim (plain kids)) = clickS ∨ lowS (trim (plain kids)) = clhS)) := rfl
   rw [e, hL, h1]
   first
    | (have hg := of_decide_eq_true hg4_2; have hg : L = hereS := hg; simp [hg]; done)
    | (have hg := of_decide_eq_true hg4_6; have hg : L = clickS := hg; simp [hg]; done)
    | (have hg := of_decide_eq_false hg4_2; have hg2 := of_decide_eq_false hg4_6; have hg : ¬ L = hereS := hg; have hg2 : ¬ L = clickS := hg2; simp [hg, hg2, clhS]; done)
  ·
   simp only [hg4_2]
   refine Zk rfl rfl (ym rfl rfl (Zk rfl rfl (Zf (Zbg rfl rfl rfl) rfl ?_)))
   refine Zf (Zm rfl rfl rfl) rfl (ym rfl rfl ?_)
   rcases Bool.eq_false_or_eq_true (decide (L = [99, 108, 105, 99, 107])) with hg4_6 | hg4_6
   ·
    simp only [hg4_6]
    refine Zo rfl rfl rfl rfl (Zo rfl rfl rfl rfl (Zf (Zl rfl rfl rfl) rfl (ya rfl rfl (Zd (ρ' := [(2, _)]) ⟨rfl, trivial⟩ ?_))))
    refine Zb (Zv ?_)
    refine Zav (.tmp rfl) ?_
    have e : vague (.mk k t d ti a args cites kids) = (decide (k = 9) && decide (lowS (trim (plain kids)) = hereS ∨ lowS (trim (plain kids)) = clickS ∨ lowS (trim (plain kids)) = clhS)) := rfl
    rw [e, hL, h1]
    first
     | (have hg := of_decide_eq_true hg4_2; have hg : L = hereS := hg; simp [hg]; done)
     | (have hg := of_decide_eq_true hg4_6; have hg : L = clickS := hg; simp [hg]; done)
     | (have hg := of_decide_eq_false hg4_2; have hg2 := of_decide_eq_false hg4_6; have hg : ¬ L = hereS := hg; have hg2 : ¬ L = clickS := hg2; simp [hg, hg2, clhS]; done)
   ·
    simp only [hg4_6]
    refine Zk rfl rfl (ym rfl rfl (Zk rfl rfl (Zf (Zbg rfl rfl rfl) rfl ?_)))
    refine Zf (Zm rfl rfl rfl) rfl (ya rfl rfl (Zd (ρ' := [(2, _)]) ⟨rfl, trivial⟩ ?_))
    refine Zb (Zv ?_)
    refine Zav (.tmp rfl) ?_
    have e : vague (.mk k t d ti a args cites kids) = (decide (k = 9) && decide (lowS (trim (plain kids)) = hereS ∨ lowS (trim (plain kids)) = clickS ∨ lowS (trim (plain kids)) = clhS)) := rfl
    rw [e, hL, h1]
    first
     | (have hg := of_decide_eq_true hg4_2; have hg : L = hereS := hg; simp [hg]; done)
     | (have hg := of_decide_eq_true hg4_6; have hg : L = clickS := hg; simp [hg]; done)
     | (have hg := of_decide_eq_false hg4_2; have hg2 := of_decide_eq_false hg4_6; have hg : ¬ L = hereS := hg; have hg2 : ¬ L = clickS := hg2; simp [hg, hg2, clhS]; done)
theorem vagueCb : CbT 61 vague := ⟨Tryz.c61, fun u x cs hs hz hx => by
 obtain ⟨k, t, d, ti, a, args, cites, kids⟩ := x
 obtain ⟨h1, h2, _⟩ := txI_mk hs
 exact vague_fn _ cs u hz (aI_tx _ h1) hx⟩
theorem say_fn (x : Inl) (cs : List Value) (u : View) (hsz : sz1 x ≤ 1000) (htx : txI 100000 (match x with | .mk _ _ _ _ _ _ _ kids => kids)) (hx : InlC u x cs) :
  FnP Tryz.prog 62 [.agg cs.toArray] u fun r _ => r = str (sayI x) := by
 obtain ⟨k, t, d, ti, a, args, cites, kids⟩ := x
 have oneAll := hx.one
 obtain ⟨vc, vp, va, vt, vk, rfl, q1, q2, q3, q4, q5, hok⟩ := hx.cells
 simp only [sz1] at hsz
 simp only at htx
 refine FnP.intro [.tmp 2] Tryz.func62 rfl rfl rfl ?_
 intro w0 D hw0
 refine Zc (Za (Zq rfl rfl ?_))
 refine Zbl trivial rfl (cs := [_, _, _, _, _, _, _, _, _, _]) rfl rfl rfl rfl ?_
 refine ya rfl rfl (Zd (ρ' := [(1, _)]) ⟨rfl, trivial⟩ ?_)
 refine Zb (Zc (Za (Zf (Zi rfl Tryz.f45' rfl (by decide) rfl) rfl ?_)))
 refine Zf (Zj rfl Tryz.k37 rfl rfl rfl (vs := [_]) rfl rfl rfl) rfl ?_
 refine Zq rfl rfl ?_
 refine Zw (caps := []) trivial rfl rfl Tryz.c20 rfl (FnP.mono (trimmed_fn vk kids (by omega) htx u q5) ?_)
 rintro v u1 hle1 rfl
 refine ya rfl rfl (Zd (ρ' := [(2, _)]) ⟨rfl, trivial⟩ ?_)
 refine Zb (Zv ?_)
 refine Zav (.tmp rfl) ?_
 rfl
theorem sayCb : CbS 62 sayI := ⟨Tryz.c62, fun u x cs hs hz hx => by
 obtain ⟨k, t, d, ti, a, args, cites, kids⟩ := x
 obtain ⟨h1, h2, _⟩ := txI_mk hs
 exact say_fn _ cs u hz (aI_tx _ h1) hx⟩
theorem rule7_fn (vm vb : Value) (bs : List Blk) (u : View) (hbig : szB bs ≤ 1000) (hsm : smB bs) (ha : BlkS u vb bs) :
  FnP Tryz.prog 60 [.agg #[vm, vb]] u fun r u' => StrS u' r (foundL vague sayI (inls (listB bs))) := by
 refine FnP.intro [.tmp 2] Tryz.func60 rfl rfl rfl ?_
 intro w0 D hw0
 refine Zc (Za (Zq rfl rfl ?_))
 refine Zbl trivial rfl (cs := [_, _]) rfl rfl rfl rfl ?_
 refine ya rfl rfl (Zd (ρ' := [(1, _)]) ⟨rfl, trivial⟩ ?_)
 refine Zb (Zc (Za (Zf (Zj rfl Tryz.k25 rfl rfl rfl (vs := [_, _]) rfl rfl rfl) rfl ?_)))
 refine Zq rfl rfl ?_
 refine Zbb (caps := []) trivial rfl rfl Tryz.c47 rfl (FnP.mono (accInl_fn vm vb bs _ _ vague sayI vagueCb sayCb u hbig hsm ha) ?_)
 rintro v uA hle0 hr hleA
 refine ya rfl rfl (Zd (ρ' := [(2, _)]) ⟨rfl, trivial⟩ ?_)
 refine Zb (Zv ?_)
 refine Zav (.tmp rfl) ?_
 exact hr
def imgS : Bs := [105, 109, 97, 103, 101]
def levS : Bs := [108, 101, 118, 101, 108]
def tblS : Bs := [116, 97, 98, 108, 101]
def lnkS : Bs := [108, 105, 110, 107]
def hdgS : Bs := [104, 101, 97, 100, 105, 110, 103]
def vagS : Bs := [118, 97, 103, 117, 101]
def kindsF : List Bs := [imgS, levS, tblS, lnkS, hdgS, langS, titS, vagS]
def fnV (f : FuncId) : Value := .func (.func f) #[] #[]
def rulesKV : List (Value × Value) := [(str imgS, fnV 46), (str levS, fnV 50), (str tblS, fnV 51), (str lnkS, fnV 53), (str hdgS, fnV 55), (str langS, fnV 57), (str titS, fnV 59), (str vagS, fnV 60)]
theorem rules_fn (u : View) : FnP Tryz.prog 24 [] u fun r u' => ∃ b, r = .map (some b) ∧ MapV u' b rulesKV := by
 refine FnP.intro [.tmp 0] Tryz.func24 rfl rfl rfl ?_
 intro w0 D hw0
 refine Zc (Za (ya rfl rfl (Zd (ρ' := []) trivial ?_)))
 refine Zb (Zc (Za (Zq rfl rfl ?_)))
 refine do_makeMap trivial rfl rfl rfl ?_
 refine Zq rfl rfl ?_
 refine do_insert trivial rfl Tryz.m60 Tryz.str9 rfl rfl rfl rfl rfl rfl ?_
 refine Zq rfl rfl ?_
 refine do_insert trivial rfl Tryz.m60 Tryz.str9 rfl rfl rfl rfl rfl rfl ?_
 refine Zq rfl rfl ?_
 refine do_insert trivial rfl Tryz.m60 Tryz.str9 rfl rfl rfl rfl rfl rfl ?_
 refine Zq rfl rfl ?_
 refine do_insert trivial rfl Tryz.m60 Tryz.str9 rfl rfl rfl rfl rfl rfl ?_
 refine Zq rfl rfl ?_
 refine do_insert trivial rfl Tryz.m60 Tryz.str9 rfl rfl rfl rfl rfl rfl ?_
 refine Zq rfl rfl ?_
 refine do_insert trivial rfl Tryz.m60 Tryz.str9 rfl rfl rfl rfl rfl rfl ?_
 refine Zq rfl rfl ?_
 refine do_insert trivial rfl Tryz.m60 Tryz.str9 rfl rfl rfl rfl rfl rfl ?_
 refine Zq rfl rfl ?_
 refine do_insert trivial rfl Tryz.m60 Tryz.str9 rfl rfl rfl rfl rfl rfl ?_
 refine ym rfl rfl ?_
 refine rl_freezeM 1 rfl ?_
 intro b1 u1 hle1z hm1 hpn1
 refine ya rfl rfl (Zd (ρ' := [(0, _)]) ⟨rfl, trivial⟩ ?_)
 refine Zb (Zv ?_)
 refine Zav (.tmp rfl) ?_
 exact ⟨_, rfl, hm1⟩
def textF (ps : List (Bs × Bs)) (bs : List Blk) (i : Nat) : List Bs := match i with
 | 0 => foundL silent targetX (inls (listB bs))
 | 1 => skipsL 0 (headsL (listB bs))
 | 2 => bareT (listB bs)
 | 3 => foundL mute targetX (inls (listB bs))
 | 4 => emptyL (headsL (listB bs))
 | 5 => if hasM langS ps = true then [] else [langS]
 | 6 => if hasM titS ps = true then [] else [titS]
 | 7 => foundL vague sayI (inls (listB bs))
 | _ => []
theorem textF_len (ps : List (Bs × Bs)) (bs : List Blk) (h : szB bs ≤ 1000) (i : Nat) : (textF ps bs i).length ≤ 1000 := by
 have h1 := inls_len (listB bs)
 have h2 := szL_listB bs
 have h3 := headsL_len bs
 have h4 := listB_len bs
 unfold textF
 split
 ·
  have := foundL_len silent targetX (inls (listB bs)); omega
 ·
  have := skipsL_len 0 (headsL (listB bs)); omega
 ·
  have := bareT_len (listB bs); omega
 ·
  have := foundL_len mute targetX (inls (listB bs)); omega
 ·
  have := emptyL_len (headsL (listB bs)); omega
 ·
  split <;> simp
 ·
  split <;> simp
 ·
  have := foundL_len vague sayI (inls (listB bs)); omega
 ·
  simp
theorem rule_at (vm vb : Value) (ps : List (Bs × Bs)) (bs : List Blk) (u : View) (hT : TabU u) (hbig : szB bs ≤ 1000) (hsm : smB bs) (hl : ps.length ≤ 1000000) (hm : PrS u vm ps) (ha : BlkS u vb bs) : ∀ (i : Nat) (k : Bs), kindsF[i]? = some k →
  ∃ f, (mget rulesKV (str k)).getD .nilFunc = fnV f ∧ canCall Tryz.prog f = true ∧ FnP Tryz.prog f [.agg #[vm, vb]] u fun r u' => StrS u' r (textF ps bs i)
 | 0, k, hk => by obtain rfl := Option.some.inj hk; exact ⟨46, rfl, Tryz.c46, rule1_fn vm vb bs u hbig hsm ha⟩
 | 1, k, hk => by obtain rfl := Option.some.inj hk; exact ⟨50, rfl, Tryz.c50, skips_fn vm vb bs u hbig hsm ha⟩
 | 2, k, hk => by obtain rfl := Option.some.inj hk; exact ⟨51, rfl, Tryz.c51, rule2_fn vm vb bs u hbig hsm ha⟩
 | 3, k, hk => by obtain rfl := Option.some.inj hk; exact ⟨53, rfl, Tryz.c53, rule3_fn vm vb bs u hbig hsm ha⟩
 | 4, k, hk => by obtain rfl := Option.some.inj hk; exact ⟨55, rfl, Tryz.c55, rule4_fn vm vb bs u hT hbig hsm ha⟩
 | 5, k, hk => by obtain rfl := Option.some.inj hk; exact ⟨57, rfl, Tryz.c57, rule5_fn ps vm vb hl u hm⟩
 | 6, k, hk => by obtain rfl := Option.some.inj hk; exact ⟨59, rfl, Tryz.c59, rule6_fn ps vm vb hl u hm⟩
 | 7, k, hk => by obtain rfl := Option.some.inj hk; exact ⟨60, rfl, Tryz.c60, rule7_fn vm vb bs u hbig hsm ha⟩
 | n + 8, k, hk => by simp [kindsF] at hk
def faultsTo (ps : List (Bs × Bs)) (bs : List Blk) : Nat → List (Bs × Bs)
 | 0 => []
 | i + 1 => faultsTo ps bs i ++ (textF ps bs i).map fun t => (kindsF.getD i [], t)
def faultsL (ps : List (Bs × Bs)) (bs : List Blk) : List (Bs × Bs) := faultsTo ps bs 8
theorem faultsTo_len (ps : List (Bs × Bs)) (bs : List Blk) (h : szB bs ≤ 1000) : ∀ i, (faultsTo ps bs i).length ≤ 1000 * i
 | 0 => Nat.le_refl _
 | i + 1 => by
  have h1 := faultsTo_len ps bs h i
  have h2 := textF_len ps bs h i
  rw [faultsTo, List.length_append, List.length_map]
  omega
def fltC (l : List (Bs × Bs)) : List Value := l.flatMap fun x => [str x.1, str [], str x.2]
theorem fltC_append (a b : List (Bs × Bs)) : fltC (a ++ b) = fltC a ++ fltC b := by simp [fltC]
theorem fltC_snoc (A : List (Bs × Bs)) (k : Bs) {L : List Bs} {j : Nat} {x : Bs} (h : L[j]? = some x) : fltC (A ++ (L.take (j + 1)).map fun t => (k, t)) = fltC (A ++ (L.take j).map fun t => (k, t)) ++ [str k, str [], str x] := by
 obtain ⟨hlt, rfl⟩ := List.getElem?_eq_some_iff.1 h
 rw [List.take_succ_eq_append_getElem hlt, List.map_append, ← List.append_assoc, fltC_append]
 rfl
def FltS (u : View) (v : Value) (l : List (Bs × Bs)) : Prop := IsSl u v l.length 3 (fltC l)
set_option maxHeartbeats 1000000 in
theorem check_fn (vm vb : Value) (ps : List (Bs × Bs)) (bs : List Blk) (u : View) (hT : TabU u) (hbig : szB bs ≤ 1000) (hsm : smB bs) (hl : ps.length ≤ 1000000) (hm : PrS u vm ps) (ha : BlkS u vb bs) :
  FnP Tryz.prog 9 [.agg #[vm, vb]] u fun r u' => FltS u' r (faultsL ps bs) := by
 have hFl := faultsTo_len ps bs hbig
 refine FnP.intro [.tmp 2] Tryz.func9 rfl rfl rfl ?_
 intro w0 D hw0
 refine Zc (Za (Zq rfl rfl ?_))
 refine Zbl trivial rfl (cs := [_, _]) rfl rfl rfl rfl ?_
 refine ya rfl rfl (Zd (ρ' := [(1, _)]) ⟨rfl, trivial⟩ ?_)
 refine Zb (Zc (Za (ya rfl rfl ?_)))
 refine Zbz 3 503 47 3 rfl rfl rfl ?_
 refine Zd (ρ' := [(1, _), (3, _)]) ⟨rfl, rfl, trivial⟩ ?_
 refine Zb (Zc (Za (Zq rfl rfl ?_)))
 refine Zbb (caps := []) trivial rfl rfl Tryz.c24 rfl (FnP.mono (rules_fn u) ?_)
 rintro v uM hle0 ⟨bm, rfl, hmv⟩ hleM
 refine ya rfl rfl (Zd (ρ' := [(1, _), (3, _), (4, _)]) ⟨rfl, rfl, rfl, trivial⟩ ?_)
 refine Zb (Zc (Zc (Za (Zq rfl rfl ?_))))
 refine Zac trivial Tryz.s34 Tryz.z9 (ps := [(_, _), (_, _), (_, _), (_, _), (_, _), (_, _), (_, _), (_, _)]) rfl (xs := [_, _, _, _, _, _, _, _]) rfl rfl rfl rfl rfl rfl rfl ?_
 refine Zf (y_len_s rfl rfl Tryz.s34 rfl rfl) rfl ?_
 refine ym rfl rfl (Zd (ρ' := [(1, _), (3, _), (4, _), (10, _), (11, _), (12, _)]) ⟨rfl, rfl, rfl, rfl, rfl, rfl, trivial⟩ ?_)
 refine Zb (Zaa ?_)
 refine Zau (fun m ρ σ u' => ∃ i : Nat, i + m = 8 ∧ VLe uM u' ∧ σ = [(1, (none, .box [vm, vb])), (10, (none, .row 9 1 8 (strsC kindsF))), (503, (none, .row 47 3 (faultsTo ps bs i).length (fltC (faultsTo ps bs i))))] ∧ ρ = [(1, .p 1 0), (3, .s 503), (4, .v (.map (some bm))), (10, .s 10), (11, .v (.int .i64 8)), (12, .v (.int .i64 i))] ∧ (True)) (8) ?_ ?_
 ·
  refine ⟨[(1, _), (3, _), (4, _), (10, _), (11, _), (12, _)], [(1, _), (10, _), (503, _)], ⟨rfl, rfl, rfl, rfl, rfl, rfl, trivial⟩, ⟨rfl, rfl, rfl, trivial⟩, 0, by omega, VLe.refl _, rfl, rfl, ?_⟩
  trivial
 ·
  rintro m ρ σ u' ⟨i, hi4, hle4, rfl, rfl, hinv4⟩
  refine Zc (Za (Zf (Zbh rfl rfl rfl) rfl ?_))
  refine Zd (ρ' := [(1, _), (3, _), (4, _), (10, _), (11, _), (12, _), (13, _)]) ⟨rfl, rfl, rfl, rfl, rfl, rfl, rfl, trivial⟩ ?_
  refine Zb (Zc ?_)
  refine Zn rfl (fun hb4 => ?_) (fun hb4 => ?_)
  ·
   have hlt : i < 8 := by have := of_decide_eq_true hb4; omega
   obtain ⟨k, hk⟩ : ∃ k, kindsF[i]? = some k := ⟨_, List.getElem?_eq_getElem (show i < kindsF.length from hlt)⟩
   have hkk := cut_strsC hk
   have hkd : kindsF.getD i [] = k := by rw [List.getD_eq_getElem?_getD, hk]; rfl
   have hle0 := hleM.trans hle4
   obtain ⟨f, hfv, hfc, hff⟩ := rule_at vm vb ps bs u' (hT.mono hle0) hbig hsm hl (hm.mono hle0) (ha.mono hle0) i k hk
   have htl := textF_len ps bs hbig i
   have hFi := hFl i
   refine Zs (Zb (Zc (Zaa (Zc (Za (Zf (y_index_s rfl Tryz.s34 rfl rfl rfl (by first | rfl | omega) (by omega)) rfl ?_))))))
   refine Zf (y_load_s rfl Tryz.k9 rfl rfl rfl hkk rfl rfl (by show i * 1 + 1 ≤ 8; omega)) rfl ?_
   refine ya rfl rfl (Zd (ρ' := [(1, _), (3, _), (4, _), (6, _), (10, _), (11, _), (12, _)]) ⟨rfl, rfl, rfl, rfl, rfl, rfl, rfl, trivial⟩ ?_)
   refine Zb (Zc (Za (ym rfl rfl (ym rfl rfl (Zf (y_lookup_v rfl Tryz.m60 Tryz.str9 Tryz.v62 rfl (hmv.mono hle4) rfl rfl rfl) rfl ?_)))))
   rw [hfv]
   refine Zf (Zj rfl Tryz.k25 rfl rfl rfl (vs := [_, _]) rfl rfl rfl) rfl ?_
   refine Zq rfl rfl ?_
   refine Zbb (caps := []) trivial rfl rfl hfc rfl (FnP.mono (hff) ?_)
   rintro v uT hle0 ⟨tad, tcap, rfl, ht1⟩ hleT
   refine Zf (Zal rfl rfl Tryz.s34 rfl) rfl ?_
   refine ym rfl rfl (Zd (ρ' := [(1, _), (3, _), (4, _), (6, _), (10, _), (11, _), (12, _), (20, _), (21, _), (22, _)]) ⟨rfl, rfl, rfl, rfl, rfl, rfl, rfl, rfl, rfl, rfl, trivial⟩ ?_)
   refine Zb (Zaa ?_)
   refine Zau (fun m ρ σ u' => ∃ j : Nat, j + m = (textF ps bs i).length ∧ VLe uT u' ∧ σ = [(1, (none, .box [vm, vb])), (10, (none, .row 9 1 8 (strsC kindsF))), (503, (none, .row 47 3 ((faultsTo ps bs i).length + j) (fltC (faultsTo ps bs i ++ ((textF ps bs i).take j).map fun t => (k, t)))))] ∧ ρ = [(1, .p 1 0), (3, .s 503), (4, .v (.map (some bm))), (6, .v (str k)), (10, .s 10), (11, .v (.int .i64 8)), (12, .v (.int .i64 i)), (20, .v (.slice tad (textF ps bs i).length tcap)), (21, .v (.int .i64 (textF ps bs i).length)), (22, .v (.int .i64 j))] ∧ (True)) ((textF ps bs i).length) ?_ ?_
   ·
    refine ⟨[(1, _), (3, _), (4, _), (6, _), (10, _), (11, _), (12, _), (20, _), (21, _), (22, _)], [(1, _), (10, _), (503, _)], ⟨rfl, rfl, rfl, rfl, rfl, rfl, rfl, rfl, rfl, rfl, trivial⟩, ⟨rfl, rfl, rfl, trivial⟩, 0, by omega, VLe.refl _, (by simp), rfl, ?_⟩
    trivial
   ·
    rintro mj ρ σ u' ⟨j, hi7, hle7, rfl, rfl, hinv7⟩
    refine Zc (Za (Zf (Zbh rfl rfl rfl) rfl ?_))
    refine Zd (ρ' := [(1, _), (3, _), (4, _), (6, _), (10, _), (11, _), (12, _), (20, _), (21, _), (22, _), (23, _)]) ⟨rfl, rfl, rfl, rfl, rfl, rfl, rfl, rfl, rfl, rfl, rfl, trivial⟩ ?_
    refine Zb (Zc ?_)
    refine Zn rfl (fun hb7 => ?_) (fun hb7 => ?_)
    ·
     have hlt2 : j < (textF ps bs i).length := by have := of_decide_eq_true hb7; omega
     have hgt := List.getElem?_eq_getElem hlt2
     have hcc := cut_strsC hgt
     have ht1 := ht1.mono hle7
     have hfs := fltC_snoc (faultsTo ps bs i) k hgt
     refine Zs (Zb (Zc (Zaa (Zc (Za (Zf (Zai rfl Tryz.s34 rfl rfl (by assumption) (by first | rfl | omega) (by omega)) rfl ?_))))))
     refine Zf (Zag rfl Tryz.k9 rfl (by assumption) (by omega) (by assumption) (vs := [_]) rfl rfl rfl rfl) rfl ?_
     refine ya rfl rfl (Zd (ρ' := [(1, _), (3, _), (4, _), (6, _), (8, _), (10, _), (11, _), (12, _), (20, _), (21, _), (22, _)]) ⟨rfl, rfl, rfl, rfl, rfl, rfl, rfl, rfl, rfl, rfl, rfl, trivial⟩ ?_)
     refine Zb (Za (ym rfl rfl (ym rfl rfl (ym rfl rfl (Zf (Zbe rfl Tryz.f47' Tryz.z47 (ps := [(_, _), (_, _)]) rfl (vs := [_, _, _]) rfl) rfl ?_)))))
     refine Zq rfl rfl ?_
     refine Zac trivial Tryz.s30 Tryz.z47 (ps := [(_, _)]) rfl (xs := [_, _, _]) rfl rfl rfl rfl rfl rfl rfl ?_
     refine Zq rfl rfl ?_
     refine Zbr trivial rfl rfl Tryz.s30 Tryz.z47 rfl rfl rfl rfl rfl rfl (by first | rfl | assumption | simp [Value.oneCell', str]) (by omega) (by omega) (ρ' := [(1, _), (4, _), (6, _), (10, _), (11, _), (12, _), (20, _), (21, _), (22, _)]) ⟨rfl, rfl, rfl, rfl, rfl, rfl, rfl, rfl, rfl, trivial⟩ rfl rfl rfl ?_
     refine ya rfl rfl ?_
     refine Zch 31 503 rfl rfl rfl ?_
     refine Zd (ρ' := [(1, _), (3, _), (4, _), (6, _), (10, _), (11, _), (12, _), (20, _), (21, _), (22, _)]) ⟨rfl, rfl, rfl, rfl, rfl, rfl, rfl, rfl, rfl, rfl, trivial⟩ ?_
     refine Zaf (Zb (Za (Zf (Zas rfl rfl rfl (Zu (by omega))) rfl ?_)))
     refine ym rfl rfl (Zd (ρ' := [(1, _), (3, _), (4, _), (6, _), (10, _), (11, _), (12, _), (20, _), (21, _), (22, _)]) ⟨rfl, rfl, rfl, rfl, rfl, rfl, rfl, rfl, rfl, rfl, trivial⟩ ?_)
     refine Zae ?_
     refine ⟨mj - 1, [(1, _), (3, _), (4, _), (6, _), (10, _), (11, _), (12, _), (20, _), (21, _), (22, _)], [(1, _), (10, _), (503, _)], by omega, ⟨rfl, rfl, rfl, rfl, rfl, rfl, rfl, rfl, rfl, rfl, trivial⟩, ⟨rfl, rfl, rfl, trivial⟩, j + 1, by omega, hle7, (by rw [hfs]; rfl), rfl, ?_⟩
     trivial
    ·
     have hge2 := of_decide_eq_false hb7
     have hF1 : faultsTo ps bs (i + 1) = faultsTo ps bs i ++ ((textF ps bs i).take j).map fun t => (k, t) := by rw [faultsTo, hkd, List.take_of_length_le (by omega)]
     have hF2 : (faultsTo ps bs (i + 1)).length = (faultsTo ps bs i).length + j := by rw [hF1, List.length_append, List.length_map, List.length_take]; omega
     refine Zat ?_
     refine Zp (Zp ?_)
     refine Zah ?_
     refine Zaf (Zb (Za (Zf (Zas rfl rfl rfl (Zu (by omega))) rfl ?_)))
     refine ym rfl rfl (Zd (ρ' := [(1, _), (3, _), (4, _), (10, _), (11, _), (12, _)]) ⟨rfl, rfl, rfl, rfl, rfl, rfl, trivial⟩ ?_)
     refine Zae ?_
     refine ⟨m - 1, [(1, _), (3, _), (4, _), (10, _), (11, _), (12, _)], [(1, _), (10, _), (503, _)], by omega, ⟨rfl, rfl, rfl, rfl, rfl, rfl, trivial⟩, ⟨rfl, rfl, rfl, trivial⟩, i + 1, by omega, (hle4.trans (hleT.trans hle7)), (by rw [hF1, ← hF2, hF1]), rfl, ?_⟩
     trivial
  ·
   have hge := of_decide_eq_false hb4
   refine Zat ?_
   refine Zp (Zp ?_)
   refine Zah ?_
   refine Zb (Zc (Za (ym rfl rfl ?_)))
   refine Zbm 503 rfl ?_
   intro ad503 cap503 u503 hle503z hsl503
   refine ya rfl rfl (Zd (ρ' := [(2, _)]) ⟨rfl, trivial⟩ ?_)
   refine Zb (Zv ?_)
   refine Zav (.tmp rfl) ?_
   have e : i = 8 := by omega
   subst e
   exact ⟨_, _, rfl, hsl503⟩
theorem cloneInlW_fn (v : Value) (n : Nat) (cs : List Value) (hn : n ≤ 1000000) (oneAll : cs.all Value.oneCell' = true) (u : View) (h : IsSl u v n 10 cs) :
  FnO Tryz.prog 70 [v] u [] fun r u' l' => ∃ ad cap, r = .slice ad n cap ∧ l' = [(none, .rwv (.slice ad n cap) 45 10 n cs)] := by
 obtain ⟨ad, cap, rfl, h1⟩ := h
 refine FnO.intro [.tmp 2] Tryz.func70 rfl rfl rfl ?_
 intro w0 D hw0
 refine Zc (Za (ya rfl rfl (Zd (ρ' := [(0, _)]) ⟨rfl, trivial⟩ ?_)))
 refine Zb (Zc (Zc (Za (ym rfl rfl (Zf (y_eql_nil rfl Tryz.s37 rfl rfl) rfl ?_)))))
 refine Zd (ρ' := [(0, _), (4, _)]) ⟨rfl, rfl, trivial⟩ ?_
 refine Zb ?_
 refine Zn rfl (fun hb1 => ?_) (fun hb1 => ?_)
 ·
  refine Zc (Za (ya rfl rfl ?_))
  refine rl_nilW 600 45 10 rfl rfl ?_
  refine Zd (ρ' := [(2, _)]) ⟨rfl, trivial⟩ ?_
  refine Zb (Zv (Zh ?_))
  refine finO1 [600] (.tmp rfl) rfl rfl ?_
  have h := hb1
  have h0 : n = 0 := by
   cases Nat.eq_zero_or_pos n with
   | inl h => exact h
   | inr hp => obtain ⟨b, off, c, T, fr, rfl, _⟩ := h1.2.2.2 (by omega); cases h
  subst h0
  have := h1.1
  rw [Nat.zero_mul] at this
  obtain rfl := List.eq_nil_of_length_eq_zero this
  exact ⟨none, 0, rfl, rfl⟩
 ·
  refine Zs (Zb (Zc (Za (Zq rfl rfl ?_))))
  refine Zac trivial Tryz.s37 Tryz.z45 (ps := []) rfl (xs := []) rfl rfl rfl rfl rfl rfl rfl ?_
  refine ym rfl rfl (Zq rfl rfl ?_)
  refine Zbx trivial rfl rfl Tryz.s37 Tryz.z45 rfl rfl rfl rfl rfl (by assumption) (by first | rfl | assumption | simp [Value.oneCell', str]) (by omega) (by omega) (ρ' := []) trivial rfl rfl rfl ?_
  refine rl_expose 7 rfl ?_
  intro v7
  refine Zch 7 600 rfl rfl rfl ?_
  refine rl_shape 600 rfl ?_
  rintro ad7 cap7 rfl
  rw [Nat.zero_add, List.nil_append]
  refine ya rfl rfl (Zd (ρ' := [(2, _)]) ⟨rfl, trivial⟩ ?_)
  refine Zb (Zv ?_)
  refine finO1 [600] (.tmp rfl) rfl rfl ?_
  exact ⟨_, _, rfl, rfl⟩
theorem clonePrW_fn (v : Value) (n : Nat) (cs : List Value) (hn : n ≤ 1000000) (oneAll : cs.all Value.oneCell' = true) (u : View) (h : IsSl u v n 2 cs) :
  FnO Tryz.prog 17 [v] u [] fun r u' l' => ∃ ad cap, r = .slice ad n cap ∧ l' = [(none, .rwv (.slice ad n cap) 49 2 n cs)] := by
 obtain ⟨ad, cap, rfl, h1⟩ := h
 refine FnO.intro [.tmp 2] Tryz.func17 rfl rfl rfl ?_
 intro w0 D hw0
 refine Zc (Za (ya rfl rfl (Zd (ρ' := [(0, _)]) ⟨rfl, trivial⟩ ?_)))
 refine Zb (Zc (Zc (Za (ym rfl rfl (Zf (y_eql_nil rfl Tryz.s22 rfl rfl) rfl ?_)))))
 refine Zd (ρ' := [(0, _), (4, _)]) ⟨rfl, rfl, trivial⟩ ?_
 refine Zb ?_
 refine Zn rfl (fun hb1 => ?_) (fun hb1 => ?_)
 ·
  refine Zc (Za (ya rfl rfl ?_))
  refine rl_nilW 600 49 2 rfl rfl ?_
  refine Zd (ρ' := [(2, _)]) ⟨rfl, trivial⟩ ?_
  refine Zb (Zv (Zh ?_))
  refine finO1 [600] (.tmp rfl) rfl rfl ?_
  have h := hb1
  have h0 : n = 0 := by
   cases Nat.eq_zero_or_pos n with
   | inl h => exact h
   | inr hp => obtain ⟨b, off, c, T, fr, rfl, _⟩ := h1.2.2.2 (by omega); cases h
  subst h0
  have := h1.1
  rw [Nat.zero_mul] at this
  obtain rfl := List.eq_nil_of_length_eq_zero this
  exact ⟨none, 0, rfl, rfl⟩
 ·
  refine Zs (Zb (Zc (Za (Zq rfl rfl ?_))))
  refine Zac trivial Tryz.s22 Tryz.z49 (ps := []) rfl (xs := []) rfl rfl rfl rfl rfl rfl rfl ?_
  refine ym rfl rfl (Zq rfl rfl ?_)
  refine Zbx trivial rfl rfl Tryz.s22 Tryz.z49 rfl rfl rfl rfl rfl (by assumption) (by first | rfl | assumption | simp [Value.oneCell', str]) (by omega) (by omega) (ρ' := []) trivial rfl rfl rfl ?_
  refine rl_expose 7 rfl ?_
  intro v7
  refine Zch 7 600 rfl rfl rfl ?_
  refine rl_shape 600 rfl ?_
  rintro ad7 cap7 rfl
  rw [Nat.zero_add, List.nil_append]
  refine ya rfl rfl (Zd (ρ' := [(2, _)]) ⟨rfl, trivial⟩ ?_)
  refine Zb (Zv ?_)
  refine finO1 [600] (.tmp rfl) rfl rfl ?_
  exact ⟨_, _, rfl, rfl⟩
theorem cloneBlkW_fn (v : Value) (n : Nat) (cs : List Value) (hn : n ≤ 1000000) (oneAll : cs.all Value.oneCell' = true) (u : View) (h : IsSl u v n 11 cs) :
  FnO Tryz.prog 35 [v] u [] fun r u' l' => ∃ ad cap, r = .slice ad n cap ∧ l' = [(none, .rwv (.slice ad n cap) 39 11 n cs)] := by
 obtain ⟨ad, cap, rfl, h1⟩ := h
 refine FnO.intro [.tmp 2] Tryz.func35 rfl rfl rfl ?_
 intro w0 D hw0
 refine Zc (Za (ya rfl rfl (Zd (ρ' := [(0, _)]) ⟨rfl, trivial⟩ ?_)))
 refine Zb (Zc (Zc (Za (ym rfl rfl (Zf (y_eql_nil rfl Tryz.s23 rfl rfl) rfl ?_)))))
 refine Zd (ρ' := [(0, _), (4, _)]) ⟨rfl, rfl, trivial⟩ ?_
 refine Zb ?_
 refine Zn rfl (fun hb1 => ?_) (fun hb1 => ?_)
 ·
  refine Zc (Za (ya rfl rfl ?_))
  refine rl_nilW 600 39 11 rfl rfl ?_
  refine Zd (ρ' := [(2, _)]) ⟨rfl, trivial⟩ ?_
  refine Zb (Zv (Zh ?_))
  refine finO1 [600] (.tmp rfl) rfl rfl ?_
  have h := hb1
  have h0 : n = 0 := by
   cases Nat.eq_zero_or_pos n with
   | inl h => exact h
   | inr hp => obtain ⟨b, off, c, T, fr, rfl, _⟩ := h1.2.2.2 (by omega); cases h
  subst h0
  have := h1.1
  rw [Nat.zero_mul] at this
  obtain rfl := List.eq_nil_of_length_eq_zero this
  exact ⟨none, 0, rfl, rfl⟩
 ·
  refine Zs (Zb (Zc (Za (Zq rfl rfl ?_))))
  refine Zac trivial Tryz.s23 Tryz.z39 (ps := []) rfl (xs := []) rfl rfl rfl rfl rfl rfl rfl ?_
  refine ym rfl rfl (Zq rfl rfl ?_)
  refine Zbx trivial rfl rfl Tryz.s23 Tryz.z39 rfl rfl rfl rfl rfl (by assumption) (by first | rfl | assumption | simp [Value.oneCell', str]) (by omega) (by omega) (ρ' := []) trivial rfl rfl rfl ?_
  refine rl_expose 7 rfl ?_
  intro v7
  refine Zch 7 600 rfl rfl rfl ?_
  refine rl_shape 600 rfl ?_
  rintro ad7 cap7 rfl
  rw [Nat.zero_add, List.nil_append]
  refine ya rfl rfl (Zd (ρ' := [(2, _)]) ⟨rfl, trivial⟩ ?_)
  refine Zb (Zv ?_)
  refine finO1 [600] (.tmp rfl) rfl rfl ?_
  exact ⟨_, _, rfl, rfl⟩
theorem pairsC_len (ps : List (Bs × Bs)) : (pairsC ps).length = ps.length * 2 := by
 induction ps with
 | nil => rfl
 | cons x l ih => simp only [pairsC, List.flatMap_cons, List.length_append] at ih ⊢; simp [ih]; omega
theorem setAt_one {cs : List Value} {o : Nat} {v : Value} (h : o < cs.length) : setAt cs o [v] = cs.set o v := by
 rw [setAt_cons cs o v [] h, setAt_eq _ _ _ (by simp; omega)]
 simp
theorem set_pairs2 {k v : Bs} : ∀ {ps : List (Bs × Bs)} {i : Nat} {x : Bs × Bs}, ps[i]? = some x → x.1 = k → (pairsC ps).set (i * 2 + 1) (str v) = pairsC (ps.set i (k, v))
 | [], i, x, h, _ => by simp at h
 | y :: ys, 0, x, h, hk => by
  simp at h; subst h
  simp [pairsC, hk]
 | y :: ys, i + 1, x, h, hk => by
  have ih := set_pairs2 (v := v) (ps := ys) (i := i) (x := x) (by simpa using h) hk
  have e : pairsC (y :: ys) = str y.1 :: str y.2 :: pairsC ys := rfl
  have e2 : pairsC ((y :: ys).set (i + 1) (k, v)) = str y.1 :: str y.2 :: pairsC (ys.set i (k, v)) := rfl
  rw [e2, ← ih, e, show (i + 1) * 2 + 1 = i * 2 + 1 + 1 + 1 by omega, List.set_cons_succ, List.set_cons_succ]
theorem set_pairs {k v : Bs} {ps : List (Bs × Bs)} {i : Nat} {x : Bs × Bs} (h : ps[i]? = some x) (hk : x.1 = k) : setAt (pairsC ps) (i * 2 + 1) [str v] = pairsC (ps.set i (k, v)) := by
 have hi := (List.getElem?_eq_some_iff.1 h).1
 rw [setAt_one (by rw [pairsC_len]; omega), set_pairs2 h hk]
theorem deco_fn (a : DAttr) (vc vp : Value) (hp : a.pairs.length ≤ 1000000) (hvc : Value.oneCell' vc = true) (hvp : Value.oneCell' vp = true) (u : View) :
  FnO Tryz.prog 72 [.agg #[str a.id, vc, vp]] u [(none, .rwv vp 49 2 a.pairs.length (pairsC a.pairs))] fun r u' l' =>
   ∃ vp', r = .tuple #[.agg #[str (decoA a).1.id, vc, vp'], .bool (decoA a).2] ∧ Value.oneCell' vp' = true ∧ (decoA a).1.classes = a.classes ∧ l' = [(none, .rwv vp' 49 2 (decoA a).1.pairs.length (pairsC (decoA a).1.pairs))] := by
 have hpl := pairsC_len a.pairs
 refine FnO.intro [.cell 2 36, .tmp 3] Tryz.func72 rfl rfl rfl ?_
 intro w0 D hw0
 refine Zc (Za (Zq rfl rfl ?_))
 refine Zbl trivial rfl (cs := [_, _, _]) rfl rfl rfl rfl ?_
 refine Zq rfl rfl ?_
 refine Zax trivial Tryz.z36 rfl rfl rfl ?_
 refine ya rfl rfl (Zd (ρ' := [(1, _), (2, _)]) ⟨rfl, rfl, trivial⟩ ?_)
 refine Zb (Zc (Za (Zf (Zi rfl Tryz.f36' rfl (by decide) rfl) rfl ?_)))
 refine Zf (Zj rfl Tryz.k22 rfl rfl rfl (vs := [_]) rfl rfl rfl) rfl ?_
 refine Zq rfl rfl ?_
 refine do_call_bw (caps := []) 1000 trivial rfl rfl Tryz.c42 rfl rfl ?_
 intro ub hleb hslb
 refine FnP.mono (index_fn (hasK roleS) vp a.pairs hp 99 [] Tryz.c99 ub (fun x ↦ deco1_fn ub x) hslb) ?_
 rintro v u1 hle1 ⟨z, rfl, hz⟩
 have hz := hz.key
 refine ya rfl rfl (Zd (ρ' := [(1, _), (2, _), (4, _)]) ⟨rfl, rfl, rfl, trivial⟩ ?_)
 refine Zb (Zc (Zaa (Zc (Za (ym rfl rfl (Zf (Zbw rfl rfl rfl) rfl ?_))))))
 refine ya rfl rfl (Zd (ρ' := [(1, _), (2, _), (4, _), (9, _)]) ⟨rfl, rfl, rfl, rfl, trivial⟩ ?_)
 refine Zb ?_
 refine Zn rfl (fun hb3 => ?_) (fun hb3 => ?_)
 ·
  obtain ⟨i, x, rfl, hg, hk, hv, hset⟩ : ∃ (i : Nat) (x : Bs × Bs), z = i ∧ a.pairs[i]? = some x ∧ x.1 = roleS ∧ getP roleS a.pairs = some x.2 ∧ ∀ v, setP roleS v a.pairs = a.pairs.set i (roleS, v) := by
   rcases hz with h | ⟨rfl, hn⟩
   ·
    exact h
   ·
    exact absurd (of_decide_eq_true hb3) (by decide)
  have hlt := (List.getElem?_eq_some_iff.1 hg).1
  refine Za (Zf (Zi rfl Tryz.f36' rfl (by decide) rfl) rfl ?_)
  refine Zf (Zj rfl Tryz.k22 rfl rfl rfl (vs := [_]) rfl rfl rfl) rfl ?_
  refine ym rfl rfl (Zf (Zbf 1000 rfl Tryz.s22 rfl rfl rfl (j := i) rfl hlt) rfl ?_)
  refine Zf (Zi rfl Tryz.f49' rfl (by decide) rfl) rfl ?_
  refine Zq rfl rfl ?_
  refine Zar trivial rfl Tryz.k9 rfl rfl rfl (vs := [_]) rfl rfl rfl (by rw [hpl]; show i * 2 + 1 + 1 ≤ _; omega) (set_pairs hg hk) ?_
  refine Zd (ρ' := [(1, _), (2, _)]) ⟨rfl, rfl, trivial⟩ ?_
  refine Zaf (Zb (Zc (Za (Zf (Zj rfl Tryz.k36 rfl rfl rfl (vs := [_, _, _]) rfl rfl rfl) rfl ?_))))
  refine Zq rfl rfl ?_
  refine Zt trivial rfl Tryz.k36 rfl rfl rfl (vs := [_, _, _]) rfl rfl (by simp only [List.all_cons, List.all_nil, hvc, hvp]; rfl) (Nat.le_of_ble_eq_true rfl) rfl ?_
  refine ya rfl rfl (Zd (ρ' := [(2, _), (3, _)]) ⟨rfl, rfl, trivial⟩ ?_)
  refine Zb (Zv ?_)
  refine finO2 [1000] (.cell rfl rfl Tryz.k36 (cs := _) (vs := [_, _, _]) rfl rfl rfl) (.tmp rfl) rfl rfl ?_
  have hs : (getP roleS a.pairs).isSome = true := by rw [hv]; rfl
  have e : decoA a = ({ a with pairs := setP roleS decoS a.pairs }, true) := if_pos hs
  rw [e]
  refine ⟨vp, rfl, hvp, rfl, ?_⟩
  rw [hset, List.length_set]; rfl
 ·
  have hn : getP roleS a.pairs = none := by
   rcases hz with ⟨i, x, rfl, _⟩ | ⟨rfl, hn⟩
   ·
    exact absurd (of_decide_eq_false hb3) (by omega)
   ·
    exact hn
  refine Zc (Za (Zf (Zi rfl Tryz.f36' rfl (by decide) rfl) rfl ?_))
  refine Zf (Zj rfl Tryz.k22 rfl rfl rfl (vs := [_]) rfl rfl rfl) rfl ?_
  refine Zf (y_len_w 1000 rfl rfl Tryz.s22 rfl rfl) rfl ?_
  refine Zf (Zbh rfl rfl rfl) rfl ?_
  refine ya rfl rfl (Zd (ρ' := [(1, _), (2, _), (17, _)]) ⟨rfl, rfl, rfl, trivial⟩ ?_)
  refine Zb ?_
  refine Zn rfl (fun hb5 => ?_) (fun hb5 => ?_)
  ·
   have h5 : a.pairs.length < 32 := by have := of_decide_eq_true hb5; omega
   refine Za (Zf (Zi rfl Tryz.f36' rfl (by decide) rfl) rfl ?_)
   refine Zf (Zj rfl Tryz.k22 rfl rfl rfl (vs := [_]) rfl rfl rfl) rfl ?_
   refine Zf (Zbe rfl Tryz.f49' Tryz.z49 (ps := [(_, _), (_, _)]) rfl (vs := [_, _]) rfl) rfl ?_
   refine Zq rfl rfl ?_
   refine Zac trivial Tryz.s22 Tryz.z49 (ps := [(_, _)]) rfl (xs := [_, _]) rfl rfl rfl rfl rfl rfl rfl ?_
   refine Zq rfl rfl ?_
   refine Zbd 1000 trivial rfl rfl Tryz.s22 Tryz.z49 rfl rfl rfl rfl rfl rfl rfl (by omega) (by omega) rfl rfl ?_
   intro ad6 cap6
   refine Zf (Zi rfl Tryz.f36' rfl (by decide) rfl) rfl ?_
   refine Zq rfl rfl ?_
   refine Zt trivial rfl Tryz.k22 rfl rfl rfl (vs := [_]) rfl rfl (by first | rfl | assumption | simp [Value.oneCell', str]) (Nat.le_of_ble_eq_true rfl) rfl ?_
   refine Zd (ρ' := [(1, _), (2, _)]) ⟨rfl, rfl, trivial⟩ ?_
   refine Zaf (Zb (Zc (Za (Zf (Zj rfl Tryz.k36 rfl rfl rfl (vs := [_, _, _]) rfl rfl rfl) rfl ?_))))
   refine Zq rfl rfl ?_
   refine Zt trivial rfl Tryz.k36 rfl rfl rfl (vs := [_, _, _]) rfl rfl (by simp only [List.all_cons, List.all_nil, hvc, hvp]; rfl) (Nat.le_of_ble_eq_true rfl) rfl ?_
   refine ya rfl rfl (Zd (ρ' := [(2, _), (3, _)]) ⟨rfl, rfl, trivial⟩ ?_)
   refine Zb (Zv ?_)
   refine finO2 [1000] (.cell rfl rfl Tryz.k36 (cs := _) (vs := [_, _, _]) rfl rfl rfl) (.tmp rfl) rfl rfl ?_
   have e : decoA a = ({ a with pairs := a.pairs ++ [(roleS, decoS)] }, true) := by unfold decoA; rw [if_neg (by rw [hn]; simp), if_pos h5]
   rw [e]
   refine ⟨_, rfl, rfl, rfl, ?_⟩
   simp [pairsC, roleS, decoS, str]
  ·
   have h5 : ¬ a.pairs.length < 32 := by have := of_decide_eq_false hb5; omega
   refine Zc (Za (Zf (Zj rfl Tryz.k36 rfl rfl rfl (vs := [_, _, _]) rfl rfl rfl) rfl ?_))
   refine Zq rfl rfl ?_
   refine Zt trivial rfl Tryz.k36 rfl rfl rfl (vs := [_, _, _]) rfl rfl (by simp only [List.all_cons, List.all_nil, hvc, hvp]; rfl) (Nat.le_of_ble_eq_true rfl) rfl ?_
   refine ya rfl rfl (Zd (ρ' := [(2, _), (3, _)]) ⟨rfl, rfl, trivial⟩ ?_)
   refine Zb (Zv (Zr (Zh ?_)))
   refine finO2 [1000] (.cell rfl rfl Tryz.k36 (cs := _) (vs := [_, _, _]) rfl rfl rfl) (.tmp rfl) rfl rfl ?_
   have e : decoA a = (a, false) := by unfold decoA; rw [if_neg (by rw [hn]; simp), if_neg h5]
   rw [e]
   exact ⟨vp, rfl, hvp, rfl, rfl⟩
theorem fill_fn (k x : Bs) (v : Value) (ps : List (Bs × Bs)) (hp : ps.length ≤ 1000000) (u : View) :
  FnO Tryz.prog 21 [v, str k, str x] u [(none, .rwv v 49 2 ps.length (pairsC ps))] fun r u' l' => l' = [(none, .rwv r 49 2 (fillM k x ps).length (pairsC (fillM k x ps)))] := by
 have hpl := pairsC_len ps
 refine FnO.intro [.tmp 6] Tryz.func21 rfl rfl rfl ?_
 intro w0 D hw0
 refine Zc (Za (Zq rfl rfl ?_))
 refine Zbl trivial rfl (cs := [_]) rfl rfl rfl rfl ?_
 refine ya rfl rfl (Zd (ρ' := [(0, _), (2, _), (4, _)]) ⟨rfl, rfl, rfl, trivial⟩ ?_)
 refine Zb (Zc (Zc (Za (ym rfl rfl (Zf (Zj rfl Tryz.k9 rfl rfl rfl (vs := [_]) rfl rfl rfl) rfl ?_)))))
 refine Zq rfl rfl ?_
 refine do_call_bw (caps := []) 1000 trivial rfl rfl Tryz.c41 rfl rfl ?_
 intro ub hleb hslb
 refine FnP.mono (meta_fn k v ps hp ub hslb) ?_
 rintro v u1 hle1 rfl
 refine Zd (ρ' := [(0, _), (2, _), (4, _), (10, _)]) ⟨rfl, rfl, rfl, rfl, trivial⟩ ?_
 refine Zb ?_
 refine Zn rfl (fun hb1 => ?_) (fun hb1 => ?_)
 ·
  have h1 : hasM k ps = true := (by simpa using hb1)
  refine Zc (Za (ym rfl rfl (ya rfl rfl (Zd (ρ' := [(6, _)]) ⟨rfl, trivial⟩ ?_))))
  refine Zb (Zv (Zh ?_))
  refine finO1 [1000] (.tmp rfl) rfl rfl ?_
  rw [show fillM k x ps = ps from if_pos h1]
 ·
  have h1 : ¬ hasM k ps = true := (by simpa using hb1)
  refine Zs (Zb (Zc (Za (ym rfl rfl ?_))))
  refine rl_name 4 rfl ⟨4, _, .inl rfl⟩ ?_
  intro b4
  refine Zf (y_makeFunc rfl rfl rfl) rfl ?_
  refine rl_reveal 4 rfl ?_
  intro b4 T4 u4 hle4z hu4 hpn4
  obtain rfl := hpn4 _ rfl
  refine Zq rfl rfl ?_
  refine do_call_bw (caps := []) 1000 trivial rfl rfl Tryz.c42 rfl rfl ?_
  intro ub hleb hslb
  refine FnP.mono (index_fn (hasK k) v ps hp 43 [.pointer (some ⟨b4, 0, none⟩)] Tryz.c43 ub (fun y ↦ fill1_fn k b4 ub _ _ (hleb _ _ hu4) y) hslb) ?_
  rintro v u1 hle1 ⟨z, rfl, hz⟩
  have hz := hz.key
  refine ya rfl rfl (Zd (ρ' := [(0, _), (2, _), (4, _), (7, _)]) ⟨rfl, rfl, rfl, rfl, trivial⟩ ?_)
  refine Zb (Zc (Zc (Za (ym rfl rfl (Zf (Zbw rfl rfl rfl) rfl ?_)))))
  refine Zd (ρ' := [(0, _), (2, _), (4, _), (7, _), (16, _)]) ⟨rfl, rfl, rfl, rfl, rfl, trivial⟩ ?_
  refine Zb ?_
  refine Zn rfl (fun hb4 => ?_) (fun hb4 => ?_)
  ·
   obtain ⟨i, y, rfl, hg, hk, hv, hset⟩ : ∃ (i : Nat) (y : Bs × Bs), z = i ∧ ps[i]? = some y ∧ y.1 = k ∧ getP k ps = some y.2 ∧ ∀ v, setP k v ps = ps.set i (k, v) := by
    rcases hz with h | ⟨rfl, hn⟩
    ·
     exact h
    ·
     exact absurd (of_decide_eq_true hb4) (by decide)
   have hlt := (List.getElem?_eq_some_iff.1 hg).1
   refine Za (ym rfl rfl (ym rfl rfl (ym rfl rfl (Zf (Zbf 1000 rfl Tryz.s22 rfl rfl rfl (j := i) rfl hlt) rfl ?_))))
   refine Zf (Zi rfl Tryz.f49' rfl (by decide) rfl) rfl ?_
   refine Zq rfl rfl ?_
   refine Zar trivial rfl Tryz.k9 rfl rfl rfl (vs := [_]) rfl rfl rfl (by rw [hpl]; show i * 2 + 1 + 1 ≤ _; omega) (set_pairs hg hk) ?_
   refine Zd (ρ' := [(0, _)]) ⟨rfl, trivial⟩ ?_
   refine Zb (Zc (Za (ym rfl rfl (ya rfl rfl (Zd (ρ' := [(6, _)]) ⟨rfl, trivial⟩ ?_)))))
   refine Zb (Zv ?_)
   refine finO1 [1000] (.tmp rfl) rfl rfl ?_
   unfold fillM
   rw [if_neg h1]
   first
    | (rw [if_pos (show (getP k ps).isSome = true by rw [hv]; rfl), hset, List.length_set]; done)
    | (rw [if_neg (show ¬ (getP k ps).isSome = true by rw [hn]; simp), if_pos h5]; simp [pairsC]; done)
    | (rw [if_neg (show ¬ (getP k ps).isSome = true by rw [hn]; simp), if_neg h5]; done)
  ·
   have hn : getP k ps = none := by
    rcases hz with ⟨i, y, rfl, _⟩ | ⟨rfl, hn⟩
    ·
     exact absurd (of_decide_eq_false hb4) (by omega)
    ·
     exact hn
   refine Zc (Za (ym rfl rfl (Zf (y_len_w 1000 rfl rfl Tryz.s22 rfl rfl) rfl ?_)))
   refine Zf (Zbh rfl rfl rfl) rfl ?_
   refine Zd (ρ' := [(0, _), (2, _), (4, _), (24, _)]) ⟨rfl, rfl, rfl, rfl, trivial⟩ ?_
   refine Zb ?_
   refine Zn rfl (fun hb6 => ?_) (fun hb6 => ?_)
   ·
    have h5 : ps.length < 64 := by have := of_decide_eq_true hb6; omega
    refine Za (ym rfl rfl (Zf (y_load_v rfl Tryz.k9 rfl (by assumption) (vs := [_]) (by first | rfl | exact hP | exact cut_at hP rfl (Nat.le_of_ble_eq_true rfl) rfl) rfl rfl) rfl ?_))
    refine ym rfl rfl (Zf (Zbe rfl Tryz.f49' Tryz.z49 (ps := [(_, _), (_, _)]) rfl (vs := [_, _]) rfl) rfl ?_)
    refine Zq rfl rfl ?_
    refine Zac trivial Tryz.s22 Tryz.z49 (ps := [(_, _)]) rfl (xs := [_, _]) rfl rfl rfl rfl rfl rfl rfl ?_
    refine Zq rfl rfl ?_
    refine Zbd 1000 trivial rfl rfl Tryz.s22 Tryz.z49 rfl rfl rfl rfl rfl rfl rfl (by omega) (by omega) rfl rfl ?_
    intro ad6 cap6
    refine ya rfl rfl (Zd (ρ' := [(0, _)]) ⟨rfl, trivial⟩ ?_)
    refine Zb (Zc (Za (ym rfl rfl (ya rfl rfl (Zd (ρ' := [(6, _)]) ⟨rfl, trivial⟩ ?_)))))
    refine Zb (Zv ?_)
    refine finO1 [1000] (.tmp rfl) rfl rfl ?_
    unfold fillM
    rw [if_neg h1]
    first
     | (rw [if_pos (show (getP k ps).isSome = true by rw [hv]; rfl), hset, List.length_set]; done)
     | (rw [if_neg (show ¬ (getP k ps).isSome = true by rw [hn]; simp), if_pos h5]; simp [pairsC]; done)
     | (rw [if_neg (show ¬ (getP k ps).isSome = true by rw [hn]; simp), if_neg h5]; done)
   ·
    have h5 : ¬ ps.length < 64 := by have := of_decide_eq_false hb6; omega
    refine Zs (Zb (Zc (Za (ym rfl rfl (ya rfl rfl (Zd (ρ' := [(6, _)]) ⟨rfl, trivial⟩ ?_))))))
    refine Zb (Zv ?_)
    refine finO1 [1000] (.tmp rfl) rfl rfl ?_
    unfold fillM
    rw [if_neg h1]
    first
     | (rw [if_pos (show (getP k ps).isSome = true by rw [hv]; rfl), hset, List.length_set]; done)
     | (rw [if_neg (show ¬ (getP k ps).isSome = true by rw [hn]; simp), if_pos h5]; simp [pairsC]; done)
     | (rw [if_neg (show ¬ (getP k ps).isSome = true by rw [hn]; simp), if_neg h5]; done)
theorem mergedInl_fn (k : Int) (t d ti : Bs) (a : DAttr) (args : List Bs) (cites : List DCite) (kids : List Inl) (cs : List Value) (u : View) (hx : InlC u (.mk k t d ti a args cites kids) cs) (hsm : smI1 (.mk k t d ti a args cites kids)) (hml : (mg none kids).length ≤ 100000)
  (ih : ∀ (v : Value) (u' : View), VLe u u' → InlS u' v kids → FnP Tryz.prog 38 [v] u' fun r u'' => InlS u'' r (mg none kids)) :
  FnP Tryz.prog 73 [.agg cs.toArray] u fun r u' => ∃ vc vp va vt vk, r = .agg #[.int .i64 k, str t, str d, str ti, str a.id, vc, vp, va, vt, vk] ∧ StrS u' vc a.classes ∧ PrS u' vp a.pairs ∧ StrS u' va args ∧ CiS u' vt cites ∧ InlS u' vk (mg none kids) ∧ InlOk (.mk k t d ti a args cites (mg none kids)) := by
 have oneAll := hx.one
 obtain ⟨vc, vp, va, vt, vk, rfl, q1, q2, q3, q4, q5, hok⟩ := hx.cells
 unfold smI1 NodeSm at hsm
 refine FnP.intro [.cell 2 45] Tryz.func73 rfl rfl rfl ?_
 intro w0 D hw0
 refine Zc (Za (Zq rfl rfl ?_))
 refine Zbl trivial rfl (cs := [_, _, _, _, _, _, _, _, _, _]) rfl rfl rfl rfl ?_
 refine Zq rfl rfl ?_
 refine Zax trivial Tryz.z45 rfl rfl rfl ?_
 refine Zd (ρ' := [(1, _), (2, _)]) ⟨rfl, rfl, trivial⟩ ?_
 refine Zb (Zc (Za (Zf (Zi rfl Tryz.f45' rfl (by decide) rfl) rfl ?_)))
 refine Zf (Zj rfl Tryz.k36 rfl rfl rfl (vs := [_, _, _]) rfl rfl rfl) rfl ?_
 refine Zq rfl rfl ?_
 refine Zbb (caps := []) trivial rfl rfl Tryz.c100 rfl (FnP.mono (copyAttr_fn a vc vp u (by omega) (by omega) q1 q2) ?_)
 rintro v uA hle0 ⟨_, _, rfl, ⟨ad1, cap1, rfl, hc2⟩, ⟨ad2, cap2, rfl, hp2⟩⟩ hleA
 refine Zf (Zi rfl Tryz.f45' rfl (by decide) rfl) rfl ?_
 refine Zq rfl rfl ?_
 refine Zt trivial rfl Tryz.k36 rfl rfl rfl (vs := [_, _, _]) rfl rfl (by first | rfl | assumption | simp [Value.oneCell', str]) (Nat.le_of_ble_eq_true rfl) rfl ?_
 refine Zd (ρ' := [(1, _), (2, _)]) ⟨rfl, rfl, trivial⟩ ?_
 refine Zb (Zc (Za (Zf (Zi rfl Tryz.f45' rfl (by decide) rfl) rfl ?_)))
 refine Zf (Zj rfl Tryz.k34 rfl rfl rfl (vs := [_]) rfl rfl rfl) rfl ?_
 refine Zq rfl rfl ?_
 refine Zbb (caps := []) trivial rfl rfl Tryz.c36 rfl (FnP.mono (cloneStr_fn va args (by omega) uA (q3.mono hleA)) ?_)
 rintro v uB hle0 ⟨ad3, cap3, rfl, hs2⟩ hleB
 refine Zf (Zi rfl Tryz.f45' rfl (by decide) rfl) rfl ?_
 refine Zq rfl rfl ?_
 refine Zt trivial rfl Tryz.k34 rfl rfl rfl (vs := [_]) rfl rfl (by first | rfl | assumption | simp [Value.oneCell', str]) (Nat.le_of_ble_eq_true rfl) rfl ?_
 refine Zd (ρ' := [(1, _), (2, _)]) ⟨rfl, rfl, trivial⟩ ?_
 refine Zb (Zc (Za (Zf (Zi rfl Tryz.f45' rfl (by decide) rfl) rfl ?_)))
 refine Zf (Zj rfl Tryz.k43 rfl rfl rfl (vs := [_]) rfl rfl rfl) rfl ?_
 refine Zq rfl rfl ?_
 refine Zbb (caps := []) trivial rfl rfl Tryz.c71 rfl (FnP.mono (cloneCi_fn vt cites (by omega) uB ((q4.mono hleA).mono hleB)) ?_)
 rintro v uC hle0 ⟨ad4, cap4, rfl, ht2⟩ hleC
 refine Zf (Zi rfl Tryz.f45' rfl (by decide) rfl) rfl ?_
 refine Zq rfl rfl ?_
 refine Zt trivial rfl Tryz.k43 rfl rfl rfl (vs := [_]) rfl rfl (by first | rfl | assumption | simp [Value.oneCell', str]) (Nat.le_of_ble_eq_true rfl) rfl ?_
 refine Zd (ρ' := [(1, _), (2, _)]) ⟨rfl, rfl, trivial⟩ ?_
 refine Zb (Zc (Za (Zf (Zi rfl Tryz.f45' rfl (by decide) rfl) rfl ?_)))
 refine Zf (Zj rfl Tryz.k37 rfl rfl rfl (vs := [_]) rfl rfl rfl) rfl ?_
 refine Zq rfl rfl ?_
 refine Zbb (caps := []) trivial rfl rfl Tryz.c38 rfl (FnP.mono (ih vk uC ((hleA.trans hleB).trans hleC) (((q5.mono hleA).mono hleB).mono hleC)) ?_)
 rintro v uD hle0 ⟨kcs, ⟨kad, kcap, rfl, hk1⟩, hk2⟩ hleD
 refine Zf (Zi rfl Tryz.f45' rfl (by decide) rfl) rfl ?_
 refine Zq rfl rfl ?_
 refine Zt trivial rfl Tryz.k37 rfl rfl rfl (vs := [_]) rfl rfl (by first | rfl | assumption | simp [Value.oneCell', str]) (Nat.le_of_ble_eq_true rfl) rfl ?_
 refine Zd (ρ' := [(1, _), (2, _)]) ⟨rfl, rfl, trivial⟩ ?_
 refine Zb (Zc (Za (Zf (Zj rfl Tryz.k45 rfl rfl rfl (vs := [_, _, _, _, _, _, _, _, _, _]) rfl rfl rfl) rfl ?_)))
 refine Zq rfl rfl ?_
 refine Zt trivial rfl Tryz.k45 rfl rfl rfl (vs := [_, _, _, _, _, _, _, _, _, _]) rfl rfl (by first | rfl | assumption | simp [Value.oneCell', str]) (Nat.le_of_ble_eq_true rfl) rfl ?_
 refine Zd (ρ' := [(2, _)]) ⟨rfl, trivial⟩ ?_
 refine Zb (Zv ?_)
 refine Zav (.cell rfl rfl Tryz.k45 (cs := _) (vs := [_, _, _, _, _, _, _, _, _, _]) rfl rfl rfl) ?_
 unfold InlOk at hok ⊢
 exact ⟨_, _, _, _, _, rfl, ⟨_, _, rfl, ((hc2.mono hleB).mono hleC).mono hleD⟩, ⟨_, _, rfl, ((hp2.mono hleB).mono hleC).mono hleD⟩, ⟨_, _, rfl, (hs2.mono hleC).mono hleD⟩, ⟨_, _, rfl, ht2.mono hleD⟩, ⟨kcs, ⟨_, _, rfl, hk1⟩, hk2⟩, hok.1, hok.2.1, hok.2.2.1, hok.2.2.2.1, hok.2.2.2.2.1, hok.2.2.2.2.2.1, hok.2.2.2.2.2.2.1, by omega⟩
theorem mg_len : ∀ (xs : List Inl) (p : Option Inl), (mg p xs).length ≤ xs.length + p.toList.length
 | [], p => by simp [mg]
 | x :: xs, p => by
  rw [mg]
  split
  ·
   have := mg_len xs (addT p (mg1 x))
   have h2 : (addT p (mg1 x)).toList.length ≤ 1 := by cases addT p (mg1 x) <;> simp
   simp only [List.length_cons] at this ⊢
   omega
  ·
   have := mg_len xs none
   simp only [List.length_append, List.length_cons, Option.toList_none, List.length_nil] at this ⊢
   omega
theorem setT_self (x : Inl) : setT x (txtI x) = x := by cases x; rfl
theorem setT_setT (x : Inl) (s t : Bs) : setT (setT x s) t = setT x t := by cases x; rfl
def pk (xs : List Inl) (kz : Option Nat) (L : Bs) : Option Inl := match kz with
 | none => none
 | some n => (xs[n]?).map fun x => setT (mg1 x) L
def kzI : Option Nat → Int
 | none => -1
 | some n => n
theorem mg_text {xs : List Inl} {i : Nat} {x : Inl} (h : xs[i]? = some x) (hk : kindI x = 1) (p : Option Inl) : mg p (xs.drop i) = mg (addT p (mg1 x)) (xs.drop (i + 1)) := by
 obtain ⟨hlt, rfl⟩ := List.getElem?_eq_some_iff.1 h
 rw [List.drop_eq_getElem_cons hlt, mg, if_pos hk]
theorem mg_other {xs : List Inl} {i : Nat} {x : Inl} (h : xs[i]? = some x) (hk : ¬ kindI x = 1) (p : Option Inl) : mg p (xs.drop i) = p.toList ++ mg1 x :: mg none (xs.drop (i + 1)) := by
 obtain ⟨hlt, rfl⟩ := List.getElem?_eq_some_iff.1 h
 rw [List.drop_eq_getElem_cons hlt, mg, if_neg hk]
theorem mg_stop {xs : List Inl} {i : Nat} (h : ∀ x, xs[i]? = some x → ¬ kindI x = 1) (p : Option Inl) : mg p (xs.drop i) = p.toList ++ mg none (xs.drop i) := by
 cases hx : xs[i]? with
 | none =>
  rw [List.drop_eq_nil_of_le (by simpa using hx), mg, mg]; simp
 | some x => rw [mg_other hx (h x hx), mg_other hx (h x hx)]; simp
def kindAt (xs : List Inl) (n : Nat) : Int := match xs[n]? with
 | some x => kindI x
 | none => 0
theorem kindAt_some {xs : List Inl} {n : Nat} {x : Inl} (h : xs[n]? = some x) : kindAt xs n = kindI x := by unfold kindAt; rw [h]
theorem add_first {xs : List Inl} {i : Nat} {x : Inl} (h : xs[i]? = some x) (ht : txtI x ≠ []) : addT (pk xs none []) (mg1 x) = pk xs (some i) (txtI x) := by
 simp only [pk, h, Option.map_some, addT]
 rw [txt_mg1, if_neg ht, ← txt_mg1, setT_self]
theorem add_none {xs : List Inl} {x : Inl} (ht : txtI x = []) : addT (pk xs none []) (mg1 x) = pk xs none ([] ++ txtI x) := by
 simp only [pk, addT]
 rw [txt_mg1, if_pos ht]
theorem add_more {xs : List Inl} {n : Nat} {x y : Inl} {L : Bs} (h : xs[n]? = some y) : addT (pk xs (some n) L) (mg1 x) = pk xs (some n) (L ++ txtI x) := by
 simp only [pk, h, Option.map_some, addT, txt_setT, setT_setT, txt_mg1]
theorem txI_at {B : Nat} {xs : List Inl} {i : Nat} {x : Inl} (h : txI B xs) (hg : xs[i]? = some x) : (txtI x).length ≤ B := by
 have := txI_get h hg
 obtain ⟨k, t, d, ti, a, args, cites, kids⟩ := x
 unfold txI1 at this
 exact this.1
theorem inlsC_snoc {u : View} {out : List Inl} {acc cs : List Value} {y : Inl} (h : InlsC u out acc) (hy : InlC u y cs) : InlsC u (out ++ [y]) (acc ++ cs) := h.append (InlsC.one hy)
set_option maxHeartbeats 4000000 in
theorem merge_fn (n : Nat) : ∀ (v : Value) (xs : List Inl) (u : View), szI xs ≤ n → szI xs ≤ 1000 → smI xs → InlS u v xs →
  FnP Tryz.prog 38 [v] u fun r u' => InlS u' r (mg none xs) := by
 induction n using Nat.strongRecOn with
 | _ n ih =>
 intro v xs u hsz hbig hsm ha
 have hlx := len_szI xs
 have htx := aI_tx xs hsm
 obtain ⟨cs, ⟨ad, cap, rfl, h1⟩, hc1⟩ := ha
 have hml := mg_len xs none
 refine FnP.intro [.tmp 2] Tryz.func38 rfl rfl rfl ?_
 intro w0 D hw0
 refine Zc (Za (ya rfl rfl (Zd (ρ' := [(0, _)]) ⟨rfl, trivial⟩ ?_)))
 refine Zb (Zc (Za (ya rfl rfl ?_)))
 refine Zbz 3 503 45 10 rfl rfl rfl ?_
 refine Zd (ρ' := [(0, _), (3, _)]) ⟨rfl, rfl, trivial⟩ ?_
 refine Zb (Zc (Zc (Za (ya rfl rfl (Zd (ρ' := [(0, _), (3, _), (4, _)]) ⟨rfl, rfl, rfl, trivial⟩ ?_)))))
 refine Zb (Zaa ?_)
 refine Zau (fun m ρ σ u' => ∃ i : Nat, i + m = xs.length ∧ VLe u u' ∧ ∃ (out : List Inl) (acc : List Value), σ = [(503, (none, .row 45 10 out.length acc))] ∧ ρ = [(0, .v (.slice ad xs.length cap)), (3, .s 503), (4, .v (.int .i64 i))] ∧ (InlsC u' out acc ∧ mg none xs = out ++ mg none (xs.drop i) ∧ out.length ≤ i)) (xs.length) ?_ ?_
 ·
  refine ⟨[(0, _), (3, _), (4, _)], [(503, _)], ⟨rfl, rfl, rfl, trivial⟩, ⟨rfl, trivial⟩, 0, by omega, VLe.refl _, [], [], rfl, rfl, ?_⟩
  exact ⟨InlsC.nil, rfl, Nat.le_refl _⟩
 ·
  rintro m ρ σ uo ⟨i, hi3, hle3, out, acc, rfl, rfl, hacc, hout, hol⟩
  refine Zc (Zc (Za (ym rfl rfl (ym rfl rfl (Zf (Zal rfl rfl Tryz.s37 rfl) rfl ?_)))))
  refine Zf (Zbh rfl rfl rfl) rfl ?_
  refine Zd (ρ' := [(0, _), (3, _), (4, _), (11, _)]) ⟨rfl, rfl, rfl, rfl, trivial⟩ ?_
  refine Zb ?_
  refine Zn rfl (fun hb3 => ?_) (fun hb3 => ?_)
  ·
   have hlt : i < xs.length := (by have := of_decide_eq_true hb3; omega)
   refine Zs (Zb (Zaa (Zc (Zc ?_))))
   have h1 := h1.mono hle3
   have hc1 := hc1.mono hle3
   obtain ⟨k, t, d, ti, a, args, cites, kids, vc, vp, va, vt, vk, hg, hcut1, s1, s2, s3, s4, s5, hok⟩ := hc1.at hlt
   have hx := hc1.get i _ hg
   rw [hcut1] at hx
   have oneAll := hx.one
   have hsm1 := smI_get hsm hg
   have hsmk := hsm1
   unfold smI1 at hsmk
   have hszk := szI_kids hg
   have hlk := len_szI kids
   have hmk := mg_len kids none
   refine Za (ym rfl rfl (ym rfl rfl (Zf (Zai rfl Tryz.s37 rfl rfl (by assumption) (by first | rfl | omega) (by omega)) rfl ?_)))
   refine Zf (Zap rfl Tryz.f45' rfl (by decide) rfl) rfl ?_
   refine Zf (Zag rfl Tryz.k3 rfl (by assumption) (by omega) (by assumption) (vs := [_]) rfl rfl rfl rfl) rfl ?_
   refine Zf (Zcc rfl rfl rfl) rfl ?_
   refine Zd (ρ' := [(0, _), (3, _), (4, _), (17, _)]) ⟨rfl, rfl, rfl, rfl, trivial⟩ ?_
   refine Zb ?_
   refine Zn rfl (fun hb4 => ?_) (fun hb4 => ?_)
   ·
    have hk : ¬ kindI (.mk k t d ti a args cites kids) = 1 := of_decide_eq_true hb4
    have hst := mg_other hg hk none
    rw [hst] at hout
    refine Zc (Za (ym rfl rfl (ym rfl rfl (ym rfl rfl (Zf (Zai rfl Tryz.s37 rfl rfl (by assumption) (by first | rfl | omega) (by omega)) rfl ?_)))))
    refine Zf (Zag rfl Tryz.k45 rfl (by assumption) (by omega) (by assumption) (vs := [_, _, _, _, _, _, _, _, _, _]) rfl rfl rfl rfl) rfl ?_
    refine Zq rfl rfl ?_
    refine Zbb (caps := []) trivial rfl rfl Tryz.c73 rfl (FnP.mono (mergedInl_fn k t d ti a args cites kids _ uo hx hsm1 (by simp at hmk; omega) (fun v u' hle hv ↦ ih (szI kids) (by omega) v kids u' (Nat.le_refl _) (by omega) hsmk.2 hv)) ?_)
    rintro v uM hle0 ⟨vc2, vp2, va2, vt2, vk2, rfl, w1, w2, w3, w4, w5, w6⟩ hleM
    have hnew := InlC.mk' w1 w2 w3 w4 w5 w6
    have oneAll2 := hnew.one
    refine Zq rfl rfl ?_
    refine Zac trivial Tryz.s37 Tryz.z45 (ps := [(_, _)]) rfl (xs := [_, _, _, _, _, _, _, _, _, _]) rfl rfl rfl rfl rfl rfl rfl ?_
    refine Zq rfl rfl ?_
    refine Zbr trivial rfl rfl Tryz.s37 Tryz.z45 rfl rfl rfl rfl rfl rfl (by first | rfl | assumption | simp [Value.oneCell', str]) (by omega) (by omega) (ρ' := [(0, _), (4, _)]) ⟨rfl, rfl, trivial⟩ rfl rfl rfl ?_
    refine ya rfl rfl ?_
    refine Zch 25 503 rfl rfl rfl ?_
    refine Zd (ρ' := [(0, _), (3, _), (4, _)]) ⟨rfl, rfl, rfl, trivial⟩ ?_
    refine Zb (Zc (Za (ym rfl rfl (Zf (Zas rfl rfl rfl (Zu (by omega))) rfl ?_))))
    refine ya rfl rfl (Zd (ρ' := [(0, _), (3, _), (4, _)]) ⟨rfl, rfl, rfl, trivial⟩ ?_)
    refine Zb ?_
    refine Zat ?_
    refine Zp ?_
    refine Zah ?_
    refine Zae ?_
    first
    | (refine ⟨m - 1, [(0, _), (3, _), (4, _)], [(503, _)], by omega, ⟨rfl, rfl, rfl, trivial⟩, ⟨rfl, trivial⟩, i + 1, by omega, hle3.trans hleM, out ++ [mg1 (.mk k t d ti a args cites kids)], acc ++ [.int .i64 k, str t, str d, str ti, str a.id, vc2, vp2, va2, vt2, vk2], (by rw [List.length_append]; rfl), rfl, ?_⟩
       refine ⟨inlsC_snoc (hacc.mono hleM) (by simpa only [mg1] using hnew), by rw [hout]; simp, by rw [List.length_append]; simp; omega⟩)
    | (refine ⟨xs.length - (i + j), [(0, _), (3, _), (4, _)], [(503, _)], by omega, ⟨rfl, rfl, rfl, trivial⟩, ⟨rfl, trivial⟩, i + j, by omega, hle3.trans (hle9.trans (hleM.trans hleS)), out ++ [setT (mg1 (.mk k3 t3 d3 ti3 at3 args3 cites3 kids3)) L], acc ++ [.int .i64 k3, str L, str d3, str ti3, str at3.id, vc2, vp2, va2, vt2, vk2], (by rw [List.length_append]; rfl), rfl, ?_⟩
       refine ⟨inlsC_snoc (hacc.mono (hle9.trans (hleM.trans hleS))) (by simpa only [mg1, setT] using hnew2.mono hleS), by rw [hinv2, hstop, hp14]; simp, by rw [List.length_append]; simp; omega⟩)
    | (refine ⟨xs.length - (i + j), [(0, _), (3, _), (4, _)], [(503, _)], by omega, ⟨rfl, rfl, rfl, trivial⟩, ⟨rfl, trivial⟩, i + j, by omega, hle3.trans hle9, out, acc, rfl, rfl, ?_⟩
       exact ⟨hacc.mono hle9, by rw [hinv2, hstop, hp14]; simp, by omega⟩)
   ·
    have hk : kindI (.mk k t d ti a args cites kids) = 1 := Decidable.of_not_not (of_decide_eq_false hb4)
    refine Zs (Zb (Zc (Za (ya rfl rfl (Zd (ρ' := [(0, _), (3, _), (4, _), (5, _)]) ⟨rfl, rfl, rfl, rfl, trivial⟩ ?_)))))
    refine Zb (Zc (Za (Zq rfl rfl ?_)))
    refine do_alloc_t trivial Tryz.z66 rfl rfl rfl ?_
    refine rl_nilW 600 5 1 rfl rfl ?_
    refine rl_name 6 rfl ⟨6, _, .inl rfl⟩ ?_
    intro b6
    refine Zd (ρ' := [(0, _), (3, _), (4, _), (5, _), (6, _)]) ⟨rfl, rfl, rfl, rfl, rfl, trivial⟩ ?_
    refine Zb (Zc (Zaa ?_))
    refine Zau (fun m ρ σ u' => ∃ j : Nat, j + m = xs.length - i ∧ VLe uo u' ∧ ∃ (kz : Option Nat) (q2 : Option Addr) (a2 : Option Addr) (c2 : Nat) (L : Bs), σ = [(503, (none, .row 45 10 out.length acc)), (6, (some b6, .bt 66 [.pointer q2, .slice a2 L.length c2])), (600, (none, .rwv (.slice a2 L.length c2) 5 1 L.length (bytesC L)))] ∧ ρ = [(0, .v (.slice ad xs.length cap)), (3, .s 503), (4, .v (.int .i64 ((i + j : Nat) : Int))), (5, .v (.int .i64 (kzI kz))), (6, .p 6 0)] ∧ (QOk b6 q2 ∧ mg none xs = out ++ mg (pk xs kz L) (xs.drop (i + j)) ∧ (kz = none → L = []) ∧ (∀ n, kz = some n → n < xs.length) ∧ L.length ≤ 100000 * j)) (xs.length - i) ?_ ?_
    ·
     refine ⟨[(0, _), (3, _), (4, _), (5, _), (6, _)], [(503, _), (6, _), (600, _)], ⟨rfl, rfl, rfl, rfl, rfl, trivial⟩, ⟨rfl, rfl, rfl, trivial⟩, 0, by omega, VLe.refl _, none, none, none, 0, [], rfl, rfl, ?_⟩
     exact ⟨.inl rfl, hout, fun _ => rfl, (fun n h => by cases h), Nat.zero_le _⟩
    ·
     rintro mj ρ σ u' ⟨j, hi9, hle9, kz, q2, a2, c2, L, rfl, rfl, ⟨hq2, hinv2, hL0, hkn, hLl⟩⟩
     refine Zc (Zc ?_)
     refine Zca 39 (decide (i + j < xs.length ∧ kindAt xs (i + j) = 1)) (ρk := [(0, _), (3, _), (4, _), (5, _), (6, _)]) ⟨rfl, rfl, rfl, rfl, rfl, trivial⟩ ?_ ?_
     ·
      refine Za (ym rfl rfl (ym rfl rfl (Zf (Zal rfl rfl Tryz.s37 rfl) rfl ?_)))
      refine Zf (Zbh rfl rfl rfl) rfl ?_
      refine ym rfl rfl ?_
      rcases Bool.eq_false_or_eq_true (decide (((i + j : Nat) : Int) < (xs.length : Int))) with hg9_4 | hg9_4
      ·
       simp only [hg9_4]
       refine Zk rfl rfl (ym rfl rfl ?_)
       have hltj : i + j < xs.length := by have := of_decide_eq_true hg9_4; omega
       obtain ⟨k2, t2, d2, ti2, at2, args2, cites2, kids2, vc9, vp9, va9, vt9, vk9, hg2, hcut2, _⟩ := hc1.at hltj
       have hka := kindAt_some hg2
       have h1j := h1.mono hle9
       have hc1j := hc1.mono hle9
       refine Zk rfl rfl (ym rfl rfl (Zk rfl rfl (Zf (Zai rfl Tryz.s37 rfl rfl h1j (j := i + j) rfl hltj) rfl ?_)))
       refine Zk rfl rfl (Zf (Zap rfl Tryz.f45' rfl (by decide) rfl) rfl ?_)
       refine Zk rfl rfl (Zf (Zag rfl Tryz.k3 rfl (by assumption) (by omega) (by assumption) (vs := [_]) rfl rfl rfl rfl) rfl ?_)
       refine Zk rfl rfl (Zf (Zay rfl rfl rfl) rfl ?_)
       refine Zf (Zl rfl rfl rfl) rfl ?_
       exact Zak rfl ⟨rfl, rfl, rfl, rfl, rfl, trivial⟩ (by first | (rw [hka]; exact decide_eq_decide.2 ⟨fun h => ⟨hltj, h⟩, fun h => h.2⟩) | (have := of_decide_eq_false hg9_4; exact (decide_eq_false fun h => this (by omega)).symm))
      ·
       simp only [hg9_4]
       iterate 6 refine Zo rfl rfl rfl rfl ?_
       refine Zf (Zm rfl rfl rfl) rfl ?_
       exact Zak rfl ⟨rfl, rfl, rfl, rfl, rfl, trivial⟩ (by first | (rw [hka]; exact decide_eq_decide.2 ⟨fun h => ⟨hltj, h⟩, fun h => h.2⟩) | (have := of_decide_eq_false hg9_4; exact (decide_eq_false fun h => this (by omega)).symm))
     refine Zb ?_
     refine Zn rfl (fun hb9 => ?_) (fun hb9 => ?_)
     ·
      have h9 := of_decide_eq_true hb9
      have hltj := h9.1
      obtain ⟨k2, t2, d2, ti2, at2, args2, cites2, kids2, vc9, vp9, va9, vt9, vk9, hg2, hcut2, _⟩ := hc1.at hltj
      have h1j := h1.mono hle9
      have hka := kindAt_some hg2
      have hk2 : kindI (.mk k2 t2 d2 ti2 at2 args2 cites2 kids2) = 1 := by rw [← hka]; exact h9.2
      have htl := txI_at htx hg2
      have hmt := mg_text hg2 hk2 (pk xs kz L)
      rw [hmt] at hinv2
      refine Zs (Zb (Zc (Zaa (Zc (Zc ?_)))))
      refine Zca 51 (decide (kz = none ∧ t2 ≠ [])) (ρk := [(0, _), (3, _), (4, _), (5, _), (6, _)]) ⟨rfl, rfl, rfl, rfl, rfl, trivial⟩ ?_ ?_
      ·
       refine Za (ym rfl rfl (Zf (Zbh rfl rfl rfl) rfl ?_))
       refine ym rfl rfl ?_
       rcases Bool.eq_false_or_eq_true (decide (kzI kz < 0)) with hg11_2 | hg11_2
       ·
        simp only [hg11_2]
        refine Zk rfl rfl (ym rfl rfl (Zk rfl rfl (ym rfl rfl (Zk rfl rfl (Zf (Zai rfl Tryz.s37 rfl rfl h1j (j := i + j) rfl hltj) rfl ?_)))))
        refine Zk rfl rfl (Zf (Zap rfl Tryz.f45' rfl (by decide) rfl) rfl ?_)
        refine Zk rfl rfl (Zf (Zag rfl Tryz.k9 rfl (by assumption) (by omega) (by assumption) (vs := [_]) rfl rfl rfl rfl) rfl ?_)
        refine Zk rfl rfl (Zf (Zbk rfl rfl rfl) rfl ?_)
        refine Zf (Zl rfl rfl rfl) rfl ?_
        exact Zak rfl ⟨rfl, rfl, rfl, rfl, rfl, trivial⟩ (by
        cases kz with
        | none => first | (exact decide_eq_decide.2 ⟨fun h => ⟨rfl, h⟩, fun h => h.2⟩) | (exact absurd (of_decide_eq_false hg11_2) (by decide))
        | some n => first | (exact absurd (of_decide_eq_true hg11_2) (by show ¬ ((n : Int) < 0); omega)) | (exact (decide_eq_false fun h => by cases h.1).symm))
       ·
        simp only [hg11_2]
        iterate 6 refine Zo rfl rfl rfl rfl ?_
        refine Zf (Zm rfl rfl rfl) rfl ?_
        exact Zak rfl ⟨rfl, rfl, rfl, rfl, rfl, trivial⟩ (by
        cases kz with
        | none => first | (exact decide_eq_decide.2 ⟨fun h => ⟨rfl, h⟩, fun h => h.2⟩) | (exact absurd (of_decide_eq_false hg11_2) (by decide))
        | some n => first | (exact absurd (of_decide_eq_true hg11_2) (by show ¬ ((n : Int) < 0); omega)) | (exact (decide_eq_false fun h => by cases h.1).symm))
      refine Zb ?_
      refine Zn rfl (fun hb11 => ?_) (fun hb11 => ?_)
      ·
       have h11 := of_decide_eq_true hb11
       refine Za (ym rfl rfl (ya rfl rfl (Zd (ρ' := [(0, _), (3, _), (4, _), (5, _), (6, _)]) ⟨rfl, rfl, rfl, rfl, rfl, trivial⟩ ?_)))
       refine Zb (Za (ym rfl rfl (ym rfl rfl (Zf (Zai rfl Tryz.s37 rfl rfl h1j (j := i + j) rfl hltj) rfl ?_))))
       refine Zf (Zap rfl Tryz.f45' rfl (by decide) rfl) rfl ?_
       refine Zf (Zag rfl Tryz.k9 rfl (by assumption) (by omega) (by assumption) (vs := [_]) rfl rfl rfl rfl) rfl ?_
       refine Zq rfl rfl ?_
       refine Zaz (caps := []) (ρ' := [(0, _), (3, _), (4, _), (5, _), (6, _)]) [6, 600] [] trivial rfl rfl rfl Tryz.c63 rfl rfl ⟨rfl, rfl, rfl, rfl, rfl, trivial⟩ rfl rfl rfl (FnO.mono (writeString_fn b6 q2 hq2 a2 c2 L t2 (by have : (txtI (.mk k2 t2 d2 ti2 at2 args2 cites2 kids2)) = t2 := rfl; rw [this] at htl; omega) _) ?_)
       rintro v uW l1 hleW ⟨rfl, aS, cS, rfl⟩ -
       refine ⟨⟨fun _ h => h, fun _ h => h, trivial⟩, ?_⟩
       refine Zd (ρ' := [(0, _), (3, _), (4, _), (5, _), (6, _)]) ⟨rfl, rfl, rfl, rfl, rfl, trivial⟩ ?_
       refine Zaf (Zb (Za (ym rfl rfl (Zf (Zas rfl rfl rfl (Zu (by omega))) rfl ?_))))
       refine ya rfl rfl (Zd (ρ' := [(0, _), (3, _), (4, _), (5, _), (6, _)]) ⟨rfl, rfl, rfl, rfl, rfl, trivial⟩ ?_)
       refine Zae ?_
       first
       | (refine ⟨mj - 1, [(0, _), (3, _), (4, _), (5, _), (6, _)], [(503, _), (6, _), (600, _)], by omega, ⟨rfl, rfl, rfl, rfl, rfl, trivial⟩, ⟨rfl, rfl, rfl, trivial⟩, j + 1, by omega, hle9.trans hleW, some (i + j), selfQ b6, aS, cS, L ++ t2, rfl, rfl, .inr rfl, ?_, (fun h => by cases h), (fun n h => by cases h; exact hltj), by rw [List.length_append]; have : (txtI (.mk k2 t2 d2 ti2 at2 args2 cites2 kids2)) = t2 := rfl; rw [this] at htl; omega⟩
          obtain ⟨rfl, ht2⟩ := h11
          rw [hL0 rfl] at hinv2 ⊢
          rw [add_first hg2 ht2] at hinv2
          exact hinv2)
       | (refine ⟨mj - 1, [(0, _), (3, _), (4, _), (5, _), (6, _)], [(503, _), (6, _), (600, _)], by omega, ⟨rfl, rfl, rfl, rfl, rfl, trivial⟩, ⟨rfl, rfl, rfl, trivial⟩, j + 1, by omega, hle9.trans hleW, kz, selfQ b6, aS, cS, L ++ t2, rfl, rfl, .inr rfl, ?_, ?_, hkn, by rw [List.length_append]; have : (txtI (.mk k2 t2 d2 ti2 at2 args2 cites2 kids2)) = t2 := rfl; rw [this] at htl; omega⟩
          ·
           cases kz with
           | none =>
            have ht2 : txtI (.mk k2 t2 d2 ti2 at2 args2 cites2 kids2) = [] := Decidable.of_not_not fun h => h11 ⟨rfl, h⟩
            rw [hL0 rfl] at hinv2 ⊢
            rw [add_none ht2] at hinv2
            exact hinv2
           | some n0 =>
            rw [add_more (List.getElem?_eq_getElem (hkn n0 rfl))] at hinv2
            exact hinv2
          ·
           intro h
           subst h
           have ht2 : t2 = [] := Decidable.of_not_not fun h => h11 ⟨rfl, h⟩
           rw [hL0 rfl, ht2]; rfl)
      ·
       have h11 := of_decide_eq_false hb11
       refine Zs (Zb (Za (ym rfl rfl (ym rfl rfl (Zf (Zai rfl Tryz.s37 rfl rfl h1j (j := i + j) rfl hltj) rfl ?_)))))
       refine Zf (Zap rfl Tryz.f45' rfl (by decide) rfl) rfl ?_
       refine Zf (Zag rfl Tryz.k9 rfl (by assumption) (by omega) (by assumption) (vs := [_]) rfl rfl rfl rfl) rfl ?_
       refine Zq rfl rfl ?_
       refine Zaz (caps := []) (ρ' := [(0, _), (3, _), (4, _), (5, _), (6, _)]) [6, 600] [] trivial rfl rfl rfl Tryz.c63 rfl rfl ⟨rfl, rfl, rfl, rfl, rfl, trivial⟩ rfl rfl rfl (FnO.mono (writeString_fn b6 q2 hq2 a2 c2 L t2 (by have : (txtI (.mk k2 t2 d2 ti2 at2 args2 cites2 kids2)) = t2 := rfl; rw [this] at htl; omega) _) ?_)
       rintro v uW l1 hleW ⟨rfl, aS, cS, rfl⟩ -
       refine ⟨⟨fun _ h => h, fun _ h => h, trivial⟩, ?_⟩
       refine Zd (ρ' := [(0, _), (3, _), (4, _), (5, _), (6, _)]) ⟨rfl, rfl, rfl, rfl, rfl, trivial⟩ ?_
       refine Zaf (Zb (Za (ym rfl rfl (Zf (Zas rfl rfl rfl (Zu (by omega))) rfl ?_))))
       refine ya rfl rfl (Zd (ρ' := [(0, _), (3, _), (4, _), (5, _), (6, _)]) ⟨rfl, rfl, rfl, rfl, rfl, trivial⟩ ?_)
       refine Zae ?_
       first
       | (refine ⟨mj - 1, [(0, _), (3, _), (4, _), (5, _), (6, _)], [(503, _), (6, _), (600, _)], by omega, ⟨rfl, rfl, rfl, rfl, rfl, trivial⟩, ⟨rfl, rfl, rfl, trivial⟩, j + 1, by omega, hle9.trans hleW, some (i + j), selfQ b6, aS, cS, L ++ t2, rfl, rfl, .inr rfl, ?_, (fun h => by cases h), (fun n h => by cases h; exact hltj), by rw [List.length_append]; have : (txtI (.mk k2 t2 d2 ti2 at2 args2 cites2 kids2)) = t2 := rfl; rw [this] at htl; omega⟩
          obtain ⟨rfl, ht2⟩ := h11
          rw [hL0 rfl] at hinv2 ⊢
          rw [add_first hg2 ht2] at hinv2
          exact hinv2)
       | (refine ⟨mj - 1, [(0, _), (3, _), (4, _), (5, _), (6, _)], [(503, _), (6, _), (600, _)], by omega, ⟨rfl, rfl, rfl, rfl, rfl, trivial⟩, ⟨rfl, rfl, rfl, trivial⟩, j + 1, by omega, hle9.trans hleW, kz, selfQ b6, aS, cS, L ++ t2, rfl, rfl, .inr rfl, ?_, ?_, hkn, by rw [List.length_append]; have : (txtI (.mk k2 t2 d2 ti2 at2 args2 cites2 kids2)) = t2 := rfl; rw [this] at htl; omega⟩
          ·
           cases kz with
           | none =>
            have ht2 : txtI (.mk k2 t2 d2 ti2 at2 args2 cites2 kids2) = [] := Decidable.of_not_not fun h => h11 ⟨rfl, h⟩
            rw [hL0 rfl] at hinv2 ⊢
            rw [add_none ht2] at hinv2
            exact hinv2
           | some n0 =>
            rw [add_more (List.getElem?_eq_getElem (hkn n0 rfl))] at hinv2
            exact hinv2
          ·
           intro h
           subst h
           have ht2 : t2 = [] := Decidable.of_not_not fun h => h11 ⟨rfl, h⟩
           rw [hL0 rfl, ht2]; rfl)
     ·
      have h9 := of_decide_eq_false hb9
      have hj : 0 < j := by
       rcases Nat.eq_zero_or_pos j with h0 | h0
       ·
        subst h0
        exact absurd ⟨hlt, by rw [Nat.add_zero, kindAt_some hg]; exact hk⟩ h9
       ·
        exact h0
      have hstop := mg_stop (xs := xs) (i := i + j) (fun x hx he => h9 ⟨(List.getElem?_eq_some_iff.1 hx).1, by rw [kindAt_some hx]; exact he⟩) (pk xs kz L)
      refine Zat ?_
      refine Zp (Zp ?_)
      refine Zah ?_
      refine Zb (Zc (Za (ym rfl rfl (Zf (Zbw rfl rfl rfl) rfl ?_))))
      refine Zd (ρ' := [(0, _), (3, _), (4, _), (5, _), (6, _), (60, _)]) ⟨rfl, rfl, rfl, rfl, rfl, rfl, trivial⟩ ?_
      refine Zb ?_
      refine Zn rfl (fun hb14 => ?_) (fun hb14 => ?_)
      ·
       obtain ⟨nn, rfl⟩ : ∃ nn, kz = some nn := by
        cases kz with
        | none => exact absurd (of_decide_eq_true hb14) (by decide)
        | some nn => exact ⟨nn, rfl⟩
       have hltn := hkn nn rfl
       have h1n := h1.mono hle9
       have hc1n := hc1.mono hle9
       obtain ⟨k3, t3, d3, ti3, at3, args3, cites3, kids3, vc9, vp9, va9, vt9, vk9, hg3, hcut3, _⟩ := hc1n.at hltn
       have hx3 := hc1n.get nn _ hg3
       rw [hcut3] at hx3
       have hsm3 := smI_get hsm hg3
       have hsmk3 := hsm3
       unfold smI1 at hsmk3
       have hszk3 := szI_kids hg3
       have hlk3 := len_szI kids3
       have hmk3 := mg_len kids3 none
       have hp14 : pk xs (some nn) L = some (setT (mg1 (.mk k3 t3 d3 ti3 at3 args3 cites3 kids3)) L) := by simp only [pk, hg3, Option.map_some]
       refine Zc (Za (ym rfl rfl (ym rfl rfl (Zf (Zai rfl Tryz.s37 rfl rfl h1n (j := nn) rfl hltn) rfl ?_))))
       refine Zf (Zag rfl Tryz.k45 rfl (by assumption) (by omega) (by assumption) (vs := [_, _, _, _, _, _, _, _, _, _]) rfl rfl rfl rfl) rfl ?_
       refine Zq rfl rfl ?_
       refine Zbb (caps := []) trivial rfl rfl Tryz.c73 rfl (FnP.mono (mergedInl_fn k3 t3 d3 ti3 at3 args3 cites3 kids3 _ u' hx3 hsm3 (by simp at hmk3; omega) (fun v u' hle hv ↦ ih (szI kids3) (by omega) v kids3 u' (Nat.le_refl _) (by omega) hsmk3.2 hv)) ?_)
       rintro v uM hle0 ⟨vc2, vp2, va2, vt2, vk2, rfl, w1, w2, w3, w4, w5, w6⟩ hleM
       have hnew0 := InlC.mk' w1 w2 w3 w4 w5 w6
       have oneAll := hnew0.one
       have w7 : InlOk (.mk k3 L d3 ti3 at3 args3 cites3 (mg none kids3)) := by
        unfold InlOk at w6 ⊢
        exact ⟨w6.1, by omega, w6.2.2⟩
       have hnew2 := InlC.mk' w1 w2 w3 w4 w5 w7
       have oneAll2 := hnew2.one
       refine Zq rfl rfl ?_
       refine Zax trivial Tryz.z45 rfl rfl rfl ?_
       refine Zq rfl rfl ?_
       refine Zt trivial rfl Tryz.k45 rfl rfl rfl (vs := [_, _, _, _, _, _, _, _, _, _]) rfl rfl (by first | rfl | assumption | simp [Value.oneCell', str]) (Nat.le_of_ble_eq_true rfl) rfl ?_
       refine Zd (ρ' := [(0, _), (3, _), (4, _), (6, _), (7, _)]) ⟨rfl, rfl, rfl, rfl, rfl, trivial⟩ ?_
       refine Zb (Zc (Za (Zq rfl rfl ?_)))
       refine Zaz (caps := []) (ρ' := [(0, _), (3, _), (4, _), (7, _)]) [6, 600] [] trivial rfl rfl rfl Tryz.c26 rfl rfl ⟨rfl, rfl, rfl, rfl, trivial⟩ rfl rfl rfl (FnO.mono (bldString_fn b6 q2 a2 c2 L (by omega) _) ?_)
       rintro v uS l1 hleS ⟨rfl, o2, rfl⟩ -
       refine ⟨⟨fun _ h => h, fun _ h => h, trivial⟩, ?_⟩
       refine Zf (Zi rfl Tryz.f45' rfl (by decide) rfl) rfl ?_
       refine Zq rfl rfl ?_
       refine Zt trivial rfl Tryz.k9 rfl rfl rfl (vs := [_]) rfl rfl (by first | rfl | assumption | simp [Value.oneCell', str]) (Nat.le_of_ble_eq_true rfl) rfl ?_
       refine Zd (ρ' := [(0, _), (3, _), (4, _), (7, _)]) ⟨rfl, rfl, rfl, rfl, trivial⟩ ?_
       refine Zb (Za (ym rfl rfl (Zf (Zj rfl Tryz.k45 rfl rfl rfl (vs := [_, _, _, _, _, _, _, _, _, _]) rfl rfl rfl) rfl ?_)))
       refine Zq rfl rfl ?_
       refine Zac trivial Tryz.s37 Tryz.z45 (ps := [(_, _)]) rfl (xs := [_, _, _, _, _, _, _, _, _, _]) rfl rfl rfl rfl rfl rfl rfl ?_
       refine Zq rfl rfl ?_
       refine Zbr trivial rfl rfl Tryz.s37 Tryz.z45 rfl rfl rfl rfl rfl rfl (by first | rfl | assumption | simp [Value.oneCell', str]) (by omega) (by omega) (ρ' := [(0, _), (4, _)]) ⟨rfl, rfl, trivial⟩ rfl rfl rfl ?_
       refine ya rfl rfl ?_
       refine Zch 71 503 rfl rfl rfl ?_
       refine Zd (ρ' := [(0, _), (3, _), (4, _)]) ⟨rfl, rfl, rfl, trivial⟩ ?_
       refine Zaf (Zae ?_)
       first
       | (refine ⟨m - 1, [(0, _), (3, _), (4, _)], [(503, _)], by omega, ⟨rfl, rfl, rfl, trivial⟩, ⟨rfl, trivial⟩, i + 1, by omega, hle3.trans hleM, out ++ [mg1 (.mk k t d ti a args cites kids)], acc ++ [.int .i64 k, str t, str d, str ti, str a.id, vc2, vp2, va2, vt2, vk2], (by rw [List.length_append]; rfl), rfl, ?_⟩
          refine ⟨inlsC_snoc (hacc.mono hleM) (by simpa only [mg1] using hnew), by rw [hout]; simp, by rw [List.length_append]; simp; omega⟩)
       | (refine ⟨xs.length - (i + j), [(0, _), (3, _), (4, _)], [(503, _)], by omega, ⟨rfl, rfl, rfl, trivial⟩, ⟨rfl, trivial⟩, i + j, by omega, hle3.trans (hle9.trans (hleM.trans hleS)), out ++ [setT (mg1 (.mk k3 t3 d3 ti3 at3 args3 cites3 kids3)) L], acc ++ [.int .i64 k3, str L, str d3, str ti3, str at3.id, vc2, vp2, va2, vt2, vk2], (by rw [List.length_append]; rfl), rfl, ?_⟩
          refine ⟨inlsC_snoc (hacc.mono (hle9.trans (hleM.trans hleS))) (by simpa only [mg1, setT] using hnew2.mono hleS), by rw [hinv2, hstop, hp14]; simp, by rw [List.length_append]; simp; omega⟩)
       | (refine ⟨xs.length - (i + j), [(0, _), (3, _), (4, _)], [(503, _)], by omega, ⟨rfl, rfl, rfl, trivial⟩, ⟨rfl, trivial⟩, i + j, by omega, hle3.trans hle9, out, acc, rfl, rfl, ?_⟩
          exact ⟨hacc.mono hle9, by rw [hinv2, hstop, hp14]; simp, by omega⟩)
      ·
       have hp14 : pk xs kz L = none := by
        cases kz with
        | none => rfl
        | some nn => exact absurd (of_decide_eq_false hb14) (by show ¬ ¬ (0 : Int) ≤ (nn : Int); omega)
       refine Zs (Zaf (Zae ?_))
       first
       | (refine ⟨m - 1, [(0, _), (3, _), (4, _)], [(503, _)], by omega, ⟨rfl, rfl, rfl, trivial⟩, ⟨rfl, trivial⟩, i + 1, by omega, hle3.trans hleM, out ++ [mg1 (.mk k t d ti a args cites kids)], acc ++ [.int .i64 k, str t, str d, str ti, str a.id, vc2, vp2, va2, vt2, vk2], (by rw [List.length_append]; rfl), rfl, ?_⟩
          refine ⟨inlsC_snoc (hacc.mono hleM) (by simpa only [mg1] using hnew), by rw [hout]; simp, by rw [List.length_append]; simp; omega⟩)
       | (refine ⟨xs.length - (i + j), [(0, _), (3, _), (4, _)], [(503, _)], by omega, ⟨rfl, rfl, rfl, trivial⟩, ⟨rfl, trivial⟩, i + j, by omega, hle3.trans (hle9.trans (hleM.trans hleS)), out ++ [setT (mg1 (.mk k3 t3 d3 ti3 at3 args3 cites3 kids3)) L], acc ++ [.int .i64 k3, str L, str d3, str ti3, str at3.id, vc2, vp2, va2, vt2, vk2], (by rw [List.length_append]; rfl), rfl, ?_⟩
          refine ⟨inlsC_snoc (hacc.mono (hle9.trans (hleM.trans hleS))) (by simpa only [mg1, setT] using hnew2.mono hleS), by rw [hinv2, hstop, hp14]; simp, by rw [List.length_append]; simp; omega⟩)
       | (refine ⟨xs.length - (i + j), [(0, _), (3, _), (4, _)], [(503, _)], by omega, ⟨rfl, rfl, rfl, trivial⟩, ⟨rfl, trivial⟩, i + j, by omega, hle3.trans hle9, out, acc, rfl, rfl, ?_⟩
          exact ⟨hacc.mono hle9, by rw [hinv2, hstop, hp14]; simp, by omega⟩)
  ·
   have hge := of_decide_eq_false hb3
   refine Zat ?_
   refine Zp (Zp ?_)
   refine Zah ?_
   refine Zb (Zc (Za (ym rfl rfl ?_)))
   refine Zbm 503 rfl ?_
   intro ad503 cap503 u503 hle503z hsl503
   refine ya rfl rfl (Zd (ρ' := [(2, _)]) ⟨rfl, trivial⟩ ?_)
   refine Zb (Zv ?_)
   refine Zav (.tmp rfl) ?_
   rw [List.drop_eq_nil_of_le (by omega), mg, Option.toList_none, List.append_nil] at hout
   rw [hout]
   exact inlS_of (by omega) hsl503 (hacc.mono hle503z)
theorem fixI_append : ∀ (xs ys : List Inl), fixI (xs ++ ys) = ((fixI xs).1 ++ (fixI ys).1, (fixI xs).2 || (fixI ys).2)
 | [], ys => by simp [fixI]
 | x :: xs, ys => by
  rw [List.cons_append]
  simp only [fixI, fixI_append xs ys, List.cons_append, Bool.or_assoc]
theorem fixI_take {xs : List Inl} {i : Nat} {x : Inl} (h : xs[i]? = some x) : (fixI (xs.take (i + 1))).1 = (fixI (xs.take i)).1 ++ [(fixI1 x).1] ∧ (fixI (xs.take (i + 1))).2 = ((fixI (xs.take i)).2 || (fixI1 x).2) := by
 obtain ⟨hlt, rfl⟩ := List.getElem?_eq_some_iff.1 h
 rw [List.take_succ_eq_append_getElem hlt, fixI_append]
 simp [fixI]
theorem fixI_len : ∀ xs : List Inl, (fixI xs).1.length = xs.length
 | [] => rfl
 | x :: xs => by simp [fixI, fixI_len xs]
theorem decoA_id (a : DAttr) : (decoA a).1.id = a.id ∧ (decoA a).1.classes = a.classes ∧ ((decoA a).1.pairs.length = a.pairs.length ∨ a.pairs.length < 32 ∧ (decoA a).1.pairs.length = a.pairs.length + 1) := by
 unfold decoA
 by_cases h1 : (getP roleS a.pairs).isSome = true
 ·
  rw [if_pos h1]
  exact ⟨rfl, rfl, .inl (setP_len _ _ _)⟩
 ·
  rw [if_neg h1]
  by_cases h2 : a.pairs.length < 32
  ·
   rw [if_pos h2]
   exact ⟨rfl, rfl, .inr ⟨h2, by simp⟩⟩
  ·
   rw [if_neg h2]
   exact ⟨rfl, rfl, .inl rfl⟩
theorem setP_mem {k v : Bs} : ∀ {l : List (Bs × Bs)} {p : Bs × Bs}, p ∈ setP k v l → p ∈ l ∨ p.2 = v ∧ ∃ q ∈ l, p.1 = q.1
 | [], p, h => by simp [setP] at h
 | x :: xs, p, h => by
  rw [setP] at h
  split at h
  ·
   rcases List.mem_cons.1 h with rfl | h
   ·
    exact .inr ⟨rfl, x, by simp, rfl⟩
   ·
    exact .inl (List.mem_cons_of_mem _ h)
  ·
   rcases List.mem_cons.1 h with rfl | h
   ·
    exact .inl (by simp)
   ·
    rcases setP_mem h with h | ⟨h1, q, hq, h2⟩
    ·
     exact .inl (List.mem_cons_of_mem _ h)
    ·
     exact .inr ⟨h1, q, List.mem_cons_of_mem _ hq, h2⟩
theorem decoA_ok {a : DAttr} (h : AttrOk a) : AttrOk (decoA a).1 := by
 obtain ⟨h1, h2, h3, h4⟩ := h
 obtain ⟨e1, e2, e3⟩ := decoA_id a
 refine ⟨by rw [e1]; exact h1, by rw [e2]; exact h2, by omega, ?_⟩
 intro p hp
 unfold decoA at hp
 split at hp
 ·
  rcases setP_mem hp with hp | ⟨hv, q, hq, hk⟩
  ·
   exact h4 p hp
  ·
   rw [hv, hk]
   exact ⟨(h4 q hq).1, by decide⟩
 ·
  split at hp
  ·
   rcases List.mem_append.1 hp with hp | hp
   ·
    exact h4 p hp
   ·
    rw [List.mem_singleton.1 hp]
    exact ⟨by decide, by decide⟩
  ·
   exact h4 p hp
def daI (x : Inl) (a : DAttr) : DAttr × Bool := if silent x = true then decoA a else (a, false)
def addI (x : Inl) (d : Bs) : Bool := mute x && !blank d
def kidsR (x : Inl) (d : Bs) (kids : List Inl) : List Inl := if addI x d = true then (fixI kids).1 ++ [tI d] else (fixI kids).1
theorem fixI1_eq (k : Int) (t d ti : Bs) (a : DAttr) (args : List Bs) (cites : List DCite) (kids : List Inl) :
  fixI1 (.mk k t d ti a args cites kids) = (.mk k t d ti (daI (.mk k t d ti a args cites kids) a).1 args cites (kidsR (.mk k t d ti a args cites kids) d kids), ((fixI kids).2 || (daI (.mk k t d ti a args cites kids) a).2) || addI (.mk k t d ti a args cites kids) d) := by
 rw [fixI1]; rfl
theorem daI_id (x : Inl) (a : DAttr) : (daI x a).1.id = a.id ∧ (daI x a).1.classes = a.classes ∧ ((daI x a).1.pairs.length = a.pairs.length ∨ a.pairs.length < 32 ∧ (daI x a).1.pairs.length = a.pairs.length + 1) := by
 unfold daI
 split
 ·
  exact decoA_id a
 ·
  exact ⟨rfl, rfl, .inl rfl⟩
theorem daI_ok (x : Inl) {a : DAttr} (h : AttrOk a) : AttrOk (daI x a).1 := by
 unfold daI
 split
 ·
  exact decoA_ok h
 ·
  exact h
theorem row_step {acc cs new : List Value} {i n sz : Nat} (ha : acc.length = i * sz) (hn : new.length = sz) (hc : cs.length = n * sz) (hi : i < n) : setAt (acc ++ cs.drop (i * sz)) (i * sz) new = (acc ++ new) ++ cs.drop ((i + 1) * sz) := by
 have h1 : (i + 1) * sz ≤ n * sz := Nat.mul_le_mul_right _ hi
 rw [Nat.add_mul, Nat.one_mul] at h1
 rw [setAt_eq _ _ _ (by rw [List.length_append, List.length_drop, ha, hc, hn]; omega)]
 rw [List.take_append_of_le_length (by omega), List.take_of_length_le (by omega), hn, ← ha, List.drop_append]
 simp only [Nat.add_sub_cancel_left]
 rw [List.drop_of_length_le (by omega), List.nil_append, List.drop_drop, ha, Nat.add_mul, Nat.one_mul]
theorem tI_cells (u : View) (d : Bs) (hd : d.length ≤ 140737488351232) : InlC u (tI d) [.int .i64 1, str d, str [], str [], str [], .slice none 0 0, .slice none 0 0, .slice none 0 0, .slice none 0 0, .slice none 0 0] := by
 refine InlC.mk' (nilStr u) (nilPr u) (nilStr u) (nilCi u) (nilInl u) ?_
 unfold InlOk AttrOk StrOk PrOk CiOk IntOk
 simp
 exact hd
set_option maxHeartbeats 4000000 in
theorem line_fn (n : Nat) : ∀ (v : Value) (xs : List Inl) (u : View), szI xs ≤ n → szI xs ≤ 1000 → smI xs → InlS u v xs →
  FnO Tryz.prog 37 [v] u [] fun r u' l' => ∃ ad cap c1, r = .tuple #[.slice ad (fixI xs).1.length cap, .bool (fixI xs).2] ∧ l' = [(none, .rwv (.slice ad (fixI xs).1.length cap) 45 10 (fixI xs).1.length c1)] ∧ InlsC u' (fixI xs).1 c1 := by
 induction n using Nat.strongRecOn with
 | _ n ih =>
 intro v xs u hsz hbig hsm ha
 have hlx := len_szI xs
 obtain ⟨cs, ⟨ad, cap, rfl, h1⟩, hc1⟩ := ha
 have hcl := hc1.len
 refine FnO.intro [.tmp 2, .tmp 3] Tryz.func37 rfl rfl rfl ?_
 intro w0 D hw0
 refine Zc (Za (ya rfl rfl (ya rfl rfl (Zd (ρ' := [(0, _)]) ⟨rfl, trivial⟩ ?_))))
 refine Zb (Zc (Za (ym rfl rfl (Zq rfl rfl ?_))))
 refine Zaz (caps := []) (ρ' := [(0, _)]) [] [612] trivial rfl rfl rfl Tryz.c70 rfl rfl ⟨rfl, trivial⟩ rfl rfl rfl (FnO.mono (cloneInlW_fn _ xs.length cs (by omega) hc1.ones u ⟨_, _, rfl, h1⟩) ?_)
 rintro v uO l1 hleO ⟨ado, capo, rfl, rfl⟩ -
 refine ⟨trivial, ?_⟩
 refine ya rfl rfl (Zd (ρ' := [(0, _), (4, _)]) ⟨rfl, rfl, trivial⟩ ?_)
 refine Zb (Zc (Za (ya rfl rfl (Zd (ρ' := [(0, _), (4, _), (5, _)]) ⟨rfl, rfl, rfl, trivial⟩ ?_))))
 refine Zb (Zc (Zc (Za (ym rfl rfl (Zf (Zal rfl rfl Tryz.s37 rfl) rfl ?_)))))
 refine ym rfl rfl (Zd (ρ' := [(0, _), (4, _), (5, _), (13, _), (14, _), (15, _)]) ⟨rfl, rfl, rfl, rfl, rfl, rfl, trivial⟩ ?_)
 refine Zb (Zaa ?_)
 refine Zau (fun m ρ σ u' => ∃ i : Nat, i + m = xs.length ∧ VLe uO u' ∧ ∃ (acc : List Value), σ = [(612, (none, .rwv (.slice ado xs.length capo) 45 10 xs.length (acc ++ cs.drop (i * 10))))] ∧ ρ = [(0, .v (.slice ad xs.length cap)), (4, .v (.slice ado xs.length capo)), (5, .v (.bool (fixI (xs.take i)).2)), (13, .v (.slice ad xs.length cap)), (14, .v (.int .i64 xs.length)), (15, .v (.int .i64 i))] ∧ (InlsC u' (fixI (xs.take i)).1 acc)) (xs.length) ?_ ?_
 ·
  refine ⟨[(0, _), (4, _), (5, _), (13, _), (14, _), (15, _)], [(612, _)], ⟨rfl, rfl, rfl, rfl, rfl, rfl, trivial⟩, ⟨rfl, trivial⟩, 0, by omega, VLe.refl _, [], (by simp), rfl, ?_⟩
  exact InlsC.nil
 ·
  rintro m ρ σ u' ⟨i, hi4, hle4, acc, rfl, rfl, hacc⟩
  refine Zc (Za (Zf (Zbh rfl rfl rfl) rfl ?_))
  refine Zd (ρ' := [(0, _), (4, _), (5, _), (13, _), (14, _), (15, _), (16, _)]) ⟨rfl, rfl, rfl, rfl, rfl, rfl, rfl, trivial⟩ ?_
  refine Zb (Zc ?_)
  refine Zn rfl (fun hb4 => ?_) (fun hb4 => ?_)
  ·
   have hlt : i < xs.length := (by have := of_decide_eq_true hb4; omega)
   refine Zs (Zb (Zc (Zaa (Zc ?_))))
   have hle5 : VLe u u' := hleO.trans hle4
   have h1 := h1.mono hle5
   have hc1 := hc1.mono hle5
   obtain ⟨k, t, d, ti, a, args, cites, kids, vc, vp, va, vt, vk, hg, hcut1, s1, s2, s3, s4, s5, hok⟩ := hc1.at hlt
   have hx := hc1.get i _ hg
   rw [hcut1] at hx
   have oneAll := hx.one
   have hsm1 := smI_get hsm hg
   have hsm2 := hsm1
   unfold smI1 NodeSm at hsm2
   obtain ⟨⟨n1, n2, n3, n4, n5, n6, n7, n8⟩, hsmk⟩ := hsm2
   have hszk := szI_kids hg
   have hsz1 : sz1 (.mk k t d ti a args cites kids) ≤ szI xs := by simp only [sz1]; omega
   have hlk := len_szI kids
   obtain ⟨hft1, hft2⟩ := fixI_take hg
   rw [fixI1_eq] at hft1 hft2
   have hacl := hacc.len
   rw [fixI_len, List.length_take, Nat.min_eq_left (by omega)] at hacl
   obtain ⟨da1, da2, da3⟩ := daI_id (.mk k t d ti a args cites kids) a
   have hoka := daI_ok (.mk k t d ti a args cites kids) (show AttrOk a from by unfold InlOk at hok; exact hok.2.2.2.2.1)
   have hfk := fixI_len kids
   generalize hxx : Inl.mk k t d ti a args cites kids = x at *
   refine Za (ym rfl rfl (Zf (Zai rfl Tryz.s37 rfl rfl (by assumption) (by first | rfl | omega) (by omega)) rfl ?_))
   refine Zf (Zag rfl Tryz.k45 rfl (by assumption) (by omega) (by assumption) (vs := [_, _, _, _, _, _, _, _, _, _]) rfl rfl rfl rfl) rfl ?_
   refine Zq rfl rfl ?_
   refine Zax trivial Tryz.z45 rfl rfl rfl ?_
   refine ya rfl rfl (Zq rfl rfl ?_)
   refine Zt trivial rfl Tryz.k45 rfl rfl rfl (vs := [_, _, _, _, _, _, _, _, _, _]) rfl rfl (by first | rfl | assumption | simp [Value.oneCell', str]) (Nat.le_of_ble_eq_true rfl) rfl ?_
   refine Zd (ρ' := [(0, _), (4, _), (5, _), (6, _), (7, _), (13, _), (14, _), (15, _)]) ⟨rfl, rfl, rfl, rfl, rfl, rfl, rfl, rfl, trivial⟩ ?_
   refine Zb (Zc (Za (Zf (Zi rfl Tryz.f45' rfl (by decide) rfl) rfl ?_)))
   refine Zf (Zi rfl Tryz.f36' rfl (by decide) rfl) rfl ?_
   refine Zf (Zj rfl Tryz.k34 rfl rfl rfl (vs := [_]) rfl rfl rfl) rfl ?_
   refine Zq rfl rfl ?_
   refine Zbb (caps := []) trivial rfl rfl Tryz.c36 rfl (FnP.mono (cloneStr_fn vc a.classes (by omega) u' s1) ?_)
   rintro v uA hle0 ⟨ad1, cap1, rfl, w1⟩ hleA
   refine Zf (Zi rfl Tryz.f45' rfl (by decide) rfl) rfl ?_
   refine Zf (Zi rfl Tryz.f36' rfl (by decide) rfl) rfl ?_
   refine Zq rfl rfl ?_
   refine Zt trivial rfl Tryz.k34 rfl rfl rfl (vs := [_]) rfl rfl (by first | rfl | assumption | simp [Value.oneCell', str]) (Nat.le_of_ble_eq_true rfl) rfl ?_
   refine Zd (ρ' := [(0, _), (4, _), (5, _), (6, _), (7, _), (13, _), (14, _), (15, _)]) ⟨rfl, rfl, rfl, rfl, rfl, rfl, rfl, rfl, trivial⟩ ?_
   refine Zb (Zc (Za (Zf (Zi rfl Tryz.f45' rfl (by decide) rfl) rfl ?_)))
   refine Zf (Zi rfl Tryz.f36' rfl (by decide) rfl) rfl ?_
   refine Zf (Zj rfl Tryz.k22 rfl rfl rfl (vs := [_]) rfl rfl rfl) rfl ?_
   refine Zq rfl rfl ?_
   refine Zaz (caps := []) (ρ' := [(0, _), (4, _), (5, _), (6, _), (7, _), (13, _), (14, _), (15, _)]) [] [629] trivial rfl rfl rfl Tryz.c17 rfl rfl ⟨rfl, rfl, rfl, rfl, rfl, rfl, rfl, rfl, trivial⟩ rfl rfl rfl (FnO.mono (clonePrW_fn vp a.pairs.length (pairsC a.pairs) (by omega) (oneCell_pairs _) uA (s2.mono hleA)) ?_)
   rintro v uB l1 hleB ⟨ad2, cap2, rfl, rfl⟩ -
   refine ⟨trivial, ?_⟩
   refine Zf (Zi rfl Tryz.f45' rfl (by decide) rfl) rfl ?_
   refine Zf (Zi rfl Tryz.f36' rfl (by decide) rfl) rfl ?_
   refine Zq rfl rfl ?_
   refine Zt trivial rfl Tryz.k22 rfl rfl rfl (vs := [_]) rfl rfl (by first | rfl | assumption | simp [Value.oneCell', str]) (Nat.le_of_ble_eq_true rfl) rfl ?_
   refine Zd (ρ' := [(0, _), (4, _), (5, _), (6, _), (7, _), (13, _), (14, _), (15, _)]) ⟨rfl, rfl, rfl, rfl, rfl, rfl, rfl, rfl, trivial⟩ ?_
   refine Zb (Zc (Za (Zf (Zi rfl Tryz.f45' rfl (by decide) rfl) rfl ?_)))
   refine Zf (Zj rfl Tryz.k34 rfl rfl rfl (vs := [_]) rfl rfl rfl) rfl ?_
   refine Zq rfl rfl ?_
   refine Zbb (caps := []) trivial rfl rfl Tryz.c36 rfl (FnP.mono (cloneStr_fn va args (by omega) uB ((s3.mono hleA).mono hleB)) ?_)
   rintro v uC hle0 ⟨ad3, cap3, rfl, w3⟩ hleC
   refine Zf (Zi rfl Tryz.f45' rfl (by decide) rfl) rfl ?_
   refine Zq rfl rfl ?_
   refine Zt trivial rfl Tryz.k34 rfl rfl rfl (vs := [_]) rfl rfl (by first | rfl | assumption | simp [Value.oneCell', str]) (Nat.le_of_ble_eq_true rfl) rfl ?_
   refine Zd (ρ' := [(0, _), (4, _), (5, _), (6, _), (7, _), (13, _), (14, _), (15, _)]) ⟨rfl, rfl, rfl, rfl, rfl, rfl, rfl, rfl, trivial⟩ ?_
   refine Zb (Zc (Za (Zf (Zi rfl Tryz.f45' rfl (by decide) rfl) rfl ?_)))
   refine Zf (Zj rfl Tryz.k43 rfl rfl rfl (vs := [_]) rfl rfl rfl) rfl ?_
   refine Zq rfl rfl ?_
   refine Zbb (caps := []) trivial rfl rfl Tryz.c71 rfl (FnP.mono (cloneCi_fn vt cites (by omega) uC (((s4.mono hleA).mono hleB).mono hleC)) ?_)
   rintro v uD hle0 ⟨ad4, cap4, rfl, w4⟩ hleD
   refine Zf (Zi rfl Tryz.f45' rfl (by decide) rfl) rfl ?_
   refine Zq rfl rfl ?_
   refine Zt trivial rfl Tryz.k43 rfl rfl rfl (vs := [_]) rfl rfl (by first | rfl | assumption | simp [Value.oneCell', str]) (Nat.le_of_ble_eq_true rfl) rfl ?_
   refine Zd (ρ' := [(0, _), (4, _), (5, _), (6, _), (7, _), (13, _), (14, _), (15, _)]) ⟨rfl, rfl, rfl, rfl, rfl, rfl, rfl, rfl, trivial⟩ ?_
   refine Zb (Zc (Za (Zf (Zi rfl Tryz.f45' rfl (by decide) rfl) rfl ?_)))
   refine Zf (Zj rfl Tryz.k37 rfl rfl rfl (vs := [_]) rfl rfl rfl) rfl ?_
   refine Zq rfl rfl ?_
   refine Zaz (caps := []) (ρ' := [(0, _), (4, _), (5, _), (6, _), (7, _), (13, _), (14, _), (15, _)]) [] [643] trivial rfl rfl rfl Tryz.c37 rfl rfl ⟨rfl, rfl, rfl, rfl, rfl, rfl, rfl, rfl, trivial⟩ rfl rfl rfl (FnO.mono (ih (szI kids) (by omega) vk kids uD (Nat.le_refl _) (by omega) hsmk ((((s5.mono hleA).mono hleB).mono hleC).mono hleD)) ?_)
   rintro v uE l1 hleE ⟨ad5, cap5, c5, rfl, rfl, w5⟩ -
   refine ⟨trivial, ?_⟩
   have hleL : VLe u' uE := hleA.trans (hleB.trans (hleC.trans (hleD.trans hleE)))
   have hxL := hx.mono hleL
   have h1L := h1.mono hleL
   refine ym rfl rfl (Zf (Zbo rfl rfl rfl) rfl ?_)
   refine Zf (Zbo rfl rfl rfl) rfl ?_
   refine ya rfl rfl (ya rfl rfl (Zd (ρ' := [(0, _), (4, _), (5, _), (6, _), (7, _), (8, _), (9, _), (13, _), (14, _), (15, _)]) ⟨rfl, rfl, rfl, rfl, rfl, rfl, rfl, rfl, rfl, rfl, trivial⟩ ?_))
   refine Zb (Zc ?_)
   refine Zca 5 ((fixI (xs.take i)).2 || (fixI kids).2) (ρk := [(0, _), (4, _), (6, _), (7, _), (8, _), (13, _), (14, _), (15, _)]) ⟨rfl, rfl, rfl, rfl, rfl, rfl, rfl, rfl, trivial⟩ ?_ ?_
   ·
    refine Za (ym rfl rfl (ym rfl rfl ?_))
    rcases Bool.eq_false_or_eq_true ((fixI (xs.take i)).2) with hg11_1 | hg11_1
    ·
     simp only [hg11_1]
     refine Zo rfl rfl rfl rfl (Zf (Zl rfl rfl rfl) rfl (ya rfl rfl ?_))
     exact Zak rfl ⟨rfl, rfl, rfl, rfl, rfl, rfl, rfl, rfl, trivial⟩ (by first | (rw [hg11_1]; rfl) | (simp only [hg11_1]; rfl) | simp)
    ·
     simp only [hg11_1]
     refine Zk rfl rfl (ym rfl rfl (Zf (Zm rfl rfl rfl) rfl (ya rfl rfl ?_)))
     exact Zak rfl ⟨rfl, rfl, rfl, rfl, rfl, rfl, rfl, rfl, trivial⟩ (by first | (rw [hg11_1]; rfl) | (simp only [hg11_1]; rfl) | simp)
   refine Zb ?_
   refine Zbv (fun ρ σ uc16 => ∃ (vp3 : Value), VLe uE uc16 ∧ σ = [(612, (none, .rwv (.slice ado xs.length capo) 45 10 xs.length (acc ++ cs.drop (i * 10)))), (7, (none, .box [.int .i64 k, str t, str d, str ti, str a.id, .slice ad1 a.classes.length cap1, vp3, .slice ad3 args.length cap3, .slice ad4 cites.length cap4, vk])), (629, (none, .rwv vp3 49 2 (daI x a).1.pairs.length (pairsC (daI x a).1.pairs))), (643, (none, .rwv (.slice ad5 (fixI kids).1.length cap5) 45 10 (fixI kids).1.length c5))] ∧ ρ = [(0, .v (.slice ad xs.length cap)), (4, .v (.slice ado xs.length capo)), (5, .v (.bool (((fixI (xs.take i)).2 || (fixI kids).2) || (daI x a).2))), (6, .v (.int .i64 i)), (7, .p 7 0), (8, .v (.slice ad5 (fixI kids).1.length cap5)), (13, .v (.slice ad xs.length cap)), (14, .v (.int .i64 xs.length)), (15, .v (.int .i64 i))] ∧ (Value.oneCell' vp3 = true)) ?_ ?_
   ·
    refine Zc (Za (ym rfl rfl (ym rfl rfl (Zf (Zai rfl Tryz.s37 rfl rfl h1L (j := i) rfl hlt) rfl ?_))))
    refine Zf (Zag rfl Tryz.k45 rfl (by assumption) (by omega) (by assumption) (vs := [_, _, _, _, _, _, _, _, _, _]) rfl rfl rfl rfl) rfl ?_
    refine Zq rfl rfl ?_
    refine Zw (caps := []) trivial rfl rfl Tryz.c48 rfl (FnP.mono (silentCb.2 uE x _ hsm1 (by omega) hxL) ?_)
    rintro v u1 hle1 rfl
    refine Zd (ρ' := [(0, _), (4, _), (5, _), (6, _), (7, _), (8, _), (13, _), (14, _), (15, _), (54, _)]) ⟨rfl, rfl, rfl, rfl, rfl, rfl, rfl, rfl, rfl, rfl, trivial⟩ ?_
    refine Zb ?_
    refine Zn rfl (fun hb12 => ?_) (fun hb12 => ?_)
    ·
     have hs12 : silent x = true := hb12
     have hda : daI x a = decoA a := if_pos hs12
     refine Zc (Za (ya rfl rfl (Zd (ρ' := [(0, _), (4, _), (5, _), (6, _), (7, _), (8, _), (13, _), (14, _), (15, _)]) ⟨rfl, rfl, rfl, rfl, rfl, rfl, rfl, rfl, rfl, trivial⟩ ?_)))
     refine Zb (Zc (Za (Zf (Zi rfl Tryz.f45' rfl (by decide) rfl) rfl ?_)))
     refine Zf (Zj rfl Tryz.k36 rfl rfl rfl (vs := [_, _, _]) rfl rfl rfl) rfl ?_
     refine Zq rfl rfl ?_
     refine Zaz (caps := []) (ρ' := [(0, _), (4, _), (5, _), (6, _), (7, _), (8, _), (13, _), (14, _), (15, _)]) [629] [] trivial rfl rfl rfl Tryz.c72 rfl rfl ⟨rfl, rfl, rfl, rfl, rfl, rfl, rfl, rfl, rfl, trivial⟩ rfl rfl rfl (FnO.mono (deco_fn a _ _ (by omega) rfl rfl uE) ?_)
     rintro v uF l1 hleF ⟨vp6, rfl, o6, hcl6, rfl⟩ -
     refine ⟨⟨fun _ h => h, trivial⟩, ?_⟩
     refine ym rfl rfl (Zf (Zbo rfl rfl rfl) rfl ?_)
     refine Zf (Zbo rfl rfl rfl) rfl ?_
     refine Zf (Zi rfl Tryz.f45' rfl (by decide) rfl) rfl ?_
     refine Zq rfl rfl ?_
     refine Zt trivial rfl Tryz.k36 rfl rfl rfl (vs := [_, _, _]) rfl rfl (by simp only [List.all_cons, List.all_nil, o6]; rfl) (Nat.le_of_ble_eq_true rfl) rfl ?_
     refine ya rfl rfl (Zd (ρ' := [(0, _), (4, _), (5, _), (6, _), (7, _), (8, _), (10, _), (13, _), (14, _), (15, _)]) ⟨rfl, rfl, rfl, rfl, rfl, rfl, rfl, rfl, rfl, rfl, trivial⟩ ?_)
     refine Zb ?_
     refine Zca 5 (((fixI (xs.take i)).2 || (fixI kids).2) || (daI x a).2) (ρk := [(0, _), (4, _), (6, _), (7, _), (8, _), (13, _), (14, _), (15, _)]) ⟨rfl, rfl, rfl, rfl, rfl, rfl, rfl, rfl, trivial⟩ ?_ ?_
     ·
      refine Za (ym rfl rfl (ym rfl rfl ?_))
      rcases Bool.eq_false_or_eq_true ((fixI (xs.take i)).2 || (fixI kids).2) with hg15_1 | hg15_1
      ·
       simp only [hg15_1]
       refine Zo rfl rfl rfl rfl (Zf (Zl rfl rfl rfl) rfl (ya rfl rfl ?_))
       exact Zak rfl ⟨rfl, rfl, rfl, rfl, rfl, rfl, rfl, rfl, trivial⟩ (by rw [hda]; first | (rw [hg15_1]; rfl) | (simp only [hg15_1]; rfl) | simp)
      ·
       simp only [hg15_1]
       refine Zk rfl rfl (ym rfl rfl (Zf (Zm rfl rfl rfl) rfl (ya rfl rfl ?_)))
       exact Zak rfl ⟨rfl, rfl, rfl, rfl, rfl, rfl, rfl, rfl, trivial⟩ (by rw [hda]; first | (rw [hg15_1]; rfl) | (simp only [hg15_1]; rfl) | simp)
     refine Zae ?_
     first
      | (refine ⟨[(0, _), (4, _), (5, _), (6, _), (7, _), (8, _), (13, _), (14, _), (15, _)], [(612, _), (7, _), (629, _), (643, _)], ⟨rfl, rfl, rfl, rfl, rfl, rfl, rfl, rfl, rfl, trivial⟩, ⟨rfl, rfl, rfl, rfl, trivial⟩, vp6, hleF, (by first | (rw [hda, (decoA_id a).1]; rfl) | (rw [hda]; rfl)), (by first | rfl | (rw [hda, Bool.or_false]; rfl) | (rw [hda]; simp; done)), ?_⟩
         (exact o6))
      | (refine ⟨[(0, _), (4, _), (5, _), (6, _), (7, _), (8, _), (13, _), (14, _), (15, _)], [(612, _), (7, _), (629, _), (643, _)], ⟨rfl, rfl, rfl, rfl, rfl, rfl, rfl, rfl, rfl, trivial⟩, ⟨rfl, rfl, rfl, rfl, trivial⟩, .slice ad2 a.pairs.length cap2, (VLe.refl _), (by first | (rw [hda, (decoA_id a).1]; rfl) | (rw [hda]; rfl)), (by first | rfl | (rw [hda, Bool.or_false]; rfl) | (rw [hda]; simp; done)), ?_⟩
         (exact rfl))
    ·
     have hs12 : ¬ silent x = true := by rw [hb12]; simp
     have hda : daI x a = (a, false) := if_neg hs12
     refine Zs (Zae ?_)
     first
      | (refine ⟨[(0, _), (4, _), (5, _), (6, _), (7, _), (8, _), (13, _), (14, _), (15, _)], [(612, _), (7, _), (629, _), (643, _)], ⟨rfl, rfl, rfl, rfl, rfl, rfl, rfl, rfl, rfl, trivial⟩, ⟨rfl, rfl, rfl, rfl, trivial⟩, vp6, hleF, (by first | (rw [hda, (decoA_id a).1]; rfl) | (rw [hda]; rfl)), (by first | rfl | (rw [hda, Bool.or_false]; rfl) | (rw [hda]; simp; done)), ?_⟩
         (exact o6))
      | (refine ⟨[(0, _), (4, _), (5, _), (6, _), (7, _), (8, _), (13, _), (14, _), (15, _)], [(612, _), (7, _), (629, _), (643, _)], ⟨rfl, rfl, rfl, rfl, rfl, rfl, rfl, rfl, rfl, trivial⟩, ⟨rfl, rfl, rfl, rfl, trivial⟩, .slice ad2 a.pairs.length cap2, (VLe.refl _), (by first | (rw [hda, (decoA_id a).1]; rfl) | (rw [hda]; rfl)), (by first | rfl | (rw [hda, Bool.or_false]; rfl) | (rw [hda]; simp; done)), ?_⟩
         (exact rfl))
   ·
    rintro ρ σ uc16 ⟨vp3, hlc16, rfl, rfl, o3⟩
    refine Zbv (fun ρ σ uc19 => ∃ (kad2 : Option Addr) (kcap2 : Nat) (ck : List Value), VLe uc16 uc19 ∧ σ = [(612, (none, .rwv (.slice ado xs.length capo) 45 10 xs.length (acc ++ cs.drop (i * 10)))), (7, (none, .box [.int .i64 k, str t, str d, str ti, str a.id, .slice ad1 a.classes.length cap1, vp3, .slice ad3 args.length cap3, .slice ad4 cites.length cap4, vk])), (629, (none, .rwv vp3 49 2 (daI x a).1.pairs.length (pairsC (daI x a).1.pairs))), (643, (none, .rwv (.slice kad2 (kidsR x d kids).length kcap2) 45 10 (kidsR x d kids).length ck))] ∧ ρ = [(0, .v (.slice ad xs.length cap)), (4, .v (.slice ado xs.length capo)), (5, .v (.bool ((((fixI (xs.take i)).2 || (fixI kids).2) || (daI x a).2) || addI x d))), (6, .v (.int .i64 i)), (7, .p 7 0), (8, .v (.slice kad2 (kidsR x d kids).length kcap2)), (13, .v (.slice ad xs.length cap)), (14, .v (.int .i64 xs.length)), (15, .v (.int .i64 i))] ∧ (InlsC uc19 (kidsR x d kids) ck ∧ (kidsR x d kids).length ≤ kids.length + 1)) ?_ ?_
    ·
     refine Zc ?_
     refine Zca 76 (addI x d) (ρk := [(0, _), (4, _), (5, _), (6, _), (7, _), (8, _), (13, _), (14, _), (15, _)]) ⟨rfl, rfl, rfl, rfl, rfl, rfl, rfl, rfl, rfl, trivial⟩ ?_ ?_
     ·
      refine Za (ym rfl rfl (ym rfl rfl (Zf (Zai rfl Tryz.s37 rfl rfl (h1L.mono hlc16) (j := i) rfl hlt) rfl ?_)))
      refine Zf (Zag rfl Tryz.k45 rfl (h1L.mono hlc16) hlt hcut1 (vs := [_, _, _, _, _, _, _, _, _, _]) rfl rfl rfl rfl) rfl ?_
      refine Zq rfl rfl ?_
      refine Zw (caps := []) trivial rfl rfl Tryz.c54 rfl (FnP.mono (muteCb.2 uc16 x _ hsm1 (by omega) (hxL.mono hlc16)) ?_)
      rintro v u1 hle1 rfl
      refine ym rfl rfl ?_
      rcases Bool.eq_false_or_eq_true (mute x) with hg16_5 | hg16_5
      ·
       simp only [hg16_5]
       refine Zk rfl rfl (Zf (Zi rfl Tryz.f45' rfl (by decide) rfl) rfl ?_)
       refine Zk rfl rfl (Zf (Zj rfl Tryz.k9 rfl rfl rfl (vs := [_]) rfl rfl rfl) rfl ?_)
       refine Zk rfl rfl (Zq rfl rfl ?_)
       refine Zw (caps := []) trivial rfl rfl Tryz.c40 rfl (FnP.mono (trim_fn d (by omega) uc16) ?_)
       rintro v u1 hle1 rfl
       refine Zk rfl rfl (Zf (Zbk rfl rfl rfl) rfl ?_)
       refine Zf (Zl rfl rfl rfl) rfl ?_
       exact Zak rfl ⟨rfl, rfl, rfl, rfl, rfl, rfl, rfl, rfl, rfl, trivial⟩ (by
       unfold addI
       have hb := trim_nil d
       first
        | (rw [hg16_5]; cases hbd : blank d with
          | true => simp [hb.2 hbd]
          | false => simp [show ¬ trim d = [] from fun e => by rw [hb.1 e] at hbd; cases hbd])
        | (rw [hg16_5]; rfl))
      ·
       simp only [hg16_5]
       iterate 4 refine Zo rfl rfl rfl rfl ?_
       refine Zf (Zm rfl rfl rfl) rfl ?_
       exact Zak rfl ⟨rfl, rfl, rfl, rfl, rfl, rfl, rfl, rfl, rfl, trivial⟩ (by
       unfold addI
       have hb := trim_nil d
       first
        | (rw [hg16_5]; cases hbd : blank d with
          | true => simp [hb.2 hbd]
          | false => simp [show ¬ trim d = [] from fun e => by rw [hb.1 e] at hbd; cases hbd])
        | (rw [hg16_5]; rfl))
     refine Zb ?_
     refine Zn rfl (fun hb16 => ?_) (fun hb16 => ?_)
     ·
      have h16 : addI x d = true := hb16
      have hka : kidsR x d kids = (fixI kids).1 ++ [tI d] := if_pos h16
      have hkn : (kidsR x d kids).length = (fixI kids).1.length + 1 := by rw [hka]; simp
      refine Zc (Za (ym rfl rfl (Zf (Zi rfl Tryz.f45' rfl (by decide) rfl) rfl ?_)))
      refine Zf (Zj rfl Tryz.k9 rfl rfl rfl (vs := [_]) rfl rfl rfl) rfl ?_
      refine Zf (Zbe rfl Tryz.f45' Tryz.z45 (ps := [(_, _), (_, _)]) rfl (vs := [_, _, _, _, _, _, _, _, _, _]) rfl) rfl ?_
      refine Zq rfl rfl ?_
      refine Zac trivial Tryz.s37 Tryz.z45 (ps := [(_, _)]) rfl (xs := [_, _, _, _, _, _, _, _, _, _]) rfl rfl rfl rfl rfl rfl rfl ?_
      refine Zq rfl rfl ?_
      refine Zbd 643 trivial rfl rfl Tryz.s37 Tryz.z45 rfl rfl rfl rfl rfl rfl (by simp [Value.oneCell', str]) (by omega) (by omega) rfl rfl ?_
      intro ad17 cap17
      refine ya rfl rfl (Zd (ρ' := [(0, _), (4, _), (6, _), (7, _), (8, _), (13, _), (14, _), (15, _)]) ⟨rfl, rfl, rfl, rfl, rfl, rfl, rfl, rfl, trivial⟩ ?_)
      refine Zb (Za (ya rfl rfl (Zd (ρ' := [(0, _), (4, _), (5, _), (6, _), (7, _), (8, _), (13, _), (14, _), (15, _)]) ⟨rfl, rfl, rfl, rfl, rfl, rfl, rfl, rfl, rfl, trivial⟩ ?_)))
      refine Zae ?_
      first
       | (refine ⟨[(0, _), (4, _), (5, _), (6, _), (7, _), (8, _), (13, _), (14, _), (15, _)], [(612, _), (7, _), (629, _), (643, _)], ⟨rfl, rfl, rfl, rfl, rfl, rfl, rfl, rfl, rfl, trivial⟩, ⟨rfl, rfl, rfl, rfl, trivial⟩, ad17, cap17, _, (VLe.refl _), (by rw [hkn]; first | rfl | done), (by rw [hkn, h16]; first | rfl | (simp; done)), ?_⟩
          (refine ⟨?_, by omega⟩; rw [hka]; exact inlsC_snoc (w5.mono hlc16) (tI_cells _ d (by omega))))
       | (refine ⟨[(0, _), (4, _), (5, _), (6, _), (7, _), (8, _), (13, _), (14, _), (15, _)], [(612, _), (7, _), (629, _), (643, _)], ⟨rfl, rfl, rfl, rfl, rfl, rfl, rfl, rfl, rfl, trivial⟩, ⟨rfl, rfl, rfl, rfl, trivial⟩, ad5, cap5, c5, (VLe.refl _), (by rw [hkn]; first | rfl | done), (by rw [hkn, h16]; first | rfl | (simp; done)), ?_⟩
          (refine ⟨?_, by omega⟩; rw [hka]; exact w5.mono hlc16))
     ·
      have h16 : addI x d = false := by simpa using hb16
      have hka : kidsR x d kids = (fixI kids).1 := if_neg (by rw [h16]; simp)
      have hkn : (kidsR x d kids).length = (fixI kids).1.length := by rw [hka]
      refine Zs (Zae ?_)
      first
       | (refine ⟨[(0, _), (4, _), (5, _), (6, _), (7, _), (8, _), (13, _), (14, _), (15, _)], [(612, _), (7, _), (629, _), (643, _)], ⟨rfl, rfl, rfl, rfl, rfl, rfl, rfl, rfl, rfl, trivial⟩, ⟨rfl, rfl, rfl, rfl, trivial⟩, ad17, cap17, _, (VLe.refl _), (by rw [hkn]; first | rfl | done), (by rw [hkn, h16]; first | rfl | (simp; done)), ?_⟩
          (refine ⟨?_, by omega⟩; rw [hka]; exact inlsC_snoc (w5.mono hlc16) (tI_cells _ d (by omega))))
       | (refine ⟨[(0, _), (4, _), (5, _), (6, _), (7, _), (8, _), (13, _), (14, _), (15, _)], [(612, _), (7, _), (629, _), (643, _)], ⟨rfl, rfl, rfl, rfl, rfl, rfl, rfl, rfl, rfl, trivial⟩, ⟨rfl, rfl, rfl, rfl, trivial⟩, ad5, cap5, c5, (VLe.refl _), (by rw [hkn]; first | rfl | done), (by rw [hkn, h16]; first | rfl | (simp; done)), ?_⟩
          (refine ⟨?_, by omega⟩; rw [hka]; exact w5.mono hlc16))
    ·
     rintro ρ σ uc19 ⟨kad2, kcap2, ck, hlc19, rfl, rfl, ⟨wk, wkl⟩⟩
     refine Zc (Za ?_)
     refine rl_freezeW 643 rfl ?_
     intro uk hlek hslk
     refine rl_freezeW 629 rfl ?_
     intro up hlep hslp
     obtain ⟨ad8, cap8, e8, w8⟩ := hslk
     cases e8
     obtain ⟨ad9, cap9, rfl, w9⟩ := hslp
     refine ym rfl rfl (Zf (Zi rfl Tryz.f45' rfl (by decide) rfl) rfl ?_)
     refine Zq rfl rfl ?_
     refine Zt trivial rfl Tryz.k37 rfl rfl rfl (vs := [_]) rfl rfl (by first | rfl | assumption | simp [Value.oneCell', str]) (Nat.le_of_ble_eq_true rfl) rfl ?_
     refine Zd (ρ' := [(0, _), (4, _), (5, _), (6, _), (7, _), (13, _), (14, _), (15, _)]) ⟨rfl, rfl, rfl, rfl, rfl, rfl, rfl, rfl, trivial⟩ ?_
     refine Zb (Za (ym rfl rfl (ym rfl rfl (Zf (Zj rfl Tryz.k45 rfl rfl rfl (vs := [_, _, _, _, _, _, _, _, _, _]) rfl rfl rfl) rfl ?_))))
     refine Zf (Zbf 612 rfl Tryz.s37 rfl rfl rfl (j := i) rfl hlt) rfl ?_
     refine Zq rfl rfl ?_
     refine Zar trivial rfl Tryz.k45 rfl rfl rfl (vs := [_, _, _, _, _, _, _, _, _, _]) rfl rfl rfl (by rw [List.length_append, List.length_drop, hacl, hcl]; omega) (row_step hacl rfl hcl hlt) ?_
     refine Zd (ρ' := [(0, _), (4, _), (5, _), (13, _), (14, _), (15, _)]) ⟨rfl, rfl, rfl, rfl, rfl, rfl, trivial⟩ ?_
     refine Zaf (Zb (Za (Zf (Zas rfl rfl rfl (Zu (by omega))) rfl ?_)))
     refine ym rfl rfl (Zd (ρ' := [(0, _), (4, _), (5, _), (13, _), (14, _), (15, _)]) ⟨rfl, rfl, rfl, rfl, rfl, rfl, trivial⟩ ?_)
     refine Zae ?_
     refine ⟨m - 1, [(0, _), (4, _), (5, _), (13, _), (14, _), (15, _)], [(612, _)], by omega, ⟨rfl, rfl, rfl, rfl, rfl, rfl, trivial⟩, ⟨rfl, trivial⟩, i + 1, by omega, (hle4.trans (hleL.trans (hlc16.trans (hlc19.trans (hlek.trans hlep))))), _, rfl, (by rw [hft2]; first | rfl | (simp only [Bool.or_assoc]; rfl)), ?_⟩
     rw [hft1]
     have hlN := hlc16.trans (hlc19.trans (hlek.trans hlep))
     refine inlsC_snoc (hacc.mono (hleL.trans hlN)) ?_
     have hfin := InlC.mk' (u := up) (k := k) (t := t) (d := d) (ti := ti) (a := (daI x a).1) (args := args) (cites := cites) (kids := kidsR x d kids) (vc := .slice ad1 a.classes.length cap1)
      (by rw [da2]; exact ⟨_, _, rfl, w1.mono ((hleB.trans (hleC.trans (hleD.trans hleE))).trans hlN)⟩) ⟨_, _, rfl, w9⟩ ⟨_, _, rfl, w3.mono ((hleD.trans hleE).trans hlN)⟩ ⟨_, _, rfl, w4.mono (hleE.trans hlN)⟩
      (inlS_of rfl (w8.mono hlep) (wk.mono (hlek.trans hlep)))
      (by
       rw [← hxx] at hok
       unfold InlOk at hok ⊢
       exact ⟨hok.1, hok.2.1, hok.2.2.1, hok.2.2.2.1, hoka, hok.2.2.2.2.2.1, hok.2.2.2.2.2.2.1, by omega⟩)
     rw [da1] at hfin
     exact hfin
  ·
   have hge := of_decide_eq_false hb4
   refine Zat ?_
   refine Zp (Zp ?_)
   refine Zah ?_
   refine Zb (Zc (Za (ym rfl rfl (ym rfl rfl (ya rfl rfl (ya rfl rfl (Zd (ρ' := [(2, _), (3, _)]) ⟨rfl, rfl, trivial⟩ ?_)))))))
   refine Zb (Zv ?_)
   refine finO2 [612] (.tmp rfl) (.tmp rfl) rfl rfl ?_
   have hd : cs.drop (i * 10) = [] := List.drop_eq_nil_of_le (by omega)
   rw [List.take_of_length_le (by omega)] at hacc ⊢
   rw [hd, List.append_nil, fixI_len]
   exact ⟨ado, capo, acc, rfl, rfl, hacc⟩
theorem fixB_append : ∀ (xs ys : List Blk) (bf : Int), fixB bf (xs ++ ys) = ((fixB bf xs).1 ++ (fixB (fixB bf xs).2 ys).1, (fixB (fixB bf xs).2 ys).2)
 | [], ys, bf => by simp [fixB]
 | x :: xs, ys, bf => by
  rw [List.cons_append]
  simp only [fixB, fixB_append xs ys, List.cons_append]
theorem fixB_take {xs : List Blk} {i : Nat} {x : Blk} (h : xs[i]? = some x) (bf : Int) : (fixB bf (xs.take (i + 1))).1 = (fixB bf (xs.take i)).1 ++ [(fixb (fixB bf (xs.take i)).2 x).1] ∧ (fixB bf (xs.take (i + 1))).2 = (fixb (fixB bf (xs.take i)).2 x).2 := by
 obtain ⟨hlt, rfl⟩ := List.getElem?_eq_some_iff.1 h
 rw [List.take_succ_eq_append_getElem hlt, fixB_append]
 simp [fixB]
theorem fixB_len : ∀ (xs : List Blk) (bf : Int), (fixB bf xs).1.length = xs.length
 | [], bf => rfl
 | x :: xs, bf => by simp [fixB, fixB_len xs]
/- each line that is repaired is small -/
mutual
def rdB1 : Blk → Prop
 | .mk k _ _ _ _ _ _ line kids => (smI (ownR k line).1 ∧ szI (ownR k line).1 ≤ 1000) ∧ rdB kids
def rdB : List Blk → Prop
 | [] => True
 | x :: xs => rdB1 x ∧ rdB xs
end
theorem rdB_get : ∀ {xs : List Blk} {i : Nat} {x : Blk}, rdB xs → xs[i]? = some x → rdB1 x
 | [], i, x, _, h => by simp at h
 | y :: ys, 0, x, h, hi => by
  simp at hi; subst hi
  unfold rdB at h; exact h.1
 | y :: ys, i + 1, x, h, hi => by
  unfold rdB at h
  exact rdB_get h.2 (by simpa using hi)
theorem smI_left : ∀ {xs ys : List Inl}, smI (xs ++ ys) → smI xs
 | [], ys, _ => by unfold smI; trivial
 | x :: xs, ys, h => by
  rw [List.cons_append] at h
  unfold smI at h ⊢
  exact ⟨h.1, smI_left h.2⟩
theorem own_fix {k : Int} {line : List Inl} (h : smI (ownR k line).1 ∧ szI (ownR k line).1 ≤ 1000) : smI (fixI line).1 ∧ szI (fixI line).1 ≤ 1000 := by
 unfold ownR at h
 split at h
 ·
  have h2 : szI ((fixI line).1 ++ [tI untS]) = szI (fixI line).1 + szI [tI untS] := szI_append _ _
  exact ⟨smI_left h.1, by have := h.2; simp only at this; omega⟩
 ·
  exact h
theorem inlS_of' {u : View} {v : Value} {n : Nat} {xs : List Inl} {cs : List Value} (h : IsSl u v n 10 cs) (hc : InlsC u xs cs) : InlS u v xs := by
 obtain ⟨ad, cap, rfl, h⟩ := h
 have h1 := h.1
 have h2 := hc.len
 have e : n = xs.length := by omega
 exact inlS_of e h hc
theorem blkS_of' {u : View} {v : Value} {n : Nat} {xs : List Blk} {cs : List Value} (h : IsSl u v n 11 cs) (hc : BlksC u xs cs) : BlkS u v xs := by
 obtain ⟨ad, cap, rfl, h⟩ := h
 have h1 := h.1
 have h2 := hc.len
 have e : n = xs.length := by omega
 exact blkS_of e h hc
theorem fill_up (k v : Bs) (l : List (Bs × Bs)) : (fillM k v l).length ≤ l.length + 1 := by
 unfold fillM
 repeat' split
 ·
  omega
 ·
  rw [setP_len]; omega
 ·
  simp
 ·
  omega
end Go.Proofs.Ytoajhdnfdfbmaaa
