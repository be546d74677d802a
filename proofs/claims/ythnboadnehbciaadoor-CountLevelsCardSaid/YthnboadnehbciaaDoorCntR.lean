/- Count: the notes of a document. -/
import Derived.Test.YthnboadnehbciaaDoorDocE
import Derived.Test.YthnboadnehbciaaDoorDocM
import Derived.Test.YthnboadnehbciaaDoorEngRange
namespace Go.Proofs.Ythnboadnehbciaa
open Go Go.Eng
set_option linter.unusedSimpArgs false
set_option linter.unusedVariables false
set_option maxRecDepth 4000

/-- the map of the notes that are defined -/
def openM (l : List Blk) : List (Value × Value) := (noteNames l).foldl (fun m s => mset m (str s) (.bool true)) []
theorem openM_snoc (l : List Blk) (k lv : Int) (inf t d ti : Bs) (a : DAttr) (line : List Inl) (kids : List Blk) : openM (l ++ [.mk k lv inf t d ti a line kids]) = if k = 14 then mset (openM l) (str inf) (.bool true) else openM l := by
  unfold openM noteNames
  rw [List.filterMap_append, List.foldl_append]
  simp only [List.filterMap_cons, List.filterMap_nil, noteName]
  by_cases h : k = 14 <;> simp [h]
theorem openM_keys : ∀ (D : List Bs) (m : List (Value × Value)), SKeys m → SKeys (D.foldl (fun m s => mset m (str s) (.bool true)) m)
  | [], m, h => h
  | s :: D, m, h => openM_keys D _ h.mset
theorem openM_get : ∀ (D : List Bs) (m : List (Value × Value)) (s : Bs), SKeys m → (mget (D.foldl (fun m s => mset m (str s) (.bool true)) m) (str s)).getD (.bool false) = if s ∈ D then .bool true else (mget m (str s)).getD (.bool false)
  | [], m, s, h => by simp
  | x :: D, m, s, h => by
    rw [List.foldl_cons, openM_get D _ s h.mset, mget_mset _ _ _ _ h]
    by_cases h1 : s ∈ D
    · simp [h1]
    · by_cases h2 : s = x
      · subst h2; simp
      · simp [h1, h2]
/-- which notes are still without a reference -/
def OpenIs (m : List (Value × Value)) (D out : List Bs) : Prop := SKeys m ∧ ∀ s, (mget m (str s)).getD (.bool false) = .bool (decide (s ∈ D ∧ s ∉ out))
theorem openIs_start (l : List Blk) : OpenIs (openM l) (noteNames l) [] := by
  refine ⟨openM_keys _ _ rfl, fun s => ?_⟩
  unfold openM
  rw [openM_get (noteNames l) [] s rfl]
  by_cases h : s ∈ noteNames l <;> simp [h, mget_nil]
theorem OpenIs.use {m : List (Value × Value)} {D out : List Bs} (h : OpenIs m D out) (t : Bs) : OpenIs (mset m (str t) (.bool false)) D (out ++ [t]) := by
  refine ⟨h.1.mset, fun s => ?_⟩
  rw [mget_mset _ _ _ _ h.1]
  by_cases e : s = t
  · subst e; simp
  · rw [if_neg e, h.2 s]; simp [e]

abbrev notesJ (b3 bm : Nat) (l : List Blk) : List PO := [(some b3, .box [.map (some bm)]), (some bm, .mp (openM l))]
def notesK (vm : Value) (bs : List Blk) (ρ : Env) (σ : Own) (u1 : View) : Prop :=
  ∃ b3 bm b1 ad cap v1 T1 fr1, ρ = [(1, .p 1 0), (3, .p 3 0), (11, .v (.func (.func 52) #[] #[.pointer (some ⟨b1, 0, none⟩)]))] ∧ σ = [(1, (none, .box [vm, .slice ad bs.length cap])), (3, (some b3, .box [.map (some bm)])), (8, (some bm, .mp []))] ∧ u1 b1 = some (.cells #[v1] T1 fr1) ∧ BlkS u1 v1 bs ∧ BlkS u1 (.slice ad bs.length cap) bs
def notesM (b3 bm : Nat) (pre : List Blk) (x : Blk) (ρ : Env) (σ : Own) (u : View) : Prop :=
  ∃ k lv inf t d ti a line kids vc vp vl vk, x = .mk k lv inf t d ti a line kids ∧ ρ = [(3, .p 1000 0), (4, .p 4 0)] ∧ σ = [(4, (none, .box (blkV k lv inf t d ti a.id vc vp vl vk))), (1000, (some b3, .box [.map (some bm)])), (1001, (some bm, .mp (openM pre)))]

set_option maxHeartbeats 4000000 in
theorem notes_fn (vm vb : Value) (bs : List Blk) (u : View) (hbig : szB bs ≤ 10000) (hsm : smB bs) (ha : BlkS u vb bs) :
    FnP Tryd.prog 15 [.agg #[vm, vb]] u fun r u' => StrS u' r (notesOf bs) := by
  have ha2 := ha
  obtain ⟨cs, ⟨ad, cap, rfl, h1⟩, hc1⟩ := ha2
  have hll := listB_len bs
  have hls := szL_listB bs
  have hli := inls_len (listB bs)
  refine FnP.intro_range (α := Blk) (pre := [_, _]) [.tmp 2] (fun u x v => ∃ cs, v = .agg cs.toArray ∧ BlkC u x cs) (notesK vm bs) Tryd.func15 rfl rfl rfl rfl ?_ ?_
  · intro w0 D hw0
    refine wc_region ?_
    refine rl_do rfl rfl ?_
    refine do_box trivial rfl (cs := [_, _]) rfl rfl rfl rfl ?_
    refine rl_y (y_assign rfl rfl) rfl ?_
    refine rl_end (ρ' := [(1, _)]) ⟨rfl, trivial⟩ ?_
    refine ⟨rfl, ?_⟩
    refine wc_region ?_
    refine rl_do rfl rfl ?_
    refine do_makeMap trivial rfl rfl rfl ?_
    refine rl_do rfl rfl ?_
    refine do_alloc trivial Tryd.z74 rfl rfl rfl ?_
    refine rl_name 8 rfl ⟨8, 0, .inr rfl⟩ ?_
    intro b8
    refine rl_do rfl rfl ?_
    refine do_store_p trivial rfl Tryd.k74 rfl rfl rfl (vs := [_]) rfl rfl (by first | rfl | exact oneAll | exact oneAll2 | simp [Value.oneCell', str]) (Nat.le_of_ble_eq_true rfl) rfl ?_
    refine rl_name 3 rfl ⟨3, _, .inl rfl⟩ ?_
    intro b3
    refine rl_end (ρ' := [(1, _), (3, _)]) ⟨rfl, rfl, trivial⟩ ?_
    refine ⟨rfl, ?_⟩
    refine wc_region ?_
    refine rl_y (y_field_p rfl Tryd.f25' rfl (by decide) rfl) rfl ?_
    refine rl_y (y_load_p rfl Tryd.k23 rfl rfl rfl (vs := [_]) rfl rfl rfl) rfl ?_
    refine rl_do rfl rfl ?_
    refine do_call (caps := []) trivial rfl rfl Tryd.c36 rfl (FnP.mono (each_fn _ bs u ha) ?_)
    rintro v uE hle0 ⟨b1, v1, T1, fr1, rfl, hb1, ha1⟩ hleE
    refine rl_end (ρ' := [(1, _), (3, _), (11, _)]) ⟨rfl, rfl, rfl, trivial⟩ ?_
    exact ⟨rfl, [(1, _), (3, _), (11, _)], [(1, _), (3, _), (8, _)], ⟨rfl, rfl, rfl, trivial⟩, ⟨rfl, rfl, rfl, trivial⟩, b3, b8, b1, ad, cap, v1, T1, fr1, rfl, rfl, hb1, ha1, ha.mono hleE⟩
  · rintro ρ σ u1 hle ⟨b3, bm, b1, ad, cap, v1, T1, fr1, rfl, rfl, hb1, ha1, ha⟩
    refine ⟨52, [.pointer (some ⟨b1, 0, none⟩)], [3, 8], notesJ b3 bm, listB bs, [(3, .pointer (some ⟨b3, 0, none⟩))], [(1, .p 1 0), (3, .p 3 0)], notesM b3 bm, rfl, Tryd.c52, rfl, rfl, ?_, ⟨rfl, rfl, trivial⟩, rfl, ⟨fun _ h => h, fun _ h => h, trivial⟩, rfl, ?_, ?_, ?_, ?_⟩
    · intro k x hk
      simp only [gv] at hk
      split at hk
      · rename_i hb
        cases hk
        have := Nat.eq_of_beq_eq_true hb
        subst this
        rfl
      · cases hk
    · intro L Y hY H I hYI
      exact FnO.mono (eachIt_fn b1 L Y v1 T1 fr1 bs H I u1 (by omega) hb1 ha1 (fun pre H I h u' x cs hv hc => hY pre H I h u' x _ hv ⟨cs, rfl, hc⟩) hYI) fun _ _ _ _ h => h
    · rintro L pre x v u' w0 D hv ⟨cs, rfl, hc⟩ hlt
      obtain ⟨k, lv, inf, t, d, ti, a, line, kids⟩ := x
      have oneAll := hc.one
      obtain ⟨vc, vp, vl, vk, rfl, s1, s2, s3, s4, hok⟩ := hc.cells
      refine wc_pin 3 1000 _ 0 rfl rfl ?_
      refine wc_region ?_
      refine rl_do rfl rfl ?_
      refine do_alloc trivial Tryd.z42 rfl rfl rfl ?_
      refine rl_do rfl rfl ?_
      refine do_store_p trivial rfl Tryd.k42 rfl rfl rfl (vs := [_, _, _, _, _, _, _, _, _, _, _]) rfl rfl (by first | rfl | exact oneAll | exact oneAll2 | simp [Value.oneCell', str]) (Nat.le_of_ble_eq_true rfl) rfl ?_
      refine rl_end (ρ' := [(3, _), (4, _)]) ⟨rfl, rfl, trivial⟩ ?_
      exact ⟨rfl, [(3, _), (4, _)], [(4, _), (1000, _), (1001, _)], ⟨rfl, rfl, trivial⟩, ⟨rfl, rfl, rfl, trivial⟩, k, lv, inf, t, d, ti, a, line, kids, vc, vp, vl, vk, rfl, rfl, rfl⟩
    · rintro L pre x ρ σ u'' w0 D ⟨k, lv, inf, t, d, ti, a, line, kids, vc, vp, vl, vk, rfl, rfl, rfl⟩
      have hkeys := openM_keys (noteNames pre) [] rfl
      have hsn := openM_snoc pre k lv inf t d ti a line kids
      unfold SKeys at hkeys
      refine wc_block ?_
      refine wc_seq ?_
      refine wc_region ?_
      refine rl_y (y_field_p rfl Tryd.f42' rfl (by decide) rfl) rfl ?_
      refine rl_y (y_load_p rfl Tryd.k3 rfl rfl rfl (vs := [_]) rfl rfl rfl) rfl ?_
      refine rl_y (y_eql rfl rfl rfl) rfl ?_
      refine rl_end (ρ' := [(3, _), (4, _), (15, _)]) ⟨rfl, rfl, rfl, trivial⟩ ?_
      refine q_then ?_
      refine wc_cond rfl (fun hb4 => ?_) (fun hb4 => ?_)
      ·
        rw [if_pos (of_decide_eq_true hb4)] at hsn
        refine wc_region ?_
        refine rl_y (y_load_bm (id2 := 1001) rfl Tryd.k74 rfl rfl rfl rfl rfl) rfl ?_
        refine rl_y (y_field_p rfl Tryd.f42' rfl (by decide) rfl) rfl ?_
        refine rl_y (y_load_p rfl Tryd.k9 rfl rfl rfl (vs := [_]) rfl rfl rfl) rfl ?_
        refine rl_do rfl rfl ?_
        refine do_mapUpdate trivial rfl Tryd.m74 Tryd.str9 rfl rfl rfl rfl rfl hkeys ?_
        refine rl_end (ρ' := []) trivial ?_
        refine q_block ?_
        refine ⟨rfl, [1000, 1001], ?_, rfl⟩
        rw [show notesJ b3 bm (pre ++ [.mk k lv inf t d ti a line kids]) = [(some b3, .box [.map (some bm)]), (some bm, .mp (openM (pre ++ [.mk k lv inf t d ti a line kids])))] from rfl, hsn]
        rfl
      ·
        rw [if_neg (of_decide_eq_false hb4)] at hsn
        refine wc_skip ?_
        refine q_block ?_
        refine ⟨rfl, [1000, 1001], ?_, rfl⟩
        rw [show notesJ b3 bm (pre ++ [.mk k lv inf t d ti a line kids]) = [(some b3, .box [.map (some bm)]), (some bm, .mp (openM (pre ++ [.mk k lv inf t d ti a line kids])))] from rfl, hsn]
        rfl
    · intro w0 D df dH dI u2 hle2
      show WC _ _ [(1, .p 1 0), (3, .p 3 0)] [(3, (some b3, .box [.map (some bm)])), (8, (some bm, .mp (openM (listB bs)))), (900, (none, .fg dH dI)), (1, (none, .box [vm, .slice ad bs.length cap]))] _ _
      have hM0 := openIs_start (listB bs)
      refine wc_seq ?_
      refine wc_region ?_
      refine rl_y (y_assign rfl rfl) rfl ?_
      refine rl_own_nil 5 505 9 1 rfl rfl rfl ?_
      refine rl_end (ρ' := [(1, _), (3, _), (5, _)]) ⟨rfl, rfl, rfl, trivial⟩ ?_
      refine q_then ?_
      refine wc_seq ?_
      refine wc_seq ?_
      refine wc_region ?_
      refine rl_y (y_field_p rfl Tryd.f25' rfl (by decide) rfl) rfl ?_
      refine rl_y (y_load_p rfl Tryd.k23 rfl rfl rfl (vs := [_]) rfl rfl rfl) rfl ?_
      refine rl_do rfl rfl ?_
      refine do_call (caps := []) trivial rfl rfl Tryd.c37 rfl (FnP.mono (treeInlines_fn _ bs u2 (by omega) hsm (ha.mono hle2)) ?_)
      rintro v uI hle0 ⟨is, ⟨adi, capi, rfl, hi1⟩, hic⟩ hleI
      refine rl_y (y_len_v rfl rfl Tryd.s36 rfl) rfl ?_
      refine rl_y (y_move rfl rfl) rfl ?_
      refine rl_end (ρ' := [(3, _), (5, _), (21, _), (22, _), (23, _)]) ⟨rfl, rfl, rfl, rfl, rfl, trivial⟩ ?_
      refine q_then ?_
      refine wc_block ?_
      refine wc_loop (fun m ρ σ u' => ∃ i : Nat, i + m = (inls (listB bs)).length ∧ VLe uI u' ∧ ∃ (mi : List (Value × Value)), σ = [(3, (some b3, .box [.map (some bm)])), (8, (some bm, .mp mi)), (505, (none, .row 9 1 (notesIn (noteNames (listB bs)) ((inls (listB bs)).take i)).length (strsC (notesIn (noteNames (listB bs)) ((inls (listB bs)).take i))))), (900, (none, .fg dH dI))] ∧ ρ = [(3, .p 3 0), (5, .s 505), (21, .v (.slice adi (inls (listB bs)).length capi)), (22, .v (.int .i64 (inls (listB bs)).length)), (23, .v (.int .i64 i))] ∧ (uI = u' ∧ OpenIs mi (noteNames (listB bs)) (notesIn (noteNames (listB bs)) ((inls (listB bs)).take i)))) ((inls (listB bs)).length) ?_ ?_
      ·
        refine ⟨[(3, _), (5, _), (21, _), (22, _), (23, _)], [(3, _), (8, _), (505, _), (900, _)], ⟨rfl, rfl, rfl, rfl, rfl, trivial⟩, ⟨rfl, rfl, rfl, rfl, trivial⟩, 0, by omega, VLe.refl _, openM (listB bs), rfl, rfl, ?_⟩
        exact ⟨rfl, hM0⟩
      ·
        rintro m ρ σ u' ⟨i, hi8, hle8, mi, rfl, rfl, ⟨rfl, hM⟩⟩
        refine wc_seq ?_
        refine wc_region ?_
        refine rl_y (y_lss rfl rfl rfl) rfl ?_
        refine rl_end (ρ' := [(3, _), (5, _), (21, _), (22, _), (23, _), (24, _)]) ⟨rfl, rfl, rfl, rfl, rfl, rfl, trivial⟩ ?_
        refine q_then ?_
        refine wc_seq ?_
        refine wc_cond rfl (fun hb8 => ?_) (fun hb8 => ?_)
        ·
          refine wc_skip ?_
          refine q_then ?_
          refine wc_seq ?_
          refine wc_block ?_
          refine wc_seq ?_
          have hlt : i < (inls (listB bs)).length := by have := of_decide_eq_true hb8; omega
          obtain ⟨k, t, d, ti, a, args, cites, kids, vc, vp, va, vt, vk, hg, hcut1, s1, s2, s3, s4, s5, hok⟩ := hic.at hlt
          have oneAll := (hic.get i _ hg).one
          rw [hcut1] at oneAll
          have hkeys := hM.1
          unfold SKeys at hkeys
          have hst := notesIn_take (noteNames (listB bs)) hg
          have hnl := notesIn_len (noteNames (listB bs)) ((inls (listB bs)).take i)
          have htl : ((inls (listB bs)).take i).length ≤ i := by simp; omega
          have hO : noteStep (noteNames (listB bs)) (notesIn (noteNames (listB bs)) ((inls (listB bs)).take i)) (.mk k t d ti a args cites kids) = if k = 12 ∧ t ∈ noteNames (listB bs) ∧ t ∉ notesIn (noteNames (listB bs)) ((inls (listB bs)).take i) then notesIn (noteNames (listB bs)) ((inls (listB bs)).take i) ++ [t] else notesIn (noteNames (listB bs)) ((inls (listB bs)).take i) := rfl
          rw [hO] at hst
          refine wc_region ?_
          refine rl_y (y_index_e rfl Tryd.s36 rfl rfl (by assumption) (by first | rfl | omega) (by omega)) rfl ?_
          refine rl_y (y_load_el rfl Tryd.k57 rfl (by assumption) (by omega) (by assumption) (vs := [_, _, _, _, _, _, _, _, _, _]) rfl rfl rfl rfl) rfl ?_
          refine rl_do rfl rfl ?_
          refine do_alloc trivial Tryd.z57 rfl rfl rfl ?_
          refine rl_do rfl rfl ?_
          refine do_store_p trivial rfl Tryd.k57 rfl rfl rfl (vs := [_, _, _, _, _, _, _, _, _, _]) rfl rfl (by first | rfl | exact oneAll | exact oneAll2 | simp [Value.oneCell', str]) (Nat.le_of_ble_eq_true rfl) rfl ?_
          refine rl_end (ρ' := [(3, _), (5, _), (7, _), (21, _), (22, _), (23, _)]) ⟨rfl, rfl, rfl, rfl, rfl, rfl, trivial⟩ ?_
          refine q_then ?_
          refine wc_seq ?_
          refine wc_cutB 35 (decide (k = 12 ∧ t ∈ noteNames (listB bs) ∧ t ∉ notesIn (noteNames (listB bs)) ((inls (listB bs)).take i))) (ρk := [(3, _), (5, _), (7, _), (21, _), (22, _), (23, _)]) ⟨rfl, rfl, rfl, rfl, rfl, rfl, trivial⟩ ?_ ?_
          ·
            refine wc_region ?_
            refine rl_y (y_field_p rfl Tryd.f57' rfl (by decide) rfl) rfl ?_
            refine rl_y (y_load_p rfl Tryd.k3 rfl rfl rfl (vs := [_]) rfl rfl rfl) rfl ?_
            refine rl_y (y_eql rfl rfl rfl) rfl ?_
            refine rl_y (y_move rfl rfl) rfl ?_
            rcases Bool.eq_false_or_eq_true (decide (k = 12)) with hg10_3 | hg10_3
            ·
              simp only [hg10_3]
              refine rl_on rfl rfl ?_
              refine rl_y (y_load_bm (id2 := 8) rfl Tryd.k74 rfl rfl rfl rfl rfl) rfl ?_
              refine rl_on rfl rfl ?_
              refine rl_y (y_field_p rfl Tryd.f57' rfl (by decide) rfl) rfl ?_
              refine rl_on rfl rfl ?_
              refine rl_y (y_load_p rfl Tryd.k9 rfl rfl rfl (vs := [_]) rfl rfl rfl) rfl ?_
              refine rl_on rfl rfl ?_
              refine rl_y (y_lookup rfl Tryd.m74 Tryd.str9 Tryd.v4 rfl rfl rfl rfl rfl (by assumption)) rfl ?_
              rw [hM.2 t]
              refine rl_y (y_pick_t rfl rfl rfl) rfl ?_
              exact cutB_end rfl ⟨rfl, rfl, rfl, rfl, rfl, rfl, trivial⟩ (by simp_all)
            ·
              simp only [hg10_3]
              refine rl_off rfl rfl rfl rfl ?_
              refine rl_off rfl rfl rfl rfl ?_
              refine rl_off rfl rfl rfl rfl ?_
              refine rl_off rfl rfl rfl rfl ?_
              refine rl_y (y_pick_f rfl rfl rfl) rfl ?_
              exact cutB_end rfl ⟨rfl, rfl, rfl, rfl, rfl, rfl, trivial⟩ (by simp_all)
          refine q_then ?_
          refine wc_cond rfl (fun hb10 => ?_) (fun hb10 => ?_)
          ·
            have h5 := of_decide_eq_true hb10; rw [if_pos h5] at hst
            refine wc_seq ?_
            refine wc_region ?_
            refine rl_y (y_load_bm (id2 := 8) rfl Tryd.k74 rfl rfl rfl rfl rfl) rfl ?_
            refine rl_y (y_field_p rfl Tryd.f57' rfl (by decide) rfl) rfl ?_
            refine rl_y (y_load_p rfl Tryd.k9 rfl rfl rfl (vs := [_]) rfl rfl rfl) rfl ?_
            refine rl_do rfl rfl ?_
            refine do_mapUpdate trivial rfl Tryd.m74 Tryd.str9 rfl rfl rfl rfl rfl (by assumption) ?_
            refine rl_end (ρ' := [(3, _), (5, _), (7, _), (21, _), (22, _), (23, _)]) ⟨rfl, rfl, rfl, rfl, rfl, rfl, trivial⟩ ?_
            refine q_then ?_
            refine wc_region ?_
            refine rl_y (y_move rfl rfl) rfl ?_
            refine rl_y (y_field_p rfl Tryd.f57' rfl (by decide) rfl) rfl ?_
            refine rl_y (y_load_p rfl Tryd.k9 rfl rfl rfl (vs := [_]) rfl rfl rfl) rfl ?_
            refine rl_do rfl rfl ?_
            refine do_buildSlice trivial Tryd.s32 Tryd.z9 (ps := [(_, _)]) rfl (xs := [_]) rfl rfl rfl rfl rfl rfl rfl ?_
            refine rl_do rfl rfl ?_
            refine do_append_s trivial rfl rfl Tryd.s32 Tryd.z9 rfl rfl rfl rfl rfl rfl (by first | rfl | exact oneAll | exact oneAll2 | simp [Value.oneCell', str]) (by omega) (by omega) (ρ' := [(3, _), (21, _), (22, _), (23, _)]) ⟨rfl, rfl, rfl, rfl, trivial⟩ rfl rfl rfl ?_
            refine rl_y (y_assign rfl rfl) rfl ?_
            refine rl_ren 43 505 rfl rfl rfl ?_
            refine rl_end (ρ' := [(3, _), (5, _), (21, _), (22, _), (23, _)]) ⟨rfl, rfl, rfl, rfl, rfl, trivial⟩ ?_
            refine q_block ?_
            refine q_then ?_
            refine wc_region ?_
            refine rl_y (y_add rfl rfl rfl (wrap64_id (by omega))) rfl ?_
            refine rl_y (y_move rfl rfl) rfl ?_
            refine rl_end (ρ' := [(3, _), (5, _), (21, _), (22, _), (23, _)]) ⟨rfl, rfl, rfl, rfl, rfl, trivial⟩ ?_
            refine q_thenK ?_
            refine ⟨m - 1, [(3, _), (5, _), (21, _), (22, _), (23, _)], [(3, _), (8, _), (505, _), (900, _)], by omega, ⟨rfl, rfl, rfl, rfl, rfl, trivial⟩, ⟨rfl, rfl, rfl, rfl, trivial⟩, i + 1, by omega, hle8, _, (by simp only [hst, List.length_append, List.length_cons, List.length_nil, strsC, List.map_append, List.map_cons, List.map_nil]; rfl), (by first | rfl | simp), ?_⟩
            exact ⟨rfl, by rw [hst]; first | exact hM.use t | exact hM⟩
          ·
            have h5 := of_decide_eq_false hb10; rw [if_neg h5] at hst
            refine wc_skip ?_
            refine q_block ?_
            refine q_then ?_
            refine wc_region ?_
            refine rl_y (y_add rfl rfl rfl (wrap64_id (by omega))) rfl ?_
            refine rl_y (y_move rfl rfl) rfl ?_
            refine rl_end (ρ' := [(3, _), (5, _), (21, _), (22, _), (23, _)]) ⟨rfl, rfl, rfl, rfl, rfl, trivial⟩ ?_
            refine q_thenK ?_
            refine ⟨m - 1, [(3, _), (5, _), (21, _), (22, _), (23, _)], [(3, _), (8, _), (505, _), (900, _)], by omega, ⟨rfl, rfl, rfl, rfl, rfl, trivial⟩, ⟨rfl, rfl, rfl, rfl, trivial⟩, i + 1, by omega, hle8, _, (by simp only [hst, List.length_append, List.length_cons, List.length_nil, strsC, List.map_append, List.map_cons, List.map_nil]; rfl), (by first | rfl | simp), ?_⟩
            exact ⟨rfl, by rw [hst]; first | exact hM.use t | exact hM⟩
        ·
          refine wc_exit ?_
          refine q_then_exit ?_
          refine q_then_exit ?_
          refine q_block_hit ?_
          refine q_then ?_
          refine wc_seq ?_
          refine wc_region ?_
          refine rl_y (y_move rfl rfl) rfl ?_
          refine rl_freeze 505 rfl ?_
          intro ad505 cap505 u505 hle505z hsl505
          refine rl_y (y_assign rfl rfl) rfl ?_
          refine rl_end (ρ' := [(2, _)]) ⟨rfl, trivial⟩ ?_
          refine q_then ?_
          refine wc_ret ?_
          refine ⟨?_, rfl⟩
          refine fin1 (.tmp rfl) ?_
          have hge := of_decide_eq_false hb8
          rw [List.take_of_length_le (by omega)] at hsl505 ⊢
          exact strS_of rfl hsl505
end Go.Proofs.Ythnboadnehbciaa
