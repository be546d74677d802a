/- Texts for a law, part 4: they walk the functions that the law reaches, and state what holds of them; without conditions beyond each theorem's own. -/
import Derived.Test.YthkgcakpjknlbaaDoorPartC
namespace Go.Proofs.Ythkgcakpjknlbaa
open Go Go.Eng
set_option linter.unusedSimpArgs false
set_option linter.unusedVariables false
set_option maxRecDepth 4000
/-- what holds of blocks that are made anew -/
def GdB (R : RepI) (kp : Blk → Bool) (bs : List Blk) : Prop := ∀ x ∈ listB bs, R.Gd (lineOf x) ∧ (match x with | .mk _ _ _ _ _ _ a _ _ => a.classes.length ≤ 1000 ∧ a.pairs.length ≤ 1000)
theorem GdB.at {R : RepI} {kp : Blk → Bool} {bs : List Blk} (h : GdB R kp bs) {i : Nat} {k lv : Int} {inf t d ti : Bs} {a : DAttr} {line : List Inl} {kids : List Blk} (hg : bs[i]? = some (.mk k lv inf t d ti a line kids)) :
    R.Gd line ∧ a.classes.length ≤ 1000 ∧ a.pairs.length ≤ 1000 ∧ GdB R kp kids := by
  have hmem : ∀ y ∈ listb (.mk k lv inf t d ti a line kids), y ∈ listB bs := by
    intro y hy
    have : ∀ (bs : List Blk) (i : Nat), bs[i]? = some (.mk k lv inf t d ti a line kids) → y ∈ listB bs := by
      intro bs
      induction bs with
      | nil => intro i h; simp at h
      | cons b bs ih =>
        intro i h
        rw [listB, List.mem_append]
        cases i with
        | zero => simp at h; subst h; exact .inl hy
        | succ i => exact .inr (ih i (by simpa using h))
    exact this bs i hg
  have h0 := h _ (hmem _ (by rw [listb]; exact List.mem_cons_self))
  exact ⟨h0.1, h0.2.1, h0.2.2, fun y hy => h y (hmem y (by rw [listb]; exact List.mem_cons_of_mem _ hy))⟩
/-- the function that tells which blocks are kept -/
def CbK (kp : Blk → Bool) (kf : FuncId) (kc : List Value) : Prop := canCall Tryd.prog kf = true ∧ ∀ u x cs, BlkC u x cs → FnP Tryd.prog kf (.agg cs.toArray :: kc) u fun r _ => r = .bool (kp x)
theorem rebb_eq (kp : Blk → Bool) (g : List Inl → List Inl) (k lv : Int) (inf t d ti : Bs) (a : DAttr) (line : List Inl) (kids : List Blk) : rebb kp g (.mk k lv inf t d ti a line kids) = if kp (.mk k lv inf t d ti a line kids) = true then [.mk k lv inf t d ti a (g line) (rebB kp g kids)] else [] := by rw [rebb]
theorem evRb_eq (kp : Blk → Bool) (g : List Inl → List Inl) (k lv : Int) (inf t d ti : Bs) (a : DAttr) (line : List Inl) (kids : List Blk) : evRb kp g (.mk k lv inf t d ti a line kids) = if kp (.mk k lv inf t d ti a line kids) = true then g line ++ evRB kp g kids else [] := by rw [evRb]
set_option maxHeartbeats 8000000 in
theorem rebuild_fn (R : RepI) (kp : Blk → Bool) (kf : FuncId) (kc : List Value) (hK : CbK kp kf kc) (f : FuncId) (caps : List Value) (b0 : Nat) (Y : YI) (hM : ∀ u u' pre o, VLe u u' → Y u pre o → Y u' pre o) (hcF : canCall Tryd.prog f = true) (n : Nat) :
    ∀ (v : Value) (xs : List Blk) (pre : List Inl) (o : OO) (u : View), szB xs ≤ n → szB xs ≤ 100000 → GdB R kp xs → BlkS u v xs → CbR R (.func (.func f) #[] caps.toArray) b0 u Y → Y u pre o →
      FnO Tryd.prog 36 [v, .func (.func kf) #[] kc.toArray, .func (.func f) #[] caps.toArray] u [(some b0, o)] fun r u' l' => BlkS u' r (rebB kp R.g xs) ∧ ∃ o', l' = [(some b0, o')] ∧ Y u' (pre ++ evRB kp R.ev xs) o' := by
  induction n using Nat.strongRecOn with
  | _ n ih =>
  intro v xs pre o u hsz hbig hgd ha hR hY
  have hlx := len_szB xs
  obtain ⟨hcK, hK2⟩ := hK
  obtain ⟨cs, ⟨ad, cap, rfl, h1⟩, hc1⟩ := ha
  refine FnO.intro [.tmp 6] Tryd.func36 rfl rfl rfl ?_
  intro w0 D hw0
  refine wc_seq ?_
  refine wc_region ?_
  refine rl_y (y_assign rfl rfl) rfl ?_
  refine rl_end (ρ' := [(0, _), (1, _), (2, _)]) ⟨rfl, rfl, rfl, trivial⟩ ?_
  refine q_then ?_
  refine wc_seq ?_
  refine wc_region ?_
  refine rl_y (y_assign rfl rfl) rfl ?_
  refine rl_own_nil 7 507 42 11 rfl rfl rfl ?_
  refine rl_end (ρ' := [(0, _), (1, _), (2, _), (7, _)]) ⟨rfl, rfl, rfl, rfl, trivial⟩ ?_
  refine q_then ?_
  refine wc_seq ?_
  refine wc_seq ?_
  refine wc_region ?_
  refine rl_y (y_move rfl rfl) rfl ?_
  refine rl_y (y_len_v rfl rfl Tryd.s23 rfl) rfl ?_
  refine rl_y (y_move rfl rfl) rfl ?_
  refine rl_end (ρ' := [(1, _), (2, _), (7, _), (10, _), (11, _), (12, _)]) ⟨rfl, rfl, rfl, rfl, rfl, rfl, trivial⟩ ?_
  refine q_then ?_
  refine wc_block ?_
  refine wc_loop (fun m ρ σ u' => ∃ i : Nat, i + m = xs.length ∧ VLe u u' ∧ ∃ (acc : List Value) (oi : OO), σ = [(507, (none, .row 42 11 (rebB kp R.g (xs.take i)).length acc)), (1000, (some b0, oi))] ∧ ρ = [(1, .v (.func (.func kf) #[] kc.toArray)), (2, .v (.func (.func f) #[] caps.toArray)), (7, .s 507), (10, .v (.slice ad xs.length cap)), (11, .v (.int .i64 xs.length)), (12, .v (.int .i64 i))] ∧ (BlksC u' (rebB kp R.g (xs.take i)) acc ∧ Y u' (pre ++ evRB kp R.ev (xs.take i)) oi)) (xs.length) ?_ ?_
  ·
    refine ⟨[(1, _), (2, _), (7, _), (10, _), (11, _), (12, _)], [(507, _), (1000, _)], ⟨rfl, rfl, rfl, rfl, rfl, rfl, trivial⟩, ⟨rfl, rfl, trivial⟩, 0, by omega, VLe.refl _, [], o, (by simp [rebB]), rfl, ?_⟩
    exact ⟨by rw [List.take_zero, rebB]; exact BlksC.nil, by rw [List.take_zero, evRB, List.append_nil]; exact hY⟩
  ·
    rintro m ρ σ u' ⟨i, hi3, hle3, acc, oi, rfl, rfl, ⟨hacc, hYi⟩⟩
    refine wc_seq ?_
    refine wc_region ?_
    refine rl_y (y_lss rfl rfl rfl) rfl ?_
    refine rl_end (ρ' := [(1, _), (2, _), (7, _), (10, _), (11, _), (12, _), (13, _)]) ⟨rfl, rfl, rfl, rfl, rfl, rfl, rfl, trivial⟩ ?_
    refine q_then ?_
    refine wc_seq ?_
    refine wc_cond rfl (fun hb3 => ?_) (fun hb3 => ?_)
    ·
      have hlt : i < xs.length := by have := of_decide_eq_true hb3; omega
      have h1 := h1.mono hle3
      obtain ⟨k, lv, inf, t, d, ti, a, line, kids, vc, vp, vl, vk, hg, hcut1, s1, s2, s3, s4, hok⟩ := (hc1.mono hle3).at hlt
      have hx := (hc1.mono hle3).get i _ hg
      rw [hcut1] at hx
      have oneAll := hx.one
      obtain ⟨hgl, hca, hcp, hgk⟩ := hgd.at hg
      have hbs := rebB_take kp R.g hg
      have hes := evRB_take kp R.ev hg
      rw [rebb_eq] at hbs
      rw [evRb_eq] at hes
      have hszk := szB_kids hg
      have hrl := rebB_len kp R.g (xs.take i)
      have hrk := rebB_len kp R.g kids
      have htl : (xs.take i).length ≤ i := by simp; omega
      have hgll := R.gl line
      have hlll := R.len line hgl
      have hkl := len_szB kids
      refine wc_skip ?_
      refine q_then ?_
      refine wc_seq ?_
      refine wc_block ?_
      refine wc_seq ?_
      refine wc_region ?_
      refine rl_y (y_index_e rfl Tryd.s23 rfl rfl (by assumption) (by first | rfl | omega) (by omega)) rfl ?_
      refine rl_y (y_load_el rfl Tryd.k42 rfl (by assumption) (by omega) (by assumption) (vs := [_, _, _, _, _, _, _, _, _, _, _]) rfl rfl rfl rfl) rfl ?_
      refine rl_do rfl rfl ?_
      refine do_alloc trivial Tryd.z42 rfl rfl rfl ?_
      refine rl_do rfl rfl ?_
      refine do_store_p trivial rfl Tryd.k42 rfl rfl rfl (vs := [_, _, _, _, _, _, _, _, _, _, _]) rfl rfl (by first | rfl | exact oneAll | exact oneAll2 | simp [Value.oneCell', str]) (Nat.le_of_ble_eq_true rfl) rfl ?_
      refine rl_end (ρ' := [(1, _), (2, _), (7, _), (9, _), (10, _), (11, _), (12, _)]) ⟨rfl, rfl, rfl, rfl, rfl, rfl, rfl, trivial⟩ ?_
      refine q_then ?_
      refine wc_seq ?_
      refine wc_seq ?_
      refine wc_region ?_
      refine rl_y (y_move rfl rfl) rfl ?_
      refine rl_y (y_load_p rfl Tryd.k42 rfl rfl rfl (vs := [_, _, _, _, _, _, _, _, _, _, _]) rfl rfl rfl) rfl ?_
      refine rl_do rfl rfl ?_
      refine do_call_f (caps := kc) trivial rfl rfl hcK rfl (FnP.mono (hK2 u' _ _ hx) ?_)
      rintro v u1 hle1 rfl
      refine rl_y (y_not rfl rfl) rfl ?_
      refine rl_end (ρ' := [(1, _), (2, _), (7, _), (9, _), (10, _), (11, _), (12, _), (19, _)]) ⟨rfl, rfl, rfl, rfl, rfl, rfl, rfl, rfl, trivial⟩ ?_
      refine q_then ?_
      refine wc_cond rfl (fun hb5 => ?_) (fun hb5 => ?_)
      ·
        have h5 : ¬ kp (.mk k lv inf t d ti a line kids) = true := by simpa using hb5
        rw [if_neg h5, List.append_nil] at hbs hes
        refine wc_exit ?_
        refine q_then_exit ?_
        refine q_block_hit ?_
        refine q_then ?_
        refine wc_region ?_
        refine rl_y (y_add rfl rfl rfl (wrap64_id (by omega))) rfl ?_
        refine rl_y (y_move rfl rfl) rfl ?_
        refine rl_end (ρ' := [(1, _), (2, _), (7, _), (10, _), (11, _), (12, _)]) ⟨rfl, rfl, rfl, rfl, rfl, rfl, trivial⟩ ?_
        refine q_thenK ?_
        refine ⟨m - 1, [(1, _), (2, _), (7, _), (10, _), (11, _), (12, _)], [(507, _), (1000, _)], by omega, ⟨rfl, rfl, rfl, rfl, rfl, rfl, trivial⟩, ⟨rfl, rfl, trivial⟩, i + 1, by omega, (by first | exact hle3.trans hlc7 | exact hle3), _, _, (by first | (rw [hbs, List.length_append]; rfl) | (rw [hbs])), (by first | rfl | simp), ?_⟩
        first
          | (refine ⟨?_, ?_⟩; rw [hbs]; exact (hacc.mono hlc7).append (BlksC.one hx7); exact hY7)
          | (refine ⟨?_, ?_⟩; rw [hbs]; exact hacc; rw [hes]; exact hYi)
      ·
        have h5 : kp (.mk k lv inf t d ti a line kids) = true := by simpa using hb5
        rw [if_pos h5] at hbs hes
        refine wc_skip ?_
        refine q_then ?_
        refine wc_cut (fun ρ σ uc7 => ∃ (w1 w2 : Value) (w3 : Option Addr) (w4 : Nat) (w5 : Option Addr) (w6 : Nat) (o7 : OO), VLe u' uc7 ∧ σ = [(9, (none, .box (blkV k lv inf t d ti a.id w1 w2 (.slice w3 (R.g line).length w4) (.slice w5 (rebB kp R.g kids).length w6)))), (507, (none, .row 42 11 (rebB kp R.g (xs.take i)).length acc)), (1000, (some b0, o7))] ∧ ρ = [(1, .v (.func (.func kf) #[] kc.toArray)), (2, .v (.func (.func f) #[] caps.toArray)), (7, .s 507), (9, .p 9 0), (10, .v (.slice ad xs.length cap)), (11, .v (.int .i64 xs.length)), (12, .v (.int .i64 i))] ∧ (BlkC uc7 (.mk k lv inf t d ti a (R.g line) (rebB kp R.g kids)) (blkV k lv inf t d ti a.id w1 w2 (.slice w3 (R.g line).length w4) (.slice w5 (rebB kp R.g kids).length w6)) ∧ Y uc7 (pre ++ evRB kp R.ev (xs.take (i + 1))) o7)) ?_ ?_
        ·
          refine wc_draw Tryd.mixed rfl [] trivial ?_
          refine ra_y (i := 0) rfl (by kernel_rfl) (by kernel_rfl) (by kernel_rfl) (np_then (np_block (np_then (np_then (np_block (np_then (np_finO))))))) (y_field_p rfl Tryd.f42' rfl (by decide) rfl) rfl ?_
          refine ra_y (i := 3) rfl (by kernel_rfl) (by kernel_rfl) (by kernel_rfl) (np_then (np_block (np_then (np_then (np_block (np_then (np_finO))))))) (y_field_p rfl Tryd.f42' rfl (by decide) rfl) rfl ?_
          refine ra_y (i := 5) rfl (by kernel_rfl) (by kernel_rfl) (by kernel_rfl) (np_then (np_block (np_then (np_then (np_block (np_then (np_finO))))))) (y_move rfl rfl) rfl ?_
          refine ra_y (i := 7) rfl (by kernel_rfl) (by kernel_rfl) (by kernel_rfl) (np_then (np_block (np_then (np_then (np_block (np_then (np_finO))))))) (y_field_p rfl Tryd.f42' rfl (by decide) rfl) rfl ?_
          refine ra_y (i := 9) rfl (by kernel_rfl) (by kernel_rfl) (by kernel_rfl) (np_then (np_block (np_then (np_then (np_block (np_then (np_finO))))))) (y_move rfl rfl) rfl ?_
          refine ra_y (i := 10) rfl (by kernel_rfl) (by kernel_rfl) (by kernel_rfl) (np_then (np_block (np_then (np_then (np_block (np_then (np_finO))))))) (y_move rfl rfl) rfl ?_
          refine ra_all (is := [1, 4, 8]) (by kernel_rfl) rfl ?_
          refine raall_cons rfl rfl ?_ ?_
          ·
            refine do_y (y_load_p rfl Tryd.k39 rfl rfl rfl (vs := [_, _, _]) rfl rfl rfl) rfl ?_
            refine ra_all (is := [2, 4, 8]) (by kernel_rfl) rfl ?_
            refine raall_cons rfl rfl ?_ ?_
            ·
              refine do_call (caps := []) trivial rfl rfl Tryd.c51 rfl (FnP.mono (labCopyAttr_fn a _ _ _ (by omega) (by omega) s1 s2) ?_)
              rintro v uA hle0 ⟨vc3, vp3, rfl, ⟨ad5, cap5, rfl, w1⟩, ⟨ad6, cap6, rfl, w2⟩⟩ hleA
              refine ra_all (is := [4, 8]) (by kernel_rfl) rfl ?_
              refine raall_cons rfl rfl ?_ ?_
              ·
                refine do_y (y_load_p rfl Tryd.k40 rfl rfl rfl (vs := [_]) rfl rfl rfl) rfl ?_
                refine ra_all (is := [6, 8]) (by kernel_rfl) rfl ?_
                refine raall_cons rfl rfl ?_ ?_
                ·
                  refine do_call_o (caps := []) (ρ' := [(1, _), (2, _), (7, _), (9, _), (10, _), (11, _), (12, _), (22, _), (27, _), (29, _), (30, _)]) [1000] [] trivial rfl rfl rfl Tryd.c52 rfl rfl ⟨rfl, rfl, rfl, rfl, rfl, rfl, rfl, rfl, rfl, rfl, rfl, trivial⟩ rfl rfl rfl (FnO.mono (rebLine_fn R f caps b0 Y hM hcF (R.mm line) vl line _ oi uA (Nat.le_refl _) hgl (s3.mono hleA) ((hR.mono hle3).mono hleA) (hM _ _ _ _ hleA hYi)) ?_)
                  rintro v uK l1 hleK ⟨⟨lcs, ⟨lad, lcap, rfl, hl1⟩, hl2⟩, oK, rfl, hYK⟩ -
                  refine ⟨⟨fun _ h => h, trivial⟩, ?_⟩
                  refine ra_do (i := 8) rfl rfl (by kernel_rfl) ?_
                  refine do_y (y_load_p rfl Tryd.k23 rfl rfl rfl (vs := [_]) rfl rfl rfl) rfl ?_
                  refine ra_y (i := 12) rfl (by kernel_rfl) (by kernel_rfl) (by kernel_rfl) (np_then (np_block (np_then (np_then (np_block (np_then (np_finO))))))) (y_field_p rfl Tryd.f42' rfl (by decide) rfl) rfl ?_
                  refine ra_do (i := 11) rfl rfl (by kernel_rfl) ?_
                  refine do_call_o (caps := []) (ρ' := [(1, _), (2, _), (7, _), (9, _), (10, _), (11, _), (12, _), (22, _), (26, _), (32, _)]) [1000] [] trivial rfl rfl rfl Tryd.c36 rfl rfl ⟨rfl, rfl, rfl, rfl, rfl, rfl, rfl, rfl, rfl, rfl, trivial⟩ rfl rfl rfl (FnO.mono (ih (szB kids) (by omega) vk kids _ oK uK (Nat.le_refl _) (by omega) hgk ((s4.mono hleA).mono hleK) (((hR.mono hle3).mono hleA).mono hleK) hYK) ?_)
                  rintro v uQ l1 hleQ ⟨⟨kcs, ⟨kad, kcap, rfl, hk1⟩, hk2⟩, oQ, rfl, hYQ⟩ -
                  refine ⟨⟨fun _ h => h, trivial⟩, ?_⟩
                  refine ra_do (i := 13) rfl rfl (by kernel_rfl) ?_
                  refine do_store_p trivial rfl Tryd.k39 rfl rfl rfl (vs := [_, _, _]) rfl rfl (by first | rfl | exact oneAll | exact oneAll2 | simp [Value.oneCell', str]) (Nat.le_of_ble_eq_true rfl) rfl ?_
                  refine ra_y (i := 14) rfl (by kernel_rfl) (by kernel_rfl) (by kernel_rfl) (np_then (np_block (np_then (np_then (np_block (np_then (np_finO))))))) (y_field_p rfl Tryd.f42' rfl (by decide) rfl) rfl ?_
                  refine ra_do (i := 15) rfl rfl (by kernel_rfl) ?_
                  refine do_store_p trivial rfl Tryd.k40 rfl rfl rfl (vs := [_]) rfl rfl (by first | rfl | exact oneAll | exact oneAll2 | simp [Value.oneCell', str]) (Nat.le_of_ble_eq_true rfl) rfl ?_
                  refine ra_y (i := 16) rfl (by kernel_rfl) (by kernel_rfl) (by kernel_rfl) (np_then (np_block (np_then (np_then (np_block (np_then (np_finO))))))) (y_field_p rfl Tryd.f42' rfl (by decide) rfl) rfl ?_
                  refine ra_do (i := 17) rfl rfl (by kernel_rfl) ?_
                  refine do_store_p trivial rfl Tryd.k23 rfl rfl rfl (vs := [_]) rfl rfl (by first | rfl | exact oneAll | exact oneAll2 | simp [Value.oneCell', str]) (Nat.le_of_ble_eq_true rfl) rfl ?_
                  refine ra_end (by kernel_rfl) (ρ' := [(1, _), (2, _), (7, _), (9, _), (10, _), (11, _), (12, _)]) ⟨rfl, rfl, rfl, rfl, rfl, rfl, rfl, trivial⟩ ?_
                  refine q_thenK ?_
                  refine ⟨[(1, _), (2, _), (7, _), (9, _), (10, _), (11, _), (12, _)], [(9, _), (507, _), (1000, _)], ⟨rfl, rfl, rfl, rfl, rfl, rfl, rfl, trivial⟩, ⟨rfl, rfl, rfl, trivial⟩, _, _, lad, lcap, kad, kcap, oQ, (hleA.trans (hleK.trans hleQ)), (by first | rfl | simp), (by first | rfl | (simp only [List.cons.injEq, Prod.mk.injEq, SV.v.injEq, Value.int.injEq, true_and, and_true]; omega) | simp), ?_⟩
                  refine ⟨BlkC.mk' (StrS.mono ⟨_, _, rfl, w1⟩ (hleK.trans hleQ)) (PrS.mono ⟨_, _, rfl, w2⟩ (hleK.trans hleQ)) (InlS.mono ⟨lcs, ⟨lad, lcap, rfl, hl1⟩, hl2⟩ hleQ) ⟨kcs, ⟨kad, kcap, rfl, hk1⟩, hk2⟩ (by obtain ⟨o1, o2, o3, o4, o5, o6, o7, o8, o9⟩ := hok; exact ⟨o1, o2, o3, o4, o5, o6, o7, by omega, by omega⟩), by rw [hes]; simpa [List.append_assoc] using hYQ⟩
                refine raall_cons rfl rfl ?_ ?_
                ·
                  refine do_y (y_load_p rfl Tryd.k23 rfl rfl rfl (vs := [_]) rfl rfl rfl) rfl ?_
                  refine ra_y (i := 12) rfl (by kernel_rfl) (by kernel_rfl) (by kernel_rfl) (np_then (np_block (np_then (np_then (np_block (np_then (np_finO))))))) (y_field_p rfl Tryd.f42' rfl (by decide) rfl) rfl ?_
                  refine ra_do (i := 6) rfl rfl (by kernel_rfl) ?_
                  refine do_call_o (caps := []) (ρ' := [(1, _), (2, _), (7, _), (9, _), (10, _), (11, _), (12, _), (22, _), (28, _), (29, _), (30, _), (32, _)]) [1000] [] trivial rfl rfl rfl Tryd.c52 rfl rfl ⟨rfl, rfl, rfl, rfl, rfl, rfl, rfl, rfl, rfl, rfl, rfl, rfl, trivial⟩ rfl rfl rfl (FnO.mono (rebLine_fn R f caps b0 Y hM hcF (R.mm line) vl line _ oi uA (Nat.le_refl _) hgl (s3.mono hleA) ((hR.mono hle3).mono hleA) (hM _ _ _ _ hleA hYi)) ?_)
                  rintro v uK l1 hleK ⟨⟨lcs, ⟨lad, lcap, rfl, hl1⟩, hl2⟩, oK, rfl, hYK⟩ -
                  refine ⟨⟨fun _ h => h, trivial⟩, ?_⟩
                  refine ra_do (i := 11) rfl rfl (by kernel_rfl) ?_
                  refine do_call_o (caps := []) (ρ' := [(1, _), (2, _), (7, _), (9, _), (10, _), (11, _), (12, _), (22, _), (26, _), (32, _)]) [1000] [] trivial rfl rfl rfl Tryd.c36 rfl rfl ⟨rfl, rfl, rfl, rfl, rfl, rfl, rfl, rfl, rfl, rfl, trivial⟩ rfl rfl rfl (FnO.mono (ih (szB kids) (by omega) vk kids _ oK uK (Nat.le_refl _) (by omega) hgk ((s4.mono hleA).mono hleK) (((hR.mono hle3).mono hleA).mono hleK) hYK) ?_)
                  rintro v uQ l1 hleQ ⟨⟨kcs, ⟨kad, kcap, rfl, hk1⟩, hk2⟩, oQ, rfl, hYQ⟩ -
                  refine ⟨⟨fun _ h => h, trivial⟩, ?_⟩
                  refine ra_do (i := 13) rfl rfl (by kernel_rfl) ?_
                  refine do_store_p trivial rfl Tryd.k39 rfl rfl rfl (vs := [_, _, _]) rfl rfl (by first | rfl | exact oneAll | exact oneAll2 | simp [Value.oneCell', str]) (Nat.le_of_ble_eq_true rfl) rfl ?_
                  refine ra_y (i := 14) rfl (by kernel_rfl) (by kernel_rfl) (by kernel_rfl) (np_then (np_block (np_then (np_then (np_block (np_then (np_finO))))))) (y_field_p rfl Tryd.f42' rfl (by decide) rfl) rfl ?_
                  refine ra_do (i := 15) rfl rfl (by kernel_rfl) ?_
                  refine do_store_p trivial rfl Tryd.k40 rfl rfl rfl (vs := [_]) rfl rfl (by first | rfl | exact oneAll | exact oneAll2 | simp [Value.oneCell', str]) (Nat.le_of_ble_eq_true rfl) rfl ?_
                  refine ra_y (i := 16) rfl (by kernel_rfl) (by kernel_rfl) (by kernel_rfl) (np_then (np_block (np_then (np_then (np_block (np_then (np_finO))))))) (y_field_p rfl Tryd.f42' rfl (by decide) rfl) rfl ?_
                  refine ra_do (i := 17) rfl rfl (by kernel_rfl) ?_
                  refine do_store_p trivial rfl Tryd.k23 rfl rfl rfl (vs := [_]) rfl rfl (by first | rfl | exact oneAll | exact oneAll2 | simp [Value.oneCell', str]) (Nat.le_of_ble_eq_true rfl) rfl ?_
                  refine ra_end (by kernel_rfl) (ρ' := [(1, _), (2, _), (7, _), (9, _), (10, _), (11, _), (12, _)]) ⟨rfl, rfl, rfl, rfl, rfl, rfl, rfl, trivial⟩ ?_
                  refine q_thenK ?_
                  refine ⟨[(1, _), (2, _), (7, _), (9, _), (10, _), (11, _), (12, _)], [(9, _), (507, _), (1000, _)], ⟨rfl, rfl, rfl, rfl, rfl, rfl, rfl, trivial⟩, ⟨rfl, rfl, rfl, trivial⟩, _, _, lad, lcap, kad, kcap, oQ, (hleA.trans (hleK.trans hleQ)), (by first | rfl | simp), (by first | rfl | (simp only [List.cons.injEq, Prod.mk.injEq, SV.v.injEq, Value.int.injEq, true_and, and_true]; omega) | simp), ?_⟩
                  refine ⟨BlkC.mk' (StrS.mono ⟨_, _, rfl, w1⟩ (hleK.trans hleQ)) (PrS.mono ⟨_, _, rfl, w2⟩ (hleK.trans hleQ)) (InlS.mono ⟨lcs, ⟨lad, lcap, rfl, hl1⟩, hl2⟩ hleQ) ⟨kcs, ⟨kad, kcap, rfl, hk1⟩, hk2⟩ (by obtain ⟨o1, o2, o3, o4, o5, o6, o7, o8, o9⟩ := hok; exact ⟨o1, o2, o3, o4, o5, o6, o7, by omega, by omega⟩), by rw [hes]; simpa [List.append_assoc] using hYQ⟩
                exact raall_nil
              refine raall_cons rfl rfl ?_ ?_
              ·
                refine do_y (y_load_p rfl Tryd.k23 rfl rfl rfl (vs := [_]) rfl rfl rfl) rfl ?_
                refine ra_do (i := 4) rfl rfl (by kernel_rfl) ?_
                refine do_y (y_load_p rfl Tryd.k40 rfl rfl rfl (vs := [_]) rfl rfl rfl) rfl ?_
                refine ra_y (i := 12) rfl (by kernel_rfl) (by kernel_rfl) (by kernel_rfl) (np_then (np_block (np_then (np_then (np_block (np_then (np_finO))))))) (y_field_p rfl Tryd.f42' rfl (by decide) rfl) rfl ?_
                refine ra_do (i := 6) rfl rfl (by kernel_rfl) ?_
                refine do_call_o (caps := []) (ρ' := [(1, _), (2, _), (7, _), (9, _), (10, _), (11, _), (12, _), (22, _), (28, _), (29, _), (30, _), (32, _)]) [1000] [] trivial rfl rfl rfl Tryd.c52 rfl rfl ⟨rfl, rfl, rfl, rfl, rfl, rfl, rfl, rfl, rfl, rfl, rfl, rfl, trivial⟩ rfl rfl rfl (FnO.mono (rebLine_fn R f caps b0 Y hM hcF (R.mm line) vl line _ oi uA (Nat.le_refl _) hgl (s3.mono hleA) ((hR.mono hle3).mono hleA) (hM _ _ _ _ hleA hYi)) ?_)
                rintro v uK l1 hleK ⟨⟨lcs, ⟨lad, lcap, rfl, hl1⟩, hl2⟩, oK, rfl, hYK⟩ -
                refine ⟨⟨fun _ h => h, trivial⟩, ?_⟩
                refine ra_do (i := 11) rfl rfl (by kernel_rfl) ?_
                refine do_call_o (caps := []) (ρ' := [(1, _), (2, _), (7, _), (9, _), (10, _), (11, _), (12, _), (22, _), (26, _), (32, _)]) [1000] [] trivial rfl rfl rfl Tryd.c36 rfl rfl ⟨rfl, rfl, rfl, rfl, rfl, rfl, rfl, rfl, rfl, rfl, trivial⟩ rfl rfl rfl (FnO.mono (ih (szB kids) (by omega) vk kids _ oK uK (Nat.le_refl _) (by omega) hgk ((s4.mono hleA).mono hleK) (((hR.mono hle3).mono hleA).mono hleK) hYK) ?_)
                rintro v uQ l1 hleQ ⟨⟨kcs, ⟨kad, kcap, rfl, hk1⟩, hk2⟩, oQ, rfl, hYQ⟩ -
                refine ⟨⟨fun _ h => h, trivial⟩, ?_⟩
                refine ra_do (i := 13) rfl rfl (by kernel_rfl) ?_
                refine do_store_p trivial rfl Tryd.k39 rfl rfl rfl (vs := [_, _, _]) rfl rfl (by first | rfl | exact oneAll | exact oneAll2 | simp [Value.oneCell', str]) (Nat.le_of_ble_eq_true rfl) rfl ?_
                refine ra_y (i := 14) rfl (by kernel_rfl) (by kernel_rfl) (by kernel_rfl) (np_then (np_block (np_then (np_then (np_block (np_then (np_finO))))))) (y_field_p rfl Tryd.f42' rfl (by decide) rfl) rfl ?_
                refine ra_do (i := 15) rfl rfl (by kernel_rfl) ?_
                refine do_store_p trivial rfl Tryd.k40 rfl rfl rfl (vs := [_]) rfl rfl (by first | rfl | exact oneAll | exact oneAll2 | simp [Value.oneCell', str]) (Nat.le_of_ble_eq_true rfl) rfl ?_
                refine ra_y (i := 16) rfl (by kernel_rfl) (by kernel_rfl) (by kernel_rfl) (np_then (np_block (np_then (np_then (np_block (np_then (np_finO))))))) (y_field_p rfl Tryd.f42' rfl (by decide) rfl) rfl ?_
                refine ra_do (i := 17) rfl rfl (by kernel_rfl) ?_
                refine do_store_p trivial rfl Tryd.k23 rfl rfl rfl (vs := [_]) rfl rfl (by first | rfl | exact oneAll | exact oneAll2 | simp [Value.oneCell', str]) (Nat.le_of_ble_eq_true rfl) rfl ?_
                refine ra_end (by kernel_rfl) (ρ' := [(1, _), (2, _), (7, _), (9, _), (10, _), (11, _), (12, _)]) ⟨rfl, rfl, rfl, rfl, rfl, rfl, rfl, trivial⟩ ?_
                refine q_thenK ?_
                refine ⟨[(1, _), (2, _), (7, _), (9, _), (10, _), (11, _), (12, _)], [(9, _), (507, _), (1000, _)], ⟨rfl, rfl, rfl, rfl, rfl, rfl, rfl, trivial⟩, ⟨rfl, rfl, rfl, trivial⟩, _, _, lad, lcap, kad, kcap, oQ, (hleA.trans (hleK.trans hleQ)), (by first | rfl | simp), (by first | rfl | (simp only [List.cons.injEq, Prod.mk.injEq, SV.v.injEq, Value.int.injEq, true_and, and_true]; omega) | simp), ?_⟩
                refine ⟨BlkC.mk' (StrS.mono ⟨_, _, rfl, w1⟩ (hleK.trans hleQ)) (PrS.mono ⟨_, _, rfl, w2⟩ (hleK.trans hleQ)) (InlS.mono ⟨lcs, ⟨lad, lcap, rfl, hl1⟩, hl2⟩ hleQ) ⟨kcs, ⟨kad, kcap, rfl, hk1⟩, hk2⟩ (by obtain ⟨o1, o2, o3, o4, o5, o6, o7, o8, o9⟩ := hok; exact ⟨o1, o2, o3, o4, o5, o6, o7, by omega, by omega⟩), by rw [hes]; simpa [List.append_assoc] using hYQ⟩
              exact raall_nil
            refine raall_cons rfl rfl ?_ ?_
            ·
              refine do_y (y_load_p rfl Tryd.k40 rfl rfl rfl (vs := [_]) rfl rfl rfl) rfl ?_
              refine ra_all (is := [2, 8]) (by kernel_rfl) rfl ?_
              refine raall_cons rfl rfl ?_ ?_
              ·
                refine do_call (caps := []) trivial rfl rfl Tryd.c51 rfl (FnP.mono (labCopyAttr_fn a _ _ _ (by omega) (by omega) s1 s2) ?_)
                rintro v uA hle0 ⟨vc3, vp3, rfl, ⟨ad5, cap5, rfl, w1⟩, ⟨ad6, cap6, rfl, w2⟩⟩ hleA
                refine ra_all (is := [6, 8]) (by kernel_rfl) rfl ?_
                refine raall_cons rfl rfl ?_ ?_
                ·
                  refine do_call_o (caps := []) (ρ' := [(1, _), (2, _), (7, _), (9, _), (10, _), (11, _), (12, _), (22, _), (27, _), (29, _), (30, _)]) [1000] [] trivial rfl rfl rfl Tryd.c52 rfl rfl ⟨rfl, rfl, rfl, rfl, rfl, rfl, rfl, rfl, rfl, rfl, rfl, trivial⟩ rfl rfl rfl (FnO.mono (rebLine_fn R f caps b0 Y hM hcF (R.mm line) vl line _ oi uA (Nat.le_refl _) hgl (s3.mono hleA) ((hR.mono hle3).mono hleA) (hM _ _ _ _ hleA hYi)) ?_)
                  rintro v uK l1 hleK ⟨⟨lcs, ⟨lad, lcap, rfl, hl1⟩, hl2⟩, oK, rfl, hYK⟩ -
                  refine ⟨⟨fun _ h => h, trivial⟩, ?_⟩
                  refine ra_do (i := 8) rfl rfl (by kernel_rfl) ?_
                  refine do_y (y_load_p rfl Tryd.k23 rfl rfl rfl (vs := [_]) rfl rfl rfl) rfl ?_
                  refine ra_y (i := 12) rfl (by kernel_rfl) (by kernel_rfl) (by kernel_rfl) (np_then (np_block (np_then (np_then (np_block (np_then (np_finO))))))) (y_field_p rfl Tryd.f42' rfl (by decide) rfl) rfl ?_
                  refine ra_do (i := 11) rfl rfl (by kernel_rfl) ?_
                  refine do_call_o (caps := []) (ρ' := [(1, _), (2, _), (7, _), (9, _), (10, _), (11, _), (12, _), (22, _), (26, _), (32, _)]) [1000] [] trivial rfl rfl rfl Tryd.c36 rfl rfl ⟨rfl, rfl, rfl, rfl, rfl, rfl, rfl, rfl, rfl, rfl, trivial⟩ rfl rfl rfl (FnO.mono (ih (szB kids) (by omega) vk kids _ oK uK (Nat.le_refl _) (by omega) hgk ((s4.mono hleA).mono hleK) (((hR.mono hle3).mono hleA).mono hleK) hYK) ?_)
                  rintro v uQ l1 hleQ ⟨⟨kcs, ⟨kad, kcap, rfl, hk1⟩, hk2⟩, oQ, rfl, hYQ⟩ -
                  refine ⟨⟨fun _ h => h, trivial⟩, ?_⟩
                  refine ra_do (i := 13) rfl rfl (by kernel_rfl) ?_
                  refine do_store_p trivial rfl Tryd.k39 rfl rfl rfl (vs := [_, _, _]) rfl rfl (by first | rfl | exact oneAll | exact oneAll2 | simp [Value.oneCell', str]) (Nat.le_of_ble_eq_true rfl) rfl ?_
                  refine ra_y (i := 14) rfl (by kernel_rfl) (by kernel_rfl) (by kernel_rfl) (np_then (np_block (np_then (np_then (np_block (np_then (np_finO))))))) (y_field_p rfl Tryd.f42' rfl (by decide) rfl) rfl ?_
                  refine ra_do (i := 15) rfl rfl (by kernel_rfl) ?_
                  refine do_store_p trivial rfl Tryd.k40 rfl rfl rfl (vs := [_]) rfl rfl (by first | rfl | exact oneAll | exact oneAll2 | simp [Value.oneCell', str]) (Nat.le_of_ble_eq_true rfl) rfl ?_
                  refine ra_y (i := 16) rfl (by kernel_rfl) (by kernel_rfl) (by kernel_rfl) (np_then (np_block (np_then (np_then (np_block (np_then (np_finO))))))) (y_field_p rfl Tryd.f42' rfl (by decide) rfl) rfl ?_
                  refine ra_do (i := 17) rfl rfl (by kernel_rfl) ?_
                  refine do_store_p trivial rfl Tryd.k23 rfl rfl rfl (vs := [_]) rfl rfl (by first | rfl | exact oneAll | exact oneAll2 | simp [Value.oneCell', str]) (Nat.le_of_ble_eq_true rfl) rfl ?_
                  refine ra_end (by kernel_rfl) (ρ' := [(1, _), (2, _), (7, _), (9, _), (10, _), (11, _), (12, _)]) ⟨rfl, rfl, rfl, rfl, rfl, rfl, rfl, trivial⟩ ?_
                  refine q_thenK ?_
                  refine ⟨[(1, _), (2, _), (7, _), (9, _), (10, _), (11, _), (12, _)], [(9, _), (507, _), (1000, _)], ⟨rfl, rfl, rfl, rfl, rfl, rfl, rfl, trivial⟩, ⟨rfl, rfl, rfl, trivial⟩, _, _, lad, lcap, kad, kcap, oQ, (hleA.trans (hleK.trans hleQ)), (by first | rfl | simp), (by first | rfl | (simp only [List.cons.injEq, Prod.mk.injEq, SV.v.injEq, Value.int.injEq, true_and, and_true]; omega) | simp), ?_⟩
                  refine ⟨BlkC.mk' (StrS.mono ⟨_, _, rfl, w1⟩ (hleK.trans hleQ)) (PrS.mono ⟨_, _, rfl, w2⟩ (hleK.trans hleQ)) (InlS.mono ⟨lcs, ⟨lad, lcap, rfl, hl1⟩, hl2⟩ hleQ) ⟨kcs, ⟨kad, kcap, rfl, hk1⟩, hk2⟩ (by obtain ⟨o1, o2, o3, o4, o5, o6, o7, o8, o9⟩ := hok; exact ⟨o1, o2, o3, o4, o5, o6, o7, by omega, by omega⟩), by rw [hes]; simpa [List.append_assoc] using hYQ⟩
                refine raall_cons rfl rfl ?_ ?_
                ·
                  refine do_y (y_load_p rfl Tryd.k23 rfl rfl rfl (vs := [_]) rfl rfl rfl) rfl ?_
                  refine ra_y (i := 12) rfl (by kernel_rfl) (by kernel_rfl) (by kernel_rfl) (np_then (np_block (np_then (np_then (np_block (np_then (np_finO))))))) (y_field_p rfl Tryd.f42' rfl (by decide) rfl) rfl ?_
                  refine ra_do (i := 6) rfl rfl (by kernel_rfl) ?_
                  refine do_call_o (caps := []) (ρ' := [(1, _), (2, _), (7, _), (9, _), (10, _), (11, _), (12, _), (22, _), (28, _), (29, _), (30, _), (32, _)]) [1000] [] trivial rfl rfl rfl Tryd.c52 rfl rfl ⟨rfl, rfl, rfl, rfl, rfl, rfl, rfl, rfl, rfl, rfl, rfl, rfl, trivial⟩ rfl rfl rfl (FnO.mono (rebLine_fn R f caps b0 Y hM hcF (R.mm line) vl line _ oi uA (Nat.le_refl _) hgl (s3.mono hleA) ((hR.mono hle3).mono hleA) (hM _ _ _ _ hleA hYi)) ?_)
                  rintro v uK l1 hleK ⟨⟨lcs, ⟨lad, lcap, rfl, hl1⟩, hl2⟩, oK, rfl, hYK⟩ -
                  refine ⟨⟨fun _ h => h, trivial⟩, ?_⟩
                  refine ra_do (i := 11) rfl rfl (by kernel_rfl) ?_
                  refine do_call_o (caps := []) (ρ' := [(1, _), (2, _), (7, _), (9, _), (10, _), (11, _), (12, _), (22, _), (26, _), (32, _)]) [1000] [] trivial rfl rfl rfl Tryd.c36 rfl rfl ⟨rfl, rfl, rfl, rfl, rfl, rfl, rfl, rfl, rfl, rfl, trivial⟩ rfl rfl rfl (FnO.mono (ih (szB kids) (by omega) vk kids _ oK uK (Nat.le_refl _) (by omega) hgk ((s4.mono hleA).mono hleK) (((hR.mono hle3).mono hleA).mono hleK) hYK) ?_)
                  rintro v uQ l1 hleQ ⟨⟨kcs, ⟨kad, kcap, rfl, hk1⟩, hk2⟩, oQ, rfl, hYQ⟩ -
                  refine ⟨⟨fun _ h => h, trivial⟩, ?_⟩
                  refine ra_do (i := 13) rfl rfl (by kernel_rfl) ?_
                  refine do_store_p trivial rfl Tryd.k39 rfl rfl rfl (vs := [_, _, _]) rfl rfl (by first | rfl | exact oneAll | exact oneAll2 | simp [Value.oneCell', str]) (Nat.le_of_ble_eq_true rfl) rfl ?_
                  refine ra_y (i := 14) rfl (by kernel_rfl) (by kernel_rfl) (by kernel_rfl) (np_then (np_block (np_then (np_then (np_block (np_then (np_finO))))))) (y_field_p rfl Tryd.f42' rfl (by decide) rfl) rfl ?_
                  refine ra_do (i := 15) rfl rfl (by kernel_rfl) ?_
                  refine do_store_p trivial rfl Tryd.k40 rfl rfl rfl (vs := [_]) rfl rfl (by first | rfl | exact oneAll | exact oneAll2 | simp [Value.oneCell', str]) (Nat.le_of_ble_eq_true rfl) rfl ?_
                  refine ra_y (i := 16) rfl (by kernel_rfl) (by kernel_rfl) (by kernel_rfl) (np_then (np_block (np_then (np_then (np_block (np_then (np_finO))))))) (y_field_p rfl Tryd.f42' rfl (by decide) rfl) rfl ?_
                  refine ra_do (i := 17) rfl rfl (by kernel_rfl) ?_
                  refine do_store_p trivial rfl Tryd.k23 rfl rfl rfl (vs := [_]) rfl rfl (by first | rfl | exact oneAll | exact oneAll2 | simp [Value.oneCell', str]) (Nat.le_of_ble_eq_true rfl) rfl ?_
                  refine ra_end (by kernel_rfl) (ρ' := [(1, _), (2, _), (7, _), (9, _), (10, _), (11, _), (12, _)]) ⟨rfl, rfl, rfl, rfl, rfl, rfl, rfl, trivial⟩ ?_
                  refine q_thenK ?_
                  refine ⟨[(1, _), (2, _), (7, _), (9, _), (10, _), (11, _), (12, _)], [(9, _), (507, _), (1000, _)], ⟨rfl, rfl, rfl, rfl, rfl, rfl, rfl, trivial⟩, ⟨rfl, rfl, rfl, trivial⟩, _, _, lad, lcap, kad, kcap, oQ, (hleA.trans (hleK.trans hleQ)), (by first | rfl | simp), (by first | rfl | (simp only [List.cons.injEq, Prod.mk.injEq, SV.v.injEq, Value.int.injEq, true_and, and_true]; omega) | simp), ?_⟩
                  refine ⟨BlkC.mk' (StrS.mono ⟨_, _, rfl, w1⟩ (hleK.trans hleQ)) (PrS.mono ⟨_, _, rfl, w2⟩ (hleK.trans hleQ)) (InlS.mono ⟨lcs, ⟨lad, lcap, rfl, hl1⟩, hl2⟩ hleQ) ⟨kcs, ⟨kad, kcap, rfl, hk1⟩, hk2⟩ (by obtain ⟨o1, o2, o3, o4, o5, o6, o7, o8, o9⟩ := hok; exact ⟨o1, o2, o3, o4, o5, o6, o7, by omega, by omega⟩), by rw [hes]; simpa [List.append_assoc] using hYQ⟩
                exact raall_nil
              refine raall_cons rfl rfl ?_ ?_
              ·
                refine do_y (y_load_p rfl Tryd.k23 rfl rfl rfl (vs := [_]) rfl rfl rfl) rfl ?_
                refine ra_do (i := 2) rfl rfl (by kernel_rfl) ?_
                refine do_call (caps := []) trivial rfl rfl Tryd.c51 rfl (FnP.mono (labCopyAttr_fn a _ _ _ (by omega) (by omega) s1 s2) ?_)
                rintro v uA hle0 ⟨vc3, vp3, rfl, ⟨ad5, cap5, rfl, w1⟩, ⟨ad6, cap6, rfl, w2⟩⟩ hleA
                refine ra_y (i := 12) rfl (by kernel_rfl) (by kernel_rfl) (by kernel_rfl) (np_then (np_block (np_then (np_then (np_block (np_then (np_finO))))))) (y_field_p rfl Tryd.f42' rfl (by decide) rfl) rfl ?_
                refine ra_do (i := 6) rfl rfl (by kernel_rfl) ?_
                refine do_call_o (caps := []) (ρ' := [(1, _), (2, _), (7, _), (9, _), (10, _), (11, _), (12, _), (22, _), (28, _), (29, _), (30, _), (32, _)]) [1000] [] trivial rfl rfl rfl Tryd.c52 rfl rfl ⟨rfl, rfl, rfl, rfl, rfl, rfl, rfl, rfl, rfl, rfl, rfl, rfl, trivial⟩ rfl rfl rfl (FnO.mono (rebLine_fn R f caps b0 Y hM hcF (R.mm line) vl line _ oi uA (Nat.le_refl _) hgl (s3.mono hleA) ((hR.mono hle3).mono hleA) (hM _ _ _ _ hleA hYi)) ?_)
                rintro v uK l1 hleK ⟨⟨lcs, ⟨lad, lcap, rfl, hl1⟩, hl2⟩, oK, rfl, hYK⟩ -
                refine ⟨⟨fun _ h => h, trivial⟩, ?_⟩
                refine ra_do (i := 11) rfl rfl (by kernel_rfl) ?_
                refine do_call_o (caps := []) (ρ' := [(1, _), (2, _), (7, _), (9, _), (10, _), (11, _), (12, _), (22, _), (26, _), (32, _)]) [1000] [] trivial rfl rfl rfl Tryd.c36 rfl rfl ⟨rfl, rfl, rfl, rfl, rfl, rfl, rfl, rfl, rfl, rfl, trivial⟩ rfl rfl rfl (FnO.mono (ih (szB kids) (by omega) vk kids _ oK uK (Nat.le_refl _) (by omega) hgk ((s4.mono hleA).mono hleK) (((hR.mono hle3).mono hleA).mono hleK) hYK) ?_)
                rintro v uQ l1 hleQ ⟨⟨kcs, ⟨kad, kcap, rfl, hk1⟩, hk2⟩, oQ, rfl, hYQ⟩ -
                refine ⟨⟨fun _ h => h, trivial⟩, ?_⟩
                refine ra_do (i := 13) rfl rfl (by kernel_rfl) ?_
                refine do_store_p trivial rfl Tryd.k39 rfl rfl rfl (vs := [_, _, _]) rfl rfl (by first | rfl | exact oneAll | exact oneAll2 | simp [Value.oneCell', str]) (Nat.le_of_ble_eq_true rfl) rfl ?_
                refine ra_y (i := 14) rfl (by kernel_rfl) (by kernel_rfl) (by kernel_rfl) (np_then (np_block (np_then (np_then (np_block (np_then (np_finO))))))) (y_field_p rfl Tryd.f42' rfl (by decide) rfl) rfl ?_
                refine ra_do (i := 15) rfl rfl (by kernel_rfl) ?_
                refine do_store_p trivial rfl Tryd.k40 rfl rfl rfl (vs := [_]) rfl rfl (by first | rfl | exact oneAll | exact oneAll2 | simp [Value.oneCell', str]) (Nat.le_of_ble_eq_true rfl) rfl ?_
                refine ra_y (i := 16) rfl (by kernel_rfl) (by kernel_rfl) (by kernel_rfl) (np_then (np_block (np_then (np_then (np_block (np_then (np_finO))))))) (y_field_p rfl Tryd.f42' rfl (by decide) rfl) rfl ?_
                refine ra_do (i := 17) rfl rfl (by kernel_rfl) ?_
                refine do_store_p trivial rfl Tryd.k23 rfl rfl rfl (vs := [_]) rfl rfl (by first | rfl | exact oneAll | exact oneAll2 | simp [Value.oneCell', str]) (Nat.le_of_ble_eq_true rfl) rfl ?_
                refine ra_end (by kernel_rfl) (ρ' := [(1, _), (2, _), (7, _), (9, _), (10, _), (11, _), (12, _)]) ⟨rfl, rfl, rfl, rfl, rfl, rfl, rfl, trivial⟩ ?_
                refine q_thenK ?_
                refine ⟨[(1, _), (2, _), (7, _), (9, _), (10, _), (11, _), (12, _)], [(9, _), (507, _), (1000, _)], ⟨rfl, rfl, rfl, rfl, rfl, rfl, rfl, trivial⟩, ⟨rfl, rfl, rfl, trivial⟩, _, _, lad, lcap, kad, kcap, oQ, (hleA.trans (hleK.trans hleQ)), (by first | rfl | simp), (by first | rfl | (simp only [List.cons.injEq, Prod.mk.injEq, SV.v.injEq, Value.int.injEq, true_and, and_true]; omega) | simp), ?_⟩
                refine ⟨BlkC.mk' (StrS.mono ⟨_, _, rfl, w1⟩ (hleK.trans hleQ)) (PrS.mono ⟨_, _, rfl, w2⟩ (hleK.trans hleQ)) (InlS.mono ⟨lcs, ⟨lad, lcap, rfl, hl1⟩, hl2⟩ hleQ) ⟨kcs, ⟨kad, kcap, rfl, hk1⟩, hk2⟩ (by obtain ⟨o1, o2, o3, o4, o5, o6, o7, o8, o9⟩ := hok; exact ⟨o1, o2, o3, o4, o5, o6, o7, by omega, by omega⟩), by rw [hes]; simpa [List.append_assoc] using hYQ⟩
              exact raall_nil
            refine raall_cons rfl rfl ?_ ?_
            ·
              refine do_y (y_load_p rfl Tryd.k23 rfl rfl rfl (vs := [_]) rfl rfl rfl) rfl ?_
              refine ra_all (is := [2, 4]) (by kernel_rfl) rfl ?_
              refine raall_cons rfl rfl ?_ ?_
              ·
                refine do_call (caps := []) trivial rfl rfl Tryd.c51 rfl (FnP.mono (labCopyAttr_fn a _ _ _ (by omega) (by omega) s1 s2) ?_)
                rintro v uA hle0 ⟨vc3, vp3, rfl, ⟨ad5, cap5, rfl, w1⟩, ⟨ad6, cap6, rfl, w2⟩⟩ hleA
                refine ra_do (i := 4) rfl rfl (by kernel_rfl) ?_
                refine do_y (y_load_p rfl Tryd.k40 rfl rfl rfl (vs := [_]) rfl rfl rfl) rfl ?_
                refine ra_y (i := 12) rfl (by kernel_rfl) (by kernel_rfl) (by kernel_rfl) (np_then (np_block (np_then (np_then (np_block (np_then (np_finO))))))) (y_field_p rfl Tryd.f42' rfl (by decide) rfl) rfl ?_
                refine ra_do (i := 6) rfl rfl (by kernel_rfl) ?_
                refine do_call_o (caps := []) (ρ' := [(1, _), (2, _), (7, _), (9, _), (10, _), (11, _), (12, _), (22, _), (28, _), (29, _), (30, _), (32, _)]) [1000] [] trivial rfl rfl rfl Tryd.c52 rfl rfl ⟨rfl, rfl, rfl, rfl, rfl, rfl, rfl, rfl, rfl, rfl, rfl, rfl, trivial⟩ rfl rfl rfl (FnO.mono (rebLine_fn R f caps b0 Y hM hcF (R.mm line) vl line _ oi uA (Nat.le_refl _) hgl (s3.mono hleA) ((hR.mono hle3).mono hleA) (hM _ _ _ _ hleA hYi)) ?_)
                rintro v uK l1 hleK ⟨⟨lcs, ⟨lad, lcap, rfl, hl1⟩, hl2⟩, oK, rfl, hYK⟩ -
                refine ⟨⟨fun _ h => h, trivial⟩, ?_⟩
                refine ra_do (i := 11) rfl rfl (by kernel_rfl) ?_
                refine do_call_o (caps := []) (ρ' := [(1, _), (2, _), (7, _), (9, _), (10, _), (11, _), (12, _), (22, _), (26, _), (32, _)]) [1000] [] trivial rfl rfl rfl Tryd.c36 rfl rfl ⟨rfl, rfl, rfl, rfl, rfl, rfl, rfl, rfl, rfl, rfl, trivial⟩ rfl rfl rfl (FnO.mono (ih (szB kids) (by omega) vk kids _ oK uK (Nat.le_refl _) (by omega) hgk ((s4.mono hleA).mono hleK) (((hR.mono hle3).mono hleA).mono hleK) hYK) ?_)
                rintro v uQ l1 hleQ ⟨⟨kcs, ⟨kad, kcap, rfl, hk1⟩, hk2⟩, oQ, rfl, hYQ⟩ -
                refine ⟨⟨fun _ h => h, trivial⟩, ?_⟩
                refine ra_do (i := 13) rfl rfl (by kernel_rfl) ?_
                refine do_store_p trivial rfl Tryd.k39 rfl rfl rfl (vs := [_, _, _]) rfl rfl (by first | rfl | exact oneAll | exact oneAll2 | simp [Value.oneCell', str]) (Nat.le_of_ble_eq_true rfl) rfl ?_
                refine ra_y (i := 14) rfl (by kernel_rfl) (by kernel_rfl) (by kernel_rfl) (np_then (np_block (np_then (np_then (np_block (np_then (np_finO))))))) (y_field_p rfl Tryd.f42' rfl (by decide) rfl) rfl ?_
                refine ra_do (i := 15) rfl rfl (by kernel_rfl) ?_
                refine do_store_p trivial rfl Tryd.k40 rfl rfl rfl (vs := [_]) rfl rfl (by first | rfl | exact oneAll | exact oneAll2 | simp [Value.oneCell', str]) (Nat.le_of_ble_eq_true rfl) rfl ?_
                refine ra_y (i := 16) rfl (by kernel_rfl) (by kernel_rfl) (by kernel_rfl) (np_then (np_block (np_then (np_then (np_block (np_then (np_finO))))))) (y_field_p rfl Tryd.f42' rfl (by decide) rfl) rfl ?_
                refine ra_do (i := 17) rfl rfl (by kernel_rfl) ?_
                refine do_store_p trivial rfl Tryd.k23 rfl rfl rfl (vs := [_]) rfl rfl (by first | rfl | exact oneAll | exact oneAll2 | simp [Value.oneCell', str]) (Nat.le_of_ble_eq_true rfl) rfl ?_
                refine ra_end (by kernel_rfl) (ρ' := [(1, _), (2, _), (7, _), (9, _), (10, _), (11, _), (12, _)]) ⟨rfl, rfl, rfl, rfl, rfl, rfl, rfl, trivial⟩ ?_
                refine q_thenK ?_
                refine ⟨[(1, _), (2, _), (7, _), (9, _), (10, _), (11, _), (12, _)], [(9, _), (507, _), (1000, _)], ⟨rfl, rfl, rfl, rfl, rfl, rfl, rfl, trivial⟩, ⟨rfl, rfl, rfl, trivial⟩, _, _, lad, lcap, kad, kcap, oQ, (hleA.trans (hleK.trans hleQ)), (by first | rfl | simp), (by first | rfl | (simp only [List.cons.injEq, Prod.mk.injEq, SV.v.injEq, Value.int.injEq, true_and, and_true]; omega) | simp), ?_⟩
                refine ⟨BlkC.mk' (StrS.mono ⟨_, _, rfl, w1⟩ (hleK.trans hleQ)) (PrS.mono ⟨_, _, rfl, w2⟩ (hleK.trans hleQ)) (InlS.mono ⟨lcs, ⟨lad, lcap, rfl, hl1⟩, hl2⟩ hleQ) ⟨kcs, ⟨kad, kcap, rfl, hk1⟩, hk2⟩ (by obtain ⟨o1, o2, o3, o4, o5, o6, o7, o8, o9⟩ := hok; exact ⟨o1, o2, o3, o4, o5, o6, o7, by omega, by omega⟩), by rw [hes]; simpa [List.append_assoc] using hYQ⟩
              refine raall_cons rfl rfl ?_ ?_
              ·
                refine do_y (y_load_p rfl Tryd.k40 rfl rfl rfl (vs := [_]) rfl rfl rfl) rfl ?_
                refine ra_do (i := 2) rfl rfl (by kernel_rfl) ?_
                refine do_call (caps := []) trivial rfl rfl Tryd.c51 rfl (FnP.mono (labCopyAttr_fn a _ _ _ (by omega) (by omega) s1 s2) ?_)
                rintro v uA hle0 ⟨vc3, vp3, rfl, ⟨ad5, cap5, rfl, w1⟩, ⟨ad6, cap6, rfl, w2⟩⟩ hleA
                refine ra_y (i := 12) rfl (by kernel_rfl) (by kernel_rfl) (by kernel_rfl) (np_then (np_block (np_then (np_then (np_block (np_then (np_finO))))))) (y_field_p rfl Tryd.f42' rfl (by decide) rfl) rfl ?_
                refine ra_do (i := 6) rfl rfl (by kernel_rfl) ?_
                refine do_call_o (caps := []) (ρ' := [(1, _), (2, _), (7, _), (9, _), (10, _), (11, _), (12, _), (22, _), (28, _), (29, _), (30, _), (32, _)]) [1000] [] trivial rfl rfl rfl Tryd.c52 rfl rfl ⟨rfl, rfl, rfl, rfl, rfl, rfl, rfl, rfl, rfl, rfl, rfl, rfl, trivial⟩ rfl rfl rfl (FnO.mono (rebLine_fn R f caps b0 Y hM hcF (R.mm line) vl line _ oi uA (Nat.le_refl _) hgl (s3.mono hleA) ((hR.mono hle3).mono hleA) (hM _ _ _ _ hleA hYi)) ?_)
                rintro v uK l1 hleK ⟨⟨lcs, ⟨lad, lcap, rfl, hl1⟩, hl2⟩, oK, rfl, hYK⟩ -
                refine ⟨⟨fun _ h => h, trivial⟩, ?_⟩
                refine ra_do (i := 11) rfl rfl (by kernel_rfl) ?_
                refine do_call_o (caps := []) (ρ' := [(1, _), (2, _), (7, _), (9, _), (10, _), (11, _), (12, _), (22, _), (26, _), (32, _)]) [1000] [] trivial rfl rfl rfl Tryd.c36 rfl rfl ⟨rfl, rfl, rfl, rfl, rfl, rfl, rfl, rfl, rfl, rfl, trivial⟩ rfl rfl rfl (FnO.mono (ih (szB kids) (by omega) vk kids _ oK uK (Nat.le_refl _) (by omega) hgk ((s4.mono hleA).mono hleK) (((hR.mono hle3).mono hleA).mono hleK) hYK) ?_)
                rintro v uQ l1 hleQ ⟨⟨kcs, ⟨kad, kcap, rfl, hk1⟩, hk2⟩, oQ, rfl, hYQ⟩ -
                refine ⟨⟨fun _ h => h, trivial⟩, ?_⟩
                refine ra_do (i := 13) rfl rfl (by kernel_rfl) ?_
                refine do_store_p trivial rfl Tryd.k39 rfl rfl rfl (vs := [_, _, _]) rfl rfl (by first | rfl | exact oneAll | exact oneAll2 | simp [Value.oneCell', str]) (Nat.le_of_ble_eq_true rfl) rfl ?_
                refine ra_y (i := 14) rfl (by kernel_rfl) (by kernel_rfl) (by kernel_rfl) (np_then (np_block (np_then (np_then (np_block (np_then (np_finO))))))) (y_field_p rfl Tryd.f42' rfl (by decide) rfl) rfl ?_
                refine ra_do (i := 15) rfl rfl (by kernel_rfl) ?_
                refine do_store_p trivial rfl Tryd.k40 rfl rfl rfl (vs := [_]) rfl rfl (by first | rfl | exact oneAll | exact oneAll2 | simp [Value.oneCell', str]) (Nat.le_of_ble_eq_true rfl) rfl ?_
                refine ra_y (i := 16) rfl (by kernel_rfl) (by kernel_rfl) (by kernel_rfl) (np_then (np_block (np_then (np_then (np_block (np_then (np_finO))))))) (y_field_p rfl Tryd.f42' rfl (by decide) rfl) rfl ?_
                refine ra_do (i := 17) rfl rfl (by kernel_rfl) ?_
                refine do_store_p trivial rfl Tryd.k23 rfl rfl rfl (vs := [_]) rfl rfl (by first | rfl | exact oneAll | exact oneAll2 | simp [Value.oneCell', str]) (Nat.le_of_ble_eq_true rfl) rfl ?_
                refine ra_end (by kernel_rfl) (ρ' := [(1, _), (2, _), (7, _), (9, _), (10, _), (11, _), (12, _)]) ⟨rfl, rfl, rfl, rfl, rfl, rfl, rfl, trivial⟩ ?_
                refine q_thenK ?_
                refine ⟨[(1, _), (2, _), (7, _), (9, _), (10, _), (11, _), (12, _)], [(9, _), (507, _), (1000, _)], ⟨rfl, rfl, rfl, rfl, rfl, rfl, rfl, trivial⟩, ⟨rfl, rfl, rfl, trivial⟩, _, _, lad, lcap, kad, kcap, oQ, (hleA.trans (hleK.trans hleQ)), (by first | rfl | simp), (by first | rfl | (simp only [List.cons.injEq, Prod.mk.injEq, SV.v.injEq, Value.int.injEq, true_and, and_true]; omega) | simp), ?_⟩
                refine ⟨BlkC.mk' (StrS.mono ⟨_, _, rfl, w1⟩ (hleK.trans hleQ)) (PrS.mono ⟨_, _, rfl, w2⟩ (hleK.trans hleQ)) (InlS.mono ⟨lcs, ⟨lad, lcap, rfl, hl1⟩, hl2⟩ hleQ) ⟨kcs, ⟨kad, kcap, rfl, hk1⟩, hk2⟩ (by obtain ⟨o1, o2, o3, o4, o5, o6, o7, o8, o9⟩ := hok; exact ⟨o1, o2, o3, o4, o5, o6, o7, by omega, by omega⟩), by rw [hes]; simpa [List.append_assoc] using hYQ⟩
              exact raall_nil
            exact raall_nil
          refine raall_cons rfl rfl ?_ ?_
          ·
            refine do_y (y_load_p rfl Tryd.k40 rfl rfl rfl (vs := [_]) rfl rfl rfl) rfl ?_
            refine ra_all (is := [1, 8]) (by kernel_rfl) rfl ?_
            refine raall_cons rfl rfl ?_ ?_
            ·
              refine do_y (y_load_p rfl Tryd.k39 rfl rfl rfl (vs := [_, _, _]) rfl rfl rfl) rfl ?_
              refine ra_all (is := [2, 8]) (by kernel_rfl) rfl ?_
              refine raall_cons rfl rfl ?_ ?_
              ·
                refine do_call (caps := []) trivial rfl rfl Tryd.c51 rfl (FnP.mono (labCopyAttr_fn a _ _ _ (by omega) (by omega) s1 s2) ?_)
                rintro v uA hle0 ⟨vc3, vp3, rfl, ⟨ad5, cap5, rfl, w1⟩, ⟨ad6, cap6, rfl, w2⟩⟩ hleA
                refine ra_all (is := [6, 8]) (by kernel_rfl) rfl ?_
                refine raall_cons rfl rfl ?_ ?_
                ·
                  refine do_call_o (caps := []) (ρ' := [(1, _), (2, _), (7, _), (9, _), (10, _), (11, _), (12, _), (22, _), (27, _), (29, _), (30, _)]) [1000] [] trivial rfl rfl rfl Tryd.c52 rfl rfl ⟨rfl, rfl, rfl, rfl, rfl, rfl, rfl, rfl, rfl, rfl, rfl, trivial⟩ rfl rfl rfl (FnO.mono (rebLine_fn R f caps b0 Y hM hcF (R.mm line) vl line _ oi uA (Nat.le_refl _) hgl (s3.mono hleA) ((hR.mono hle3).mono hleA) (hM _ _ _ _ hleA hYi)) ?_)
                  rintro v uK l1 hleK ⟨⟨lcs, ⟨lad, lcap, rfl, hl1⟩, hl2⟩, oK, rfl, hYK⟩ -
                  refine ⟨⟨fun _ h => h, trivial⟩, ?_⟩
                  refine ra_do (i := 8) rfl rfl (by kernel_rfl) ?_
                  refine do_y (y_load_p rfl Tryd.k23 rfl rfl rfl (vs := [_]) rfl rfl rfl) rfl ?_
                  refine ra_y (i := 12) rfl (by kernel_rfl) (by kernel_rfl) (by kernel_rfl) (np_then (np_block (np_then (np_then (np_block (np_then (np_finO))))))) (y_field_p rfl Tryd.f42' rfl (by decide) rfl) rfl ?_
                  refine ra_do (i := 11) rfl rfl (by kernel_rfl) ?_
                  refine do_call_o (caps := []) (ρ' := [(1, _), (2, _), (7, _), (9, _), (10, _), (11, _), (12, _), (22, _), (26, _), (32, _)]) [1000] [] trivial rfl rfl rfl Tryd.c36 rfl rfl ⟨rfl, rfl, rfl, rfl, rfl, rfl, rfl, rfl, rfl, rfl, trivial⟩ rfl rfl rfl (FnO.mono (ih (szB kids) (by omega) vk kids _ oK uK (Nat.le_refl _) (by omega) hgk ((s4.mono hleA).mono hleK) (((hR.mono hle3).mono hleA).mono hleK) hYK) ?_)
                  rintro v uQ l1 hleQ ⟨⟨kcs, ⟨kad, kcap, rfl, hk1⟩, hk2⟩, oQ, rfl, hYQ⟩ -
                  refine ⟨⟨fun _ h => h, trivial⟩, ?_⟩
                  refine ra_do (i := 13) rfl rfl (by kernel_rfl) ?_
                  refine do_store_p trivial rfl Tryd.k39 rfl rfl rfl (vs := [_, _, _]) rfl rfl (by first | rfl | exact oneAll | exact oneAll2 | simp [Value.oneCell', str]) (Nat.le_of_ble_eq_true rfl) rfl ?_
                  refine ra_y (i := 14) rfl (by kernel_rfl) (by kernel_rfl) (by kernel_rfl) (np_then (np_block (np_then (np_then (np_block (np_then (np_finO))))))) (y_field_p rfl Tryd.f42' rfl (by decide) rfl) rfl ?_
                  refine ra_do (i := 15) rfl rfl (by kernel_rfl) ?_
                  refine do_store_p trivial rfl Tryd.k40 rfl rfl rfl (vs := [_]) rfl rfl (by first | rfl | exact oneAll | exact oneAll2 | simp [Value.oneCell', str]) (Nat.le_of_ble_eq_true rfl) rfl ?_
                  refine ra_y (i := 16) rfl (by kernel_rfl) (by kernel_rfl) (by kernel_rfl) (np_then (np_block (np_then (np_then (np_block (np_then (np_finO))))))) (y_field_p rfl Tryd.f42' rfl (by decide) rfl) rfl ?_
                  refine ra_do (i := 17) rfl rfl (by kernel_rfl) ?_
                  refine do_store_p trivial rfl Tryd.k23 rfl rfl rfl (vs := [_]) rfl rfl (by first | rfl | exact oneAll | exact oneAll2 | simp [Value.oneCell', str]) (Nat.le_of_ble_eq_true rfl) rfl ?_
                  refine ra_end (by kernel_rfl) (ρ' := [(1, _), (2, _), (7, _), (9, _), (10, _), (11, _), (12, _)]) ⟨rfl, rfl, rfl, rfl, rfl, rfl, rfl, trivial⟩ ?_
                  refine q_thenK ?_
                  refine ⟨[(1, _), (2, _), (7, _), (9, _), (10, _), (11, _), (12, _)], [(9, _), (507, _), (1000, _)], ⟨rfl, rfl, rfl, rfl, rfl, rfl, rfl, trivial⟩, ⟨rfl, rfl, rfl, trivial⟩, _, _, lad, lcap, kad, kcap, oQ, (hleA.trans (hleK.trans hleQ)), (by first | rfl | simp), (by first | rfl | (simp only [List.cons.injEq, Prod.mk.injEq, SV.v.injEq, Value.int.injEq, true_and, and_true]; omega) | simp), ?_⟩
                  refine ⟨BlkC.mk' (StrS.mono ⟨_, _, rfl, w1⟩ (hleK.trans hleQ)) (PrS.mono ⟨_, _, rfl, w2⟩ (hleK.trans hleQ)) (InlS.mono ⟨lcs, ⟨lad, lcap, rfl, hl1⟩, hl2⟩ hleQ) ⟨kcs, ⟨kad, kcap, rfl, hk1⟩, hk2⟩ (by obtain ⟨o1, o2, o3, o4, o5, o6, o7, o8, o9⟩ := hok; exact ⟨o1, o2, o3, o4, o5, o6, o7, by omega, by omega⟩), by rw [hes]; simpa [List.append_assoc] using hYQ⟩
                refine raall_cons rfl rfl ?_ ?_
                ·
                  refine do_y (y_load_p rfl Tryd.k23 rfl rfl rfl (vs := [_]) rfl rfl rfl) rfl ?_
                  refine ra_y (i := 12) rfl (by kernel_rfl) (by kernel_rfl) (by kernel_rfl) (np_then (np_block (np_then (np_then (np_block (np_then (np_finO))))))) (y_field_p rfl Tryd.f42' rfl (by decide) rfl) rfl ?_
                  refine ra_do (i := 6) rfl rfl (by kernel_rfl) ?_
                  refine do_call_o (caps := []) (ρ' := [(1, _), (2, _), (7, _), (9, _), (10, _), (11, _), (12, _), (22, _), (28, _), (29, _), (30, _), (32, _)]) [1000] [] trivial rfl rfl rfl Tryd.c52 rfl rfl ⟨rfl, rfl, rfl, rfl, rfl, rfl, rfl, rfl, rfl, rfl, rfl, rfl, trivial⟩ rfl rfl rfl (FnO.mono (rebLine_fn R f caps b0 Y hM hcF (R.mm line) vl line _ oi uA (Nat.le_refl _) hgl (s3.mono hleA) ((hR.mono hle3).mono hleA) (hM _ _ _ _ hleA hYi)) ?_)
                  rintro v uK l1 hleK ⟨⟨lcs, ⟨lad, lcap, rfl, hl1⟩, hl2⟩, oK, rfl, hYK⟩ -
                  refine ⟨⟨fun _ h => h, trivial⟩, ?_⟩
                  refine ra_do (i := 11) rfl rfl (by kernel_rfl) ?_
                  refine do_call_o (caps := []) (ρ' := [(1, _), (2, _), (7, _), (9, _), (10, _), (11, _), (12, _), (22, _), (26, _), (32, _)]) [1000] [] trivial rfl rfl rfl Tryd.c36 rfl rfl ⟨rfl, rfl, rfl, rfl, rfl, rfl, rfl, rfl, rfl, rfl, trivial⟩ rfl rfl rfl (FnO.mono (ih (szB kids) (by omega) vk kids _ oK uK (Nat.le_refl _) (by omega) hgk ((s4.mono hleA).mono hleK) (((hR.mono hle3).mono hleA).mono hleK) hYK) ?_)
                  rintro v uQ l1 hleQ ⟨⟨kcs, ⟨kad, kcap, rfl, hk1⟩, hk2⟩, oQ, rfl, hYQ⟩ -
                  refine ⟨⟨fun _ h => h, trivial⟩, ?_⟩
                  refine ra_do (i := 13) rfl rfl (by kernel_rfl) ?_
                  refine do_store_p trivial rfl Tryd.k39 rfl rfl rfl (vs := [_, _, _]) rfl rfl (by first | rfl | exact oneAll | exact oneAll2 | simp [Value.oneCell', str]) (Nat.le_of_ble_eq_true rfl) rfl ?_
                  refine ra_y (i := 14) rfl (by kernel_rfl) (by kernel_rfl) (by kernel_rfl) (np_then (np_block (np_then (np_then (np_block (np_then (np_finO))))))) (y_field_p rfl Tryd.f42' rfl (by decide) rfl) rfl ?_
                  refine ra_do (i := 15) rfl rfl (by kernel_rfl) ?_
                  refine do_store_p trivial rfl Tryd.k40 rfl rfl rfl (vs := [_]) rfl rfl (by first | rfl | exact oneAll | exact oneAll2 | simp [Value.oneCell', str]) (Nat.le_of_ble_eq_true rfl) rfl ?_
                  refine ra_y (i := 16) rfl (by kernel_rfl) (by kernel_rfl) (by kernel_rfl) (np_then (np_block (np_then (np_then (np_block (np_then (np_finO))))))) (y_field_p rfl Tryd.f42' rfl (by decide) rfl) rfl ?_
                  refine ra_do (i := 17) rfl rfl (by kernel_rfl) ?_
                  refine do_store_p trivial rfl Tryd.k23 rfl rfl rfl (vs := [_]) rfl rfl (by first | rfl | exact oneAll | exact oneAll2 | simp [Value.oneCell', str]) (Nat.le_of_ble_eq_true rfl) rfl ?_
                  refine ra_end (by kernel_rfl) (ρ' := [(1, _), (2, _), (7, _), (9, _), (10, _), (11, _), (12, _)]) ⟨rfl, rfl, rfl, rfl, rfl, rfl, rfl, trivial⟩ ?_
                  refine q_thenK ?_
                  refine ⟨[(1, _), (2, _), (7, _), (9, _), (10, _), (11, _), (12, _)], [(9, _), (507, _), (1000, _)], ⟨rfl, rfl, rfl, rfl, rfl, rfl, rfl, trivial⟩, ⟨rfl, rfl, rfl, trivial⟩, _, _, lad, lcap, kad, kcap, oQ, (hleA.trans (hleK.trans hleQ)), (by first | rfl | simp), (by first | rfl | (simp only [List.cons.injEq, Prod.mk.injEq, SV.v.injEq, Value.int.injEq, true_and, and_true]; omega) | simp), ?_⟩
                  refine ⟨BlkC.mk' (StrS.mono ⟨_, _, rfl, w1⟩ (hleK.trans hleQ)) (PrS.mono ⟨_, _, rfl, w2⟩ (hleK.trans hleQ)) (InlS.mono ⟨lcs, ⟨lad, lcap, rfl, hl1⟩, hl2⟩ hleQ) ⟨kcs, ⟨kad, kcap, rfl, hk1⟩, hk2⟩ (by obtain ⟨o1, o2, o3, o4, o5, o6, o7, o8, o9⟩ := hok; exact ⟨o1, o2, o3, o4, o5, o6, o7, by omega, by omega⟩), by rw [hes]; simpa [List.append_assoc] using hYQ⟩
                exact raall_nil
              refine raall_cons rfl rfl ?_ ?_
              ·
                refine do_y (y_load_p rfl Tryd.k23 rfl rfl rfl (vs := [_]) rfl rfl rfl) rfl ?_
                refine ra_do (i := 2) rfl rfl (by kernel_rfl) ?_
                refine do_call (caps := []) trivial rfl rfl Tryd.c51 rfl (FnP.mono (labCopyAttr_fn a _ _ _ (by omega) (by omega) s1 s2) ?_)
                rintro v uA hle0 ⟨vc3, vp3, rfl, ⟨ad5, cap5, rfl, w1⟩, ⟨ad6, cap6, rfl, w2⟩⟩ hleA
                refine ra_y (i := 12) rfl (by kernel_rfl) (by kernel_rfl) (by kernel_rfl) (np_then (np_block (np_then (np_then (np_block (np_then (np_finO))))))) (y_field_p rfl Tryd.f42' rfl (by decide) rfl) rfl ?_
                refine ra_do (i := 6) rfl rfl (by kernel_rfl) ?_
                refine do_call_o (caps := []) (ρ' := [(1, _), (2, _), (7, _), (9, _), (10, _), (11, _), (12, _), (22, _), (28, _), (29, _), (30, _), (32, _)]) [1000] [] trivial rfl rfl rfl Tryd.c52 rfl rfl ⟨rfl, rfl, rfl, rfl, rfl, rfl, rfl, rfl, rfl, rfl, rfl, rfl, trivial⟩ rfl rfl rfl (FnO.mono (rebLine_fn R f caps b0 Y hM hcF (R.mm line) vl line _ oi uA (Nat.le_refl _) hgl (s3.mono hleA) ((hR.mono hle3).mono hleA) (hM _ _ _ _ hleA hYi)) ?_)
                rintro v uK l1 hleK ⟨⟨lcs, ⟨lad, lcap, rfl, hl1⟩, hl2⟩, oK, rfl, hYK⟩ -
                refine ⟨⟨fun _ h => h, trivial⟩, ?_⟩
                refine ra_do (i := 11) rfl rfl (by kernel_rfl) ?_
                refine do_call_o (caps := []) (ρ' := [(1, _), (2, _), (7, _), (9, _), (10, _), (11, _), (12, _), (22, _), (26, _), (32, _)]) [1000] [] trivial rfl rfl rfl Tryd.c36 rfl rfl ⟨rfl, rfl, rfl, rfl, rfl, rfl, rfl, rfl, rfl, rfl, trivial⟩ rfl rfl rfl (FnO.mono (ih (szB kids) (by omega) vk kids _ oK uK (Nat.le_refl _) (by omega) hgk ((s4.mono hleA).mono hleK) (((hR.mono hle3).mono hleA).mono hleK) hYK) ?_)
                rintro v uQ l1 hleQ ⟨⟨kcs, ⟨kad, kcap, rfl, hk1⟩, hk2⟩, oQ, rfl, hYQ⟩ -
                refine ⟨⟨fun _ h => h, trivial⟩, ?_⟩
                refine ra_do (i := 13) rfl rfl (by kernel_rfl) ?_
                refine do_store_p trivial rfl Tryd.k39 rfl rfl rfl (vs := [_, _, _]) rfl rfl (by first | rfl | exact oneAll | exact oneAll2 | simp [Value.oneCell', str]) (Nat.le_of_ble_eq_true rfl) rfl ?_
                refine ra_y (i := 14) rfl (by kernel_rfl) (by kernel_rfl) (by kernel_rfl) (np_then (np_block (np_then (np_then (np_block (np_then (np_finO))))))) (y_field_p rfl Tryd.f42' rfl (by decide) rfl) rfl ?_
                refine ra_do (i := 15) rfl rfl (by kernel_rfl) ?_
                refine do_store_p trivial rfl Tryd.k40 rfl rfl rfl (vs := [_]) rfl rfl (by first | rfl | exact oneAll | exact oneAll2 | simp [Value.oneCell', str]) (Nat.le_of_ble_eq_true rfl) rfl ?_
                refine ra_y (i := 16) rfl (by kernel_rfl) (by kernel_rfl) (by kernel_rfl) (np_then (np_block (np_then (np_then (np_block (np_then (np_finO))))))) (y_field_p rfl Tryd.f42' rfl (by decide) rfl) rfl ?_
                refine ra_do (i := 17) rfl rfl (by kernel_rfl) ?_
                refine do_store_p trivial rfl Tryd.k23 rfl rfl rfl (vs := [_]) rfl rfl (by first | rfl | exact oneAll | exact oneAll2 | simp [Value.oneCell', str]) (Nat.le_of_ble_eq_true rfl) rfl ?_
                refine ra_end (by kernel_rfl) (ρ' := [(1, _), (2, _), (7, _), (9, _), (10, _), (11, _), (12, _)]) ⟨rfl, rfl, rfl, rfl, rfl, rfl, rfl, trivial⟩ ?_
                refine q_thenK ?_
                refine ⟨[(1, _), (2, _), (7, _), (9, _), (10, _), (11, _), (12, _)], [(9, _), (507, _), (1000, _)], ⟨rfl, rfl, rfl, rfl, rfl, rfl, rfl, trivial⟩, ⟨rfl, rfl, rfl, trivial⟩, _, _, lad, lcap, kad, kcap, oQ, (hleA.trans (hleK.trans hleQ)), (by first | rfl | simp), (by first | rfl | (simp only [List.cons.injEq, Prod.mk.injEq, SV.v.injEq, Value.int.injEq, true_and, and_true]; omega) | simp), ?_⟩
                refine ⟨BlkC.mk' (StrS.mono ⟨_, _, rfl, w1⟩ (hleK.trans hleQ)) (PrS.mono ⟨_, _, rfl, w2⟩ (hleK.trans hleQ)) (InlS.mono ⟨lcs, ⟨lad, lcap, rfl, hl1⟩, hl2⟩ hleQ) ⟨kcs, ⟨kad, kcap, rfl, hk1⟩, hk2⟩ (by obtain ⟨o1, o2, o3, o4, o5, o6, o7, o8, o9⟩ := hok; exact ⟨o1, o2, o3, o4, o5, o6, o7, by omega, by omega⟩), by rw [hes]; simpa [List.append_assoc] using hYQ⟩
              exact raall_nil
            refine raall_cons rfl rfl ?_ ?_
            ·
              refine do_y (y_load_p rfl Tryd.k23 rfl rfl rfl (vs := [_]) rfl rfl rfl) rfl ?_
              refine ra_do (i := 1) rfl rfl (by kernel_rfl) ?_
              refine do_y (y_load_p rfl Tryd.k39 rfl rfl rfl (vs := [_, _, _]) rfl rfl rfl) rfl ?_
              refine ra_do (i := 2) rfl rfl (by kernel_rfl) ?_
              refine do_call (caps := []) trivial rfl rfl Tryd.c51 rfl (FnP.mono (labCopyAttr_fn a _ _ _ (by omega) (by omega) s1 s2) ?_)
              rintro v uA hle0 ⟨vc3, vp3, rfl, ⟨ad5, cap5, rfl, w1⟩, ⟨ad6, cap6, rfl, w2⟩⟩ hleA
              refine ra_y (i := 12) rfl (by kernel_rfl) (by kernel_rfl) (by kernel_rfl) (np_then (np_block (np_then (np_then (np_block (np_then (np_finO))))))) (y_field_p rfl Tryd.f42' rfl (by decide) rfl) rfl ?_
              refine ra_do (i := 6) rfl rfl (by kernel_rfl) ?_
              refine do_call_o (caps := []) (ρ' := [(1, _), (2, _), (7, _), (9, _), (10, _), (11, _), (12, _), (22, _), (28, _), (29, _), (30, _), (32, _)]) [1000] [] trivial rfl rfl rfl Tryd.c52 rfl rfl ⟨rfl, rfl, rfl, rfl, rfl, rfl, rfl, rfl, rfl, rfl, rfl, rfl, trivial⟩ rfl rfl rfl (FnO.mono (rebLine_fn R f caps b0 Y hM hcF (R.mm line) vl line _ oi uA (Nat.le_refl _) hgl (s3.mono hleA) ((hR.mono hle3).mono hleA) (hM _ _ _ _ hleA hYi)) ?_)
              rintro v uK l1 hleK ⟨⟨lcs, ⟨lad, lcap, rfl, hl1⟩, hl2⟩, oK, rfl, hYK⟩ -
              refine ⟨⟨fun _ h => h, trivial⟩, ?_⟩
              refine ra_do (i := 11) rfl rfl (by kernel_rfl) ?_
              refine do_call_o (caps := []) (ρ' := [(1, _), (2, _), (7, _), (9, _), (10, _), (11, _), (12, _), (22, _), (26, _), (32, _)]) [1000] [] trivial rfl rfl rfl Tryd.c36 rfl rfl ⟨rfl, rfl, rfl, rfl, rfl, rfl, rfl, rfl, rfl, rfl, trivial⟩ rfl rfl rfl (FnO.mono (ih (szB kids) (by omega) vk kids _ oK uK (Nat.le_refl _) (by omega) hgk ((s4.mono hleA).mono hleK) (((hR.mono hle3).mono hleA).mono hleK) hYK) ?_)
              rintro v uQ l1 hleQ ⟨⟨kcs, ⟨kad, kcap, rfl, hk1⟩, hk2⟩, oQ, rfl, hYQ⟩ -
              refine ⟨⟨fun _ h => h, trivial⟩, ?_⟩
              refine ra_do (i := 13) rfl rfl (by kernel_rfl) ?_
              refine do_store_p trivial rfl Tryd.k39 rfl rfl rfl (vs := [_, _, _]) rfl rfl (by first | rfl | exact oneAll | exact oneAll2 | simp [Value.oneCell', str]) (Nat.le_of_ble_eq_true rfl) rfl ?_
              refine ra_y (i := 14) rfl (by kernel_rfl) (by kernel_rfl) (by kernel_rfl) (np_then (np_block (np_then (np_then (np_block (np_then (np_finO))))))) (y_field_p rfl Tryd.f42' rfl (by decide) rfl) rfl ?_
              refine ra_do (i := 15) rfl rfl (by kernel_rfl) ?_
              refine do_store_p trivial rfl Tryd.k40 rfl rfl rfl (vs := [_]) rfl rfl (by first | rfl | exact oneAll | exact oneAll2 | simp [Value.oneCell', str]) (Nat.le_of_ble_eq_true rfl) rfl ?_
              refine ra_y (i := 16) rfl (by kernel_rfl) (by kernel_rfl) (by kernel_rfl) (np_then (np_block (np_then (np_then (np_block (np_then (np_finO))))))) (y_field_p rfl Tryd.f42' rfl (by decide) rfl) rfl ?_
              refine ra_do (i := 17) rfl rfl (by kernel_rfl) ?_
              refine do_store_p trivial rfl Tryd.k23 rfl rfl rfl (vs := [_]) rfl rfl (by first | rfl | exact oneAll | exact oneAll2 | simp [Value.oneCell', str]) (Nat.le_of_ble_eq_true rfl) rfl ?_
              refine ra_end (by kernel_rfl) (ρ' := [(1, _), (2, _), (7, _), (9, _), (10, _), (11, _), (12, _)]) ⟨rfl, rfl, rfl, rfl, rfl, rfl, rfl, trivial⟩ ?_
              refine q_thenK ?_
              refine ⟨[(1, _), (2, _), (7, _), (9, _), (10, _), (11, _), (12, _)], [(9, _), (507, _), (1000, _)], ⟨rfl, rfl, rfl, rfl, rfl, rfl, rfl, trivial⟩, ⟨rfl, rfl, rfl, trivial⟩, _, _, lad, lcap, kad, kcap, oQ, (hleA.trans (hleK.trans hleQ)), (by first | rfl | simp), (by first | rfl | (simp only [List.cons.injEq, Prod.mk.injEq, SV.v.injEq, Value.int.injEq, true_and, and_true]; omega) | simp), ?_⟩
              refine ⟨BlkC.mk' (StrS.mono ⟨_, _, rfl, w1⟩ (hleK.trans hleQ)) (PrS.mono ⟨_, _, rfl, w2⟩ (hleK.trans hleQ)) (InlS.mono ⟨lcs, ⟨lad, lcap, rfl, hl1⟩, hl2⟩ hleQ) ⟨kcs, ⟨kad, kcap, rfl, hk1⟩, hk2⟩ (by obtain ⟨o1, o2, o3, o4, o5, o6, o7, o8, o9⟩ := hok; exact ⟨o1, o2, o3, o4, o5, o6, o7, by omega, by omega⟩), by rw [hes]; simpa [List.append_assoc] using hYQ⟩
            exact raall_nil
          refine raall_cons rfl rfl ?_ ?_
          ·
            refine do_y (y_load_p rfl Tryd.k23 rfl rfl rfl (vs := [_]) rfl rfl rfl) rfl ?_
            refine ra_all (is := [1, 4]) (by kernel_rfl) rfl ?_
            refine raall_cons rfl rfl ?_ ?_
            ·
              refine do_y (y_load_p rfl Tryd.k39 rfl rfl rfl (vs := [_, _, _]) rfl rfl rfl) rfl ?_
              refine ra_all (is := [2, 4]) (by kernel_rfl) rfl ?_
              refine raall_cons rfl rfl ?_ ?_
              ·
                refine do_call (caps := []) trivial rfl rfl Tryd.c51 rfl (FnP.mono (labCopyAttr_fn a _ _ _ (by omega) (by omega) s1 s2) ?_)
                rintro v uA hle0 ⟨vc3, vp3, rfl, ⟨ad5, cap5, rfl, w1⟩, ⟨ad6, cap6, rfl, w2⟩⟩ hleA
                refine ra_do (i := 4) rfl rfl (by kernel_rfl) ?_
                refine do_y (y_load_p rfl Tryd.k40 rfl rfl rfl (vs := [_]) rfl rfl rfl) rfl ?_
                refine ra_y (i := 12) rfl (by kernel_rfl) (by kernel_rfl) (by kernel_rfl) (np_then (np_block (np_then (np_then (np_block (np_then (np_finO))))))) (y_field_p rfl Tryd.f42' rfl (by decide) rfl) rfl ?_
                refine ra_do (i := 6) rfl rfl (by kernel_rfl) ?_
                refine do_call_o (caps := []) (ρ' := [(1, _), (2, _), (7, _), (9, _), (10, _), (11, _), (12, _), (22, _), (28, _), (29, _), (30, _), (32, _)]) [1000] [] trivial rfl rfl rfl Tryd.c52 rfl rfl ⟨rfl, rfl, rfl, rfl, rfl, rfl, rfl, rfl, rfl, rfl, rfl, rfl, trivial⟩ rfl rfl rfl (FnO.mono (rebLine_fn R f caps b0 Y hM hcF (R.mm line) vl line _ oi uA (Nat.le_refl _) hgl (s3.mono hleA) ((hR.mono hle3).mono hleA) (hM _ _ _ _ hleA hYi)) ?_)
                rintro v uK l1 hleK ⟨⟨lcs, ⟨lad, lcap, rfl, hl1⟩, hl2⟩, oK, rfl, hYK⟩ -
                refine ⟨⟨fun _ h => h, trivial⟩, ?_⟩
                refine ra_do (i := 11) rfl rfl (by kernel_rfl) ?_
                refine do_call_o (caps := []) (ρ' := [(1, _), (2, _), (7, _), (9, _), (10, _), (11, _), (12, _), (22, _), (26, _), (32, _)]) [1000] [] trivial rfl rfl rfl Tryd.c36 rfl rfl ⟨rfl, rfl, rfl, rfl, rfl, rfl, rfl, rfl, rfl, rfl, trivial⟩ rfl rfl rfl (FnO.mono (ih (szB kids) (by omega) vk kids _ oK uK (Nat.le_refl _) (by omega) hgk ((s4.mono hleA).mono hleK) (((hR.mono hle3).mono hleA).mono hleK) hYK) ?_)
                rintro v uQ l1 hleQ ⟨⟨kcs, ⟨kad, kcap, rfl, hk1⟩, hk2⟩, oQ, rfl, hYQ⟩ -
                refine ⟨⟨fun _ h => h, trivial⟩, ?_⟩
                refine ra_do (i := 13) rfl rfl (by kernel_rfl) ?_
                refine do_store_p trivial rfl Tryd.k39 rfl rfl rfl (vs := [_, _, _]) rfl rfl (by first | rfl | exact oneAll | exact oneAll2 | simp [Value.oneCell', str]) (Nat.le_of_ble_eq_true rfl) rfl ?_
                refine ra_y (i := 14) rfl (by kernel_rfl) (by kernel_rfl) (by kernel_rfl) (np_then (np_block (np_then (np_then (np_block (np_then (np_finO))))))) (y_field_p rfl Tryd.f42' rfl (by decide) rfl) rfl ?_
                refine ra_do (i := 15) rfl rfl (by kernel_rfl) ?_
                refine do_store_p trivial rfl Tryd.k40 rfl rfl rfl (vs := [_]) rfl rfl (by first | rfl | exact oneAll | exact oneAll2 | simp [Value.oneCell', str]) (Nat.le_of_ble_eq_true rfl) rfl ?_
                refine ra_y (i := 16) rfl (by kernel_rfl) (by kernel_rfl) (by kernel_rfl) (np_then (np_block (np_then (np_then (np_block (np_then (np_finO))))))) (y_field_p rfl Tryd.f42' rfl (by decide) rfl) rfl ?_
                refine ra_do (i := 17) rfl rfl (by kernel_rfl) ?_
                refine do_store_p trivial rfl Tryd.k23 rfl rfl rfl (vs := [_]) rfl rfl (by first | rfl | exact oneAll | exact oneAll2 | simp [Value.oneCell', str]) (Nat.le_of_ble_eq_true rfl) rfl ?_
                refine ra_end (by kernel_rfl) (ρ' := [(1, _), (2, _), (7, _), (9, _), (10, _), (11, _), (12, _)]) ⟨rfl, rfl, rfl, rfl, rfl, rfl, rfl, trivial⟩ ?_
                refine q_thenK ?_
                refine ⟨[(1, _), (2, _), (7, _), (9, _), (10, _), (11, _), (12, _)], [(9, _), (507, _), (1000, _)], ⟨rfl, rfl, rfl, rfl, rfl, rfl, rfl, trivial⟩, ⟨rfl, rfl, rfl, trivial⟩, _, _, lad, lcap, kad, kcap, oQ, (hleA.trans (hleK.trans hleQ)), (by first | rfl | simp), (by first | rfl | (simp only [List.cons.injEq, Prod.mk.injEq, SV.v.injEq, Value.int.injEq, true_and, and_true]; omega) | simp), ?_⟩
                refine ⟨BlkC.mk' (StrS.mono ⟨_, _, rfl, w1⟩ (hleK.trans hleQ)) (PrS.mono ⟨_, _, rfl, w2⟩ (hleK.trans hleQ)) (InlS.mono ⟨lcs, ⟨lad, lcap, rfl, hl1⟩, hl2⟩ hleQ) ⟨kcs, ⟨kad, kcap, rfl, hk1⟩, hk2⟩ (by obtain ⟨o1, o2, o3, o4, o5, o6, o7, o8, o9⟩ := hok; exact ⟨o1, o2, o3, o4, o5, o6, o7, by omega, by omega⟩), by rw [hes]; simpa [List.append_assoc] using hYQ⟩
              refine raall_cons rfl rfl ?_ ?_
              ·
                refine do_y (y_load_p rfl Tryd.k40 rfl rfl rfl (vs := [_]) rfl rfl rfl) rfl ?_
                refine ra_do (i := 2) rfl rfl (by kernel_rfl) ?_
                refine do_call (caps := []) trivial rfl rfl Tryd.c51 rfl (FnP.mono (labCopyAttr_fn a _ _ _ (by omega) (by omega) s1 s2) ?_)
                rintro v uA hle0 ⟨vc3, vp3, rfl, ⟨ad5, cap5, rfl, w1⟩, ⟨ad6, cap6, rfl, w2⟩⟩ hleA
                refine ra_y (i := 12) rfl (by kernel_rfl) (by kernel_rfl) (by kernel_rfl) (np_then (np_block (np_then (np_then (np_block (np_then (np_finO))))))) (y_field_p rfl Tryd.f42' rfl (by decide) rfl) rfl ?_
                refine ra_do (i := 6) rfl rfl (by kernel_rfl) ?_
                refine do_call_o (caps := []) (ρ' := [(1, _), (2, _), (7, _), (9, _), (10, _), (11, _), (12, _), (22, _), (28, _), (29, _), (30, _), (32, _)]) [1000] [] trivial rfl rfl rfl Tryd.c52 rfl rfl ⟨rfl, rfl, rfl, rfl, rfl, rfl, rfl, rfl, rfl, rfl, rfl, rfl, trivial⟩ rfl rfl rfl (FnO.mono (rebLine_fn R f caps b0 Y hM hcF (R.mm line) vl line _ oi uA (Nat.le_refl _) hgl (s3.mono hleA) ((hR.mono hle3).mono hleA) (hM _ _ _ _ hleA hYi)) ?_)
                rintro v uK l1 hleK ⟨⟨lcs, ⟨lad, lcap, rfl, hl1⟩, hl2⟩, oK, rfl, hYK⟩ -
                refine ⟨⟨fun _ h => h, trivial⟩, ?_⟩
                refine ra_do (i := 11) rfl rfl (by kernel_rfl) ?_
                refine do_call_o (caps := []) (ρ' := [(1, _), (2, _), (7, _), (9, _), (10, _), (11, _), (12, _), (22, _), (26, _), (32, _)]) [1000] [] trivial rfl rfl rfl Tryd.c36 rfl rfl ⟨rfl, rfl, rfl, rfl, rfl, rfl, rfl, rfl, rfl, rfl, trivial⟩ rfl rfl rfl (FnO.mono (ih (szB kids) (by omega) vk kids _ oK uK (Nat.le_refl _) (by omega) hgk ((s4.mono hleA).mono hleK) (((hR.mono hle3).mono hleA).mono hleK) hYK) ?_)
                rintro v uQ l1 hleQ ⟨⟨kcs, ⟨kad, kcap, rfl, hk1⟩, hk2⟩, oQ, rfl, hYQ⟩ -
                refine ⟨⟨fun _ h => h, trivial⟩, ?_⟩
                refine ra_do (i := 13) rfl rfl (by kernel_rfl) ?_
                refine do_store_p trivial rfl Tryd.k39 rfl rfl rfl (vs := [_, _, _]) rfl rfl (by first | rfl | exact oneAll | exact oneAll2 | simp [Value.oneCell', str]) (Nat.le_of_ble_eq_true rfl) rfl ?_
                refine ra_y (i := 14) rfl (by kernel_rfl) (by kernel_rfl) (by kernel_rfl) (np_then (np_block (np_then (np_then (np_block (np_then (np_finO))))))) (y_field_p rfl Tryd.f42' rfl (by decide) rfl) rfl ?_
                refine ra_do (i := 15) rfl rfl (by kernel_rfl) ?_
                refine do_store_p trivial rfl Tryd.k40 rfl rfl rfl (vs := [_]) rfl rfl (by first | rfl | exact oneAll | exact oneAll2 | simp [Value.oneCell', str]) (Nat.le_of_ble_eq_true rfl) rfl ?_
                refine ra_y (i := 16) rfl (by kernel_rfl) (by kernel_rfl) (by kernel_rfl) (np_then (np_block (np_then (np_then (np_block (np_then (np_finO))))))) (y_field_p rfl Tryd.f42' rfl (by decide) rfl) rfl ?_
                refine ra_do (i := 17) rfl rfl (by kernel_rfl) ?_
                refine do_store_p trivial rfl Tryd.k23 rfl rfl rfl (vs := [_]) rfl rfl (by first | rfl | exact oneAll | exact oneAll2 | simp [Value.oneCell', str]) (Nat.le_of_ble_eq_true rfl) rfl ?_
                refine ra_end (by kernel_rfl) (ρ' := [(1, _), (2, _), (7, _), (9, _), (10, _), (11, _), (12, _)]) ⟨rfl, rfl, rfl, rfl, rfl, rfl, rfl, trivial⟩ ?_
                refine q_thenK ?_
                refine ⟨[(1, _), (2, _), (7, _), (9, _), (10, _), (11, _), (12, _)], [(9, _), (507, _), (1000, _)], ⟨rfl, rfl, rfl, rfl, rfl, rfl, rfl, trivial⟩, ⟨rfl, rfl, rfl, trivial⟩, _, _, lad, lcap, kad, kcap, oQ, (hleA.trans (hleK.trans hleQ)), (by first | rfl | simp), (by first | rfl | (simp only [List.cons.injEq, Prod.mk.injEq, SV.v.injEq, Value.int.injEq, true_and, and_true]; omega) | simp), ?_⟩
                refine ⟨BlkC.mk' (StrS.mono ⟨_, _, rfl, w1⟩ (hleK.trans hleQ)) (PrS.mono ⟨_, _, rfl, w2⟩ (hleK.trans hleQ)) (InlS.mono ⟨lcs, ⟨lad, lcap, rfl, hl1⟩, hl2⟩ hleQ) ⟨kcs, ⟨kad, kcap, rfl, hk1⟩, hk2⟩ (by obtain ⟨o1, o2, o3, o4, o5, o6, o7, o8, o9⟩ := hok; exact ⟨o1, o2, o3, o4, o5, o6, o7, by omega, by omega⟩), by rw [hes]; simpa [List.append_assoc] using hYQ⟩
              exact raall_nil
            refine raall_cons rfl rfl ?_ ?_
            ·
              refine do_y (y_load_p rfl Tryd.k40 rfl rfl rfl (vs := [_]) rfl rfl rfl) rfl ?_
              refine ra_do (i := 1) rfl rfl (by kernel_rfl) ?_
              refine do_y (y_load_p rfl Tryd.k39 rfl rfl rfl (vs := [_, _, _]) rfl rfl rfl) rfl ?_
              refine ra_do (i := 2) rfl rfl (by kernel_rfl) ?_
              refine do_call (caps := []) trivial rfl rfl Tryd.c51 rfl (FnP.mono (labCopyAttr_fn a _ _ _ (by omega) (by omega) s1 s2) ?_)
              rintro v uA hle0 ⟨vc3, vp3, rfl, ⟨ad5, cap5, rfl, w1⟩, ⟨ad6, cap6, rfl, w2⟩⟩ hleA
              refine ra_y (i := 12) rfl (by kernel_rfl) (by kernel_rfl) (by kernel_rfl) (np_then (np_block (np_then (np_then (np_block (np_then (np_finO))))))) (y_field_p rfl Tryd.f42' rfl (by decide) rfl) rfl ?_
              refine ra_do (i := 6) rfl rfl (by kernel_rfl) ?_
              refine do_call_o (caps := []) (ρ' := [(1, _), (2, _), (7, _), (9, _), (10, _), (11, _), (12, _), (22, _), (28, _), (29, _), (30, _), (32, _)]) [1000] [] trivial rfl rfl rfl Tryd.c52 rfl rfl ⟨rfl, rfl, rfl, rfl, rfl, rfl, rfl, rfl, rfl, rfl, rfl, rfl, trivial⟩ rfl rfl rfl (FnO.mono (rebLine_fn R f caps b0 Y hM hcF (R.mm line) vl line _ oi uA (Nat.le_refl _) hgl (s3.mono hleA) ((hR.mono hle3).mono hleA) (hM _ _ _ _ hleA hYi)) ?_)
              rintro v uK l1 hleK ⟨⟨lcs, ⟨lad, lcap, rfl, hl1⟩, hl2⟩, oK, rfl, hYK⟩ -
              refine ⟨⟨fun _ h => h, trivial⟩, ?_⟩
              refine ra_do (i := 11) rfl rfl (by kernel_rfl) ?_
              refine do_call_o (caps := []) (ρ' := [(1, _), (2, _), (7, _), (9, _), (10, _), (11, _), (12, _), (22, _), (26, _), (32, _)]) [1000] [] trivial rfl rfl rfl Tryd.c36 rfl rfl ⟨rfl, rfl, rfl, rfl, rfl, rfl, rfl, rfl, rfl, rfl, trivial⟩ rfl rfl rfl (FnO.mono (ih (szB kids) (by omega) vk kids _ oK uK (Nat.le_refl _) (by omega) hgk ((s4.mono hleA).mono hleK) (((hR.mono hle3).mono hleA).mono hleK) hYK) ?_)
              rintro v uQ l1 hleQ ⟨⟨kcs, ⟨kad, kcap, rfl, hk1⟩, hk2⟩, oQ, rfl, hYQ⟩ -
              refine ⟨⟨fun _ h => h, trivial⟩, ?_⟩
              refine ra_do (i := 13) rfl rfl (by kernel_rfl) ?_
              refine do_store_p trivial rfl Tryd.k39 rfl rfl rfl (vs := [_, _, _]) rfl rfl (by first | rfl | exact oneAll | exact oneAll2 | simp [Value.oneCell', str]) (Nat.le_of_ble_eq_true rfl) rfl ?_
              refine ra_y (i := 14) rfl (by kernel_rfl) (by kernel_rfl) (by kernel_rfl) (np_then (np_block (np_then (np_then (np_block (np_then (np_finO))))))) (y_field_p rfl Tryd.f42' rfl (by decide) rfl) rfl ?_
              refine ra_do (i := 15) rfl rfl (by kernel_rfl) ?_
              refine do_store_p trivial rfl Tryd.k40 rfl rfl rfl (vs := [_]) rfl rfl (by first | rfl | exact oneAll | exact oneAll2 | simp [Value.oneCell', str]) (Nat.le_of_ble_eq_true rfl) rfl ?_
              refine ra_y (i := 16) rfl (by kernel_rfl) (by kernel_rfl) (by kernel_rfl) (np_then (np_block (np_then (np_then (np_block (np_then (np_finO))))))) (y_field_p rfl Tryd.f42' rfl (by decide) rfl) rfl ?_
              refine ra_do (i := 17) rfl rfl (by kernel_rfl) ?_
              refine do_store_p trivial rfl Tryd.k23 rfl rfl rfl (vs := [_]) rfl rfl (by first | rfl | exact oneAll | exact oneAll2 | simp [Value.oneCell', str]) (Nat.le_of_ble_eq_true rfl) rfl ?_
              refine ra_end (by kernel_rfl) (ρ' := [(1, _), (2, _), (7, _), (9, _), (10, _), (11, _), (12, _)]) ⟨rfl, rfl, rfl, rfl, rfl, rfl, rfl, trivial⟩ ?_
              refine q_thenK ?_
              refine ⟨[(1, _), (2, _), (7, _), (9, _), (10, _), (11, _), (12, _)], [(9, _), (507, _), (1000, _)], ⟨rfl, rfl, rfl, rfl, rfl, rfl, rfl, trivial⟩, ⟨rfl, rfl, rfl, trivial⟩, _, _, lad, lcap, kad, kcap, oQ, (hleA.trans (hleK.trans hleQ)), (by first | rfl | simp), (by first | rfl | (simp only [List.cons.injEq, Prod.mk.injEq, SV.v.injEq, Value.int.injEq, true_and, and_true]; omega) | simp), ?_⟩
              refine ⟨BlkC.mk' (StrS.mono ⟨_, _, rfl, w1⟩ (hleK.trans hleQ)) (PrS.mono ⟨_, _, rfl, w2⟩ (hleK.trans hleQ)) (InlS.mono ⟨lcs, ⟨lad, lcap, rfl, hl1⟩, hl2⟩ hleQ) ⟨kcs, ⟨kad, kcap, rfl, hk1⟩, hk2⟩ (by obtain ⟨o1, o2, o3, o4, o5, o6, o7, o8, o9⟩ := hok; exact ⟨o1, o2, o3, o4, o5, o6, o7, by omega, by omega⟩), by rw [hes]; simpa [List.append_assoc] using hYQ⟩
            exact raall_nil
          exact raall_nil
        ·
          rintro ρ σ uc7 ⟨w1, w2, w3, w4, w5, w6, o7, hlc7, rfl, rfl, ⟨hx7, hY7⟩⟩
          have oneAll7 := hx7.one
          refine wc_region ?_
          refine rl_y (y_move rfl rfl) rfl ?_
          refine rl_y (y_load_p rfl Tryd.k42 rfl rfl rfl (vs := [_, _, _, _, _, _, _, _, _, _, _]) rfl rfl rfl) rfl ?_
          refine rl_do rfl rfl ?_
          refine do_buildSlice trivial Tryd.s23 Tryd.z42 (ps := [(_, _)]) rfl (xs := [_, _, _, _, _, _, _, _, _, _, _]) rfl rfl rfl rfl rfl rfl rfl ?_
          refine rl_do rfl rfl ?_
          refine do_append_s trivial rfl rfl Tryd.s23 Tryd.z42 rfl rfl rfl rfl rfl rfl oneAll7 (by omega) (by omega) (ρ' := [(1, _), (2, _), (10, _), (11, _), (12, _)]) ⟨rfl, rfl, rfl, rfl, rfl, trivial⟩ rfl rfl rfl ?_
          refine rl_y (y_assign rfl rfl) rfl ?_
          refine rl_ren 38 507 rfl rfl rfl ?_
          refine rl_end (ρ' := [(1, _), (2, _), (7, _), (10, _), (11, _), (12, _)]) ⟨rfl, rfl, rfl, rfl, rfl, rfl, trivial⟩ ?_
          refine q_block ?_
          refine q_then ?_
          refine wc_region ?_
          refine rl_y (y_add rfl rfl rfl (wrap64_id (by omega))) rfl ?_
          refine rl_y (y_move rfl rfl) rfl ?_
          refine rl_end (ρ' := [(1, _), (2, _), (7, _), (10, _), (11, _), (12, _)]) ⟨rfl, rfl, rfl, rfl, rfl, rfl, trivial⟩ ?_
          refine q_thenK ?_
          refine ⟨m - 1, [(1, _), (2, _), (7, _), (10, _), (11, _), (12, _)], [(507, _), (1000, _)], by omega, ⟨rfl, rfl, rfl, rfl, rfl, rfl, trivial⟩, ⟨rfl, rfl, trivial⟩, i + 1, by omega, (by first | exact hle3.trans hlc7 | exact hle3), _, _, (by first | (rw [hbs, List.length_append]; rfl) | (rw [hbs])), (by first | rfl | simp), ?_⟩
          first
            | (refine ⟨?_, ?_⟩; rw [hbs]; exact (hacc.mono hlc7).append (BlksC.one hx7); exact hY7)
            | (refine ⟨?_, ?_⟩; rw [hbs]; exact hacc; rw [hes]; exact hYi)
    ·
      have hge := of_decide_eq_false hb3
      refine wc_exit ?_
      refine q_then_exit ?_
      refine q_then_exit ?_
      refine q_block_hit ?_
      refine q_then ?_
      refine wc_seq ?_
      refine wc_region ?_
      refine rl_y (y_move rfl rfl) rfl ?_
      refine rl_freeze 507 rfl ?_
      intro ad507 cap507 u507 hle507z hsl507
      refine rl_y (y_assign rfl rfl) rfl ?_
      refine rl_end (ρ' := [(6, _)]) ⟨rfl, trivial⟩ ?_
      refine q_then ?_
      refine wc_ret ?_
      refine finO1 [1000] (.tmp rfl) rfl rfl ?_
      rw [List.take_of_length_le (by omega)] at hacc hYi hsl507
      exact ⟨⟨_, ⟨_, _, by rw [List.take_of_length_le (by omega)], hsl507⟩, hacc.mono hle507z⟩, oi, rfl, hM _ _ _ _ hle507z hYi⟩
end Go.Proofs.Ythkgcakpjknlbaa
namespace Go.Proofs.Ythkgcakpjknlbaa
open Go Go.Eng
set_option linter.unusedSimpArgs false
set_option linter.unusedVariables false
set_option maxRecDepth 4000
theorem strS_of' {u : View} {ad : Option Addr} {cap n : Nat} {xs : List Bs} (hn : n = xs.length) (h : SlC u ad n cap 1 (strsC xs)) : StrS u (.slice ad n cap) xs := by
 subst hn
 exact ⟨ad, cap, rfl, h⟩
/-- a list of texts in a box that grows -/
abbrev txtO (l : List Bs) : OO := .rb 9 1 l.length (strsC l)
theorem add_fn (b0 : Nat) (l : List Bs) (id : Bs) (hl : l.length ≤ 1000000) (u : View) :
    FnO Tryd.prog 25 [str id, .pointer (some ⟨b0, 0, none⟩)] u [(some b0, txtO l)] fun r u' l' => r = .tuple #[] ∧ l' = [(some b0, txtO (l ++ nz id))] := by
  refine FnO.intro [] Tryd.func25 rfl rfl rfl ?_
  intro w0 D hw0
  refine wc_pin 1 1000 _ 0 rfl rfl ?_
  refine wc_seq ?_
  refine wc_region ?_
  refine rl_y (y_move rfl rfl) rfl ?_
  refine rl_y (y_str_neq rfl rfl rfl) rfl ?_
  refine rl_end (ρ' := [(0, _), (1, _), (4, _)]) ⟨rfl, rfl, rfl, trivial⟩ ?_
  refine q_then ?_
  refine wc_cond rfl (fun hb0 => ?_) (fun hb0 => ?_)
  ·
    have h0 := of_decide_eq_true hb0; have hz : nz id = [id] := if_neg h0
    refine wc_region ?_
    refine rl_y (y_load_rb rfl Tryd.k29 rfl rfl rfl) rfl ?_
    refine rl_y (y_move rfl rfl) rfl ?_
    refine rl_do rfl rfl ?_
    refine do_buildSlice trivial Tryd.s29 Tryd.z9 (ps := [(_, _)]) rfl (xs := [_]) rfl rfl rfl rfl rfl rfl rfl ?_
    refine rl_do rfl rfl ?_
    refine do_append_rb_s trivial rfl rfl Tryd.s29 Tryd.z9 rfl rfl rfl rfl rfl rfl (by first | rfl | exact oneAll | exact oneAll2 | simp [Value.oneCell', str]) (by omega) (by omega) (ρ' := [(1, _)]) ⟨rfl, trivial⟩ rfl rfl rfl rfl ?_
    refine rl_do rfl rfl ?_
    refine do_store_rb (ρ' := []) trivial rfl Tryd.k29 rfl rfl rfl rfl trivial rfl rfl rfl ?_
    refine rl_end (ρ' := []) trivial ?_
    refine finO0n [1000]  rfl rfl ?_
    rw [hz]
    first
      | (refine ⟨rfl, ?_⟩; simp [txtO, strsC]; done)
      | (refine ⟨rfl, ?_⟩; rfl)
  ·
    have h0 := of_decide_eq_false hb0; have hz : nz id = [] := if_pos (Decidable.of_not_not h0)
    refine wc_skip ?_
    refine finO0n [1000]  rfl rfl ?_
    rw [hz]
    first
      | (refine ⟨rfl, ?_⟩; simp [txtO, strsC]; done)
      | (refine ⟨rfl, ?_⟩; rfl)
/-- what the visitor's calls know of each other -/
def namesY (b0 : Nat) : Ys := fun _ pre o => o = txtO (namesE pre)
theorem namesB_fn (ba b0 : Nat) (u : View) (T : TypeId) (fr : Nat × Nat) (hba : u ba = some (.cells [.func (.func 25) #[] #[.pointer (some ⟨b0, 0, none⟩)]].toArray T fr)) (pre : List Ev) (o : OO) (u' : View) (p : Value) (x : Blk) (hle : VLe u u') (hl : pre.length ≤ 200000) (hY : namesY b0 u' pre o) (hp : PtrB u' p x) :
  FnO Tryd.prog 26 [p, .pointer (some ⟨ba, 0, none⟩)] u' [(some b0, o)] fun r u'' l' => r = .tuple #[] ∧ ∃ o', l' = [(some b0, o')] ∧ namesY b0 u'' (pre ++ [Sum.inl x]) o' := by
 obtain ⟨b, off, c, Tp, frp, rfl, hu1, hc⟩ := hp
 obtain ⟨k, lv, inf, t, d, ti, a, line, kids⟩ := x
 obtain ⟨vc, vp, vl, vk, hP, _⟩ := hc.cells
 have hba := hle _ _ hba
 have hln := namesE_len pre
 subst hY
 refine FnO.intro [] Tryd.func26 rfl rfl rfl ?_
 intro w0 D hw0
 refine wc_draw Tryd.mixed rfl [] trivial ?_
 refine ra_y (i := 0) rfl (by kernel_rfl) (by kernel_rfl) (by kernel_rfl) (np_finO) (y_load_v rfl Tryd.k52 rfl (by assumption) (vs := [_]) (by first | rfl | exact hP | exact cut_at hP rfl (Nat.le_of_ble_eq_true rfl) rfl) rfl rfl) rfl ?_
 refine ra_y (i := 1) rfl (by kernel_rfl) (by kernel_rfl) (by kernel_rfl) (np_finO) (y_move rfl rfl) rfl ?_
 refine ra_y (i := 2) rfl (by kernel_rfl) (by kernel_rfl) (by kernel_rfl) (np_finO) (y_nilCheck_v rfl rfl) rfl ?_
 refine ra_y (i := 3) rfl (by kernel_rfl) (by kernel_rfl) (by kernel_rfl) (np_finO) (y_field_v rfl Tryd.f42' rfl (by decide) rfl) rfl ?_
 refine ra_y (i := 4) rfl (by kernel_rfl) (by kernel_rfl) (by kernel_rfl) (np_finO) (y_field_v rfl Tryd.f39' rfl (by decide) rfl) rfl ?_
 refine ra_y (i := 5) rfl (by kernel_rfl) (by kernel_rfl) (by kernel_rfl) (np_finO) (y_load_v rfl Tryd.k9 rfl (by assumption) (vs := [_]) (by first | rfl | exact hP | exact cut_at hP rfl (Nat.le_of_ble_eq_true rfl) rfl) rfl rfl) rfl ?_
 refine ra_do (i := 6) rfl rfl (by kernel_rfl) ?_
 refine do_call_o (caps := [.pointer (some ⟨b0, 0, none⟩)]) (ρ' := []) [1000] [] trivial rfl rfl rfl Tryd.c25 rfl rfl trivial rfl rfl rfl (FnO.mono (add_fn b0 (namesE pre) a.id (by omega) u') ?_)
 rintro v u1 l1 hle1 ⟨rfl, rfl⟩ -
 refine ⟨⟨fun _ h => h, trivial⟩, ?_⟩
 refine ra_end (by kernel_rfl) (ρ' := []) trivial ?_
 refine finO0n [1000]  rfl rfl ?_
 exact ⟨rfl, _, rfl, by unfold namesY; rw [namesE_append]; simp [namesE, evId, idB]⟩
theorem namesI_fn (ba b0 : Nat) (u : View) (T : TypeId) (fr : Nat × Nat) (hba : u ba = some (.cells [.func (.func 25) #[] #[.pointer (some ⟨b0, 0, none⟩)]].toArray T fr)) (pre : List Ev) (o : OO) (u' : View) (p : Value) (x : Inl) (hle : VLe u u') (hl : pre.length ≤ 200000) (hY : namesY b0 u' pre o) (hp : PtrI u' p x) :
  FnO Tryd.prog 27 [p, .pointer (some ⟨ba, 0, none⟩)] u' [(some b0, o)] fun r u'' l' => r = .tuple #[] ∧ ∃ o', l' = [(some b0, o')] ∧ namesY b0 u'' (pre ++ [Sum.inr x]) o' := by
 obtain ⟨b, off, c, Tp, frp, rfl, hu1, hc⟩ := hp
 obtain ⟨k, t, d, ti, a, args, cites, kids⟩ := x
 obtain ⟨vc, vp, va, vt, vk, hP, _⟩ := hc.cells
 have hba := hle _ _ hba
 have hln := namesE_len pre
 subst hY
 refine FnO.intro [] Tryd.func27 rfl rfl rfl ?_
 intro w0 D hw0
 refine wc_draw Tryd.mixed rfl [] trivial ?_
 refine ra_y (i := 0) rfl (by kernel_rfl) (by kernel_rfl) (by kernel_rfl) (np_finO) (y_load_v rfl Tryd.k52 rfl (by assumption) (vs := [_]) (by first | rfl | exact hP | exact cut_at hP rfl (Nat.le_of_ble_eq_true rfl) rfl) rfl rfl) rfl ?_
 refine ra_y (i := 1) rfl (by kernel_rfl) (by kernel_rfl) (by kernel_rfl) (np_finO) (y_move rfl rfl) rfl ?_
 refine ra_y (i := 2) rfl (by kernel_rfl) (by kernel_rfl) (by kernel_rfl) (np_finO) (y_nilCheck_v rfl rfl) rfl ?_
 refine ra_y (i := 3) rfl (by kernel_rfl) (by kernel_rfl) (by kernel_rfl) (np_finO) (y_field_v rfl Tryd.f46' rfl (by decide) rfl) rfl ?_
 refine ra_y (i := 4) rfl (by kernel_rfl) (by kernel_rfl) (by kernel_rfl) (np_finO) (y_field_v rfl Tryd.f39' rfl (by decide) rfl) rfl ?_
 refine ra_y (i := 5) rfl (by kernel_rfl) (by kernel_rfl) (by kernel_rfl) (np_finO) (y_load_v rfl Tryd.k9 rfl (by assumption) (vs := [_]) (by first | rfl | exact hP | exact cut_at hP rfl (Nat.le_of_ble_eq_true rfl) rfl) rfl rfl) rfl ?_
 refine ra_do (i := 6) rfl rfl (by kernel_rfl) ?_
 refine do_call_o (caps := [.pointer (some ⟨b0, 0, none⟩)]) (ρ' := []) [1000] [] trivial rfl rfl rfl Tryd.c25 rfl rfl trivial rfl rfl rfl (FnO.mono (add_fn b0 (namesE pre) a.id (by omega) u') ?_)
 rintro v u1 l1 hle1 ⟨rfl, rfl⟩ -
 refine ⟨⟨fun _ h => h, trivial⟩, ?_⟩
 refine ra_end (by kernel_rfl) (ρ' := []) trivial ?_
 refine finO0n [1000]  rfl rfl ?_
 exact ⟨rfl, _, rfl, by unfold namesY; rw [namesE_append]; simp [namesE, evId, idI]⟩
theorem labNames_fn (vm vb : Value) (bs : List Blk) (u : View) (hbig : szB bs ≤ 100000) (ha : BlkS u vb bs) :
  FnP Tryd.prog 11 [.agg #[vm, vb]] u fun r u' => StrS u' r (namesOf bs) := by
 have ha2 := ha
 obtain ⟨cs, ⟨ad, cap, rfl, h1⟩, hc1⟩ := ha2
 refine FnP.intro [.tmp 2] Tryd.func11 rfl rfl rfl ?_
 intro w0 D hw0
 refine wc_seq ?_
 refine wc_region ?_
 refine rl_do rfl rfl ?_
 refine do_box trivial rfl (cs := [_, _]) rfl rfl rfl rfl ?_
 refine rl_y (y_assign rfl rfl) rfl ?_
 refine rl_end (ρ' := [(1, _)]) ⟨rfl, trivial⟩ ?_
 refine q_then ?_
 refine wc_seq ?_
 refine wc_region ?_
 refine rl_do rfl rfl ?_
 refine do_alloc_rb 9 1 trivial Tryd.z29 rfl rfl rfl ?_
 refine rl_end (ρ' := [(1, _), (3, _)]) ⟨rfl, rfl, trivial⟩ ?_
 refine q_then ?_
 refine wc_seq ?_
 refine wc_region ?_
 refine rl_name 3 rfl ⟨3, _, .inl rfl⟩ ?_
 intro b3
 refine rl_y (y_makeFunc rfl rfl rfl) rfl ?_
 refine rl_do rfl rfl ?_
 refine do_alloc trivial Tryd.z52 rfl rfl rfl ?_
 refine rl_do rfl rfl ?_
 refine do_store_p trivial rfl Tryd.k52 rfl rfl rfl (vs := [_]) rfl rfl (by first | rfl | exact oneAll | exact oneAll2 | simp [Value.oneCell', str]) (Nat.le_of_ble_eq_true rfl) rfl ?_
 refine rl_reveal 4 rfl ?_
 intro b4 T4 u4 hle4z hu4 hpn4
 refine rl_end (ρ' := [(1, _), (3, _), (4, _)]) ⟨rfl, rfl, rfl, trivial⟩ ?_
 refine q_then ?_
 refine wc_seq ?_
 refine wc_region ?_
 refine rl_y (y_makeFunc rfl rfl rfl) rfl ?_
 refine rl_y (y_makeFunc rfl rfl rfl) rfl ?_
 refine rl_y (y_build rfl Tryd.f58' Tryd.z58 (ps := [(_, _), (_, _)]) rfl (vs := [_, _]) rfl) rfl ?_
 refine rl_y (y_field_p rfl Tryd.f25' rfl (by decide) rfl) rfl ?_
 refine rl_y (y_load_p rfl Tryd.k23 rfl rfl rfl (vs := [_]) rfl rfl rfl) rfl ?_
 refine rl_do rfl rfl ?_
 refine do_call_o (caps := []) (ρ' := [(3, _)]) [3] [] trivial rfl rfl rfl Tryd.c28 rfl rfl ⟨rfl, trivial⟩ rfl rfl rfl (FnO.mono (vBlk_fn _ _ b3 (namesY b3) (fun _ _ _ _ _ h ↦ h) (szB bs) _ bs [] _ u4 (Nat.le_refl _) (by simp; omega) (ha.mono hle4z) (.inr ⟨26, [.pointer (some ⟨b4, 0, none⟩)], rfl, Tryd.c26, fun pre o u' p x hle hl hY hp ↦ namesB_fn b4 b3 u4 _ _ hu4 pre o u' p x hle hl hY hp⟩) (.inr ⟨27, [.pointer (some ⟨b4, 0, none⟩)], rfl, Tryd.c27, fun pre o u' p x hle hl hY hp ↦ namesI_fn b4 b3 u4 _ _ hu4 pre o u' p x hle hl hY hp⟩) rfl) ?_)
 rintro v uV l1 hleV ⟨rfl, o3, rfl, rfl⟩ -
 refine ⟨⟨fun _ h => h, trivial⟩, ?_⟩
 refine rl_end (ρ' := [(3, _)]) ⟨rfl, trivial⟩ ?_
 refine q_then ?_
 refine wc_seq ?_
 refine wc_region ?_
 refine rl_y (y_load_rb rfl Tryd.k29 rfl rfl rfl) rfl ?_
 refine rl_freeze_rb 3 rfl ?_
 intro ad3 cap3 u3 hle3z hsl3
 refine rl_y (y_assign rfl rfl) rfl ?_
 refine rl_end (ρ' := [(2, _)]) ⟨rfl, trivial⟩ ?_
 refine q_then ?_
 refine wc_ret ?_
 refine fin1 (.tmp rfl) ?_
 exact strS_of' rfl (by simpa [namesOf] using hsl3)
end Go.Proofs.Ythkgcakpjknlbaa
namespace Go.Eng
open Go Go.RowKit
set_option linter.unusedSimpArgs false
set_option linter.unusedVariables false
theorem keyB_str (a b : List UInt8) : keyB (str a) (str b) = decide (a = b) := by
  have h : keyB (str a) (str b) = ((⟨a.toArray⟩ : ByteArray) == ⟨b.toArray⟩) := rfl
  have h2 : ((⟨a.toArray⟩ : ByteArray) == ⟨b.toArray⟩) = (a.toArray == b.toArray) := rfl
  rw [h, h2]
  by_cases e : a = b
  · subst e; simp
  · rw [decide_eq_false e]; simpa using e
theorem fnd_shift (k : Value) : ∀ (l : List (Value × Value)) (i j : Nat), (fnd k l i).map (·.2) = (fnd k l j).map (·.2)
  | [], i, j => rfl
  | p :: r, i, j => by
    simp only [fnd]
    cases keyB k p.1 with
    | true => rfl
    | false => exact fnd_shift k r (i + 1) (j + 1)
theorem mget_nil (k : Value) : mget [] k = none := rfl
theorem mget_cons (p : Value × Value) (r : List (Value × Value)) (k : Value) : mget (p :: r) k = if keyB k p.1 = true then some p.2 else mget r k := by
  unfold mget
  simp only [fnd]
  cases keyB k p.1 with
  | true => simp
  | false => simpa using fnd_shift k r 1 0
/-- all keys are strings -/
def SKeys (kvs : List (Value × Value)) : Prop := kvs.all (fun p => isKey .string p.1) = true
theorem isKey_str {v : Value} (h : isKey .string v = true) : ∃ s, v = str s := by
  cases v with
  | string b => exact ⟨b.data.toList, by cases b; simp [str]⟩
  | _ => simp [isKey] at h
theorem mget_mset : ∀ (kvs : List (Value × Value)) (a b : List UInt8) (v : Value), SKeys kvs → mget (mset kvs (str a) v) (str b) = if b = a then some v else mget kvs (str b)
  | [], a, b, v, _ => by
    simp only [mset, mget_cons, mget_nil, keyB_str]
    by_cases h : b = a <;> simp [h]
  | p :: r, a, b, v, h => by
    have h0 : isKey .string p.1 = true := by have := List.all_eq_true.1 h p (by simp); exact this
    have hr : SKeys r := List.all_eq_true.2 fun x hx => List.all_eq_true.1 h x (by simp [hx])
    obtain ⟨s, hs⟩ := isKey_str h0
    obtain ⟨p1, p2⟩ := p
    simp only at hs
    subst hs
    simp only [mset, keyB_str]
    by_cases hs : a = s
    · subst hs
      simp only [decide_true, mget_cons, keyB_str]
      by_cases h : b = a <;> simp [h]
    · rw [decide_eq_false hs]
      simp only [mget_cons, keyB_str, mget_mset r a b v hr]
      by_cases h : b = a
      · subst h; simp [hs]
      · simp [h]
theorem SKeys.mset {a : List UInt8} {v : Value} : ∀ {kvs : List (Value × Value)}, SKeys kvs → SKeys (Eng.mset kvs (str a) v)
  | [], _ => by simp [Eng.mset, SKeys, isKey, str]
  | p :: r, h => by
    have h0 : isKey .string p.1 = true := by have := List.all_eq_true.1 h p (by simp); exact this
    have hr : SKeys r := List.all_eq_true.2 fun x hx => List.all_eq_true.1 h x (by simp [hx])
    simp only [Eng.mset]
    cases keyB (str a) p.1 with
    | true =>
      refine List.all_eq_true.2 fun x hx => ?_
      rcases List.mem_cons.1 hx with rfl | hx
      · simp [isKey, str]
      · exact List.all_eq_true.1 hr x hx
    | false =>
      refine List.all_eq_true.2 fun x hx => ?_
      rcases List.mem_cons.1 hx with rfl | hx
      · exact h0
      · exact List.all_eq_true.1 (SKeys.mset (a := a) (v := v) hr) x hx
end Go.Eng
namespace Go.Proofs.Ythkgcakpjknlbaa
open Go Go.Eng
set_option linter.unusedSimpArgs false
set_option linter.unusedVariables false
set_option maxRecDepth 4000
/-- a map that holds 'true' for what is in Dn -/
def SetM (kvs : List (Value × Value)) (Dn : List Bs) : Prop := kvs.all (fun p => isKey .string p.1) = true ∧ ∀ s, (mget kvs (str s)).getD (.bool false) = .bool (decide (s ∈ Dn))
theorem SetM.nil : SetM [] [] := ⟨rfl, fun s => by simp [mget_nil]⟩
theorem SetM.add {kvs : List (Value × Value)} {Dn : List Bs} (h : SetM kvs Dn) (t : Bs) : SetM (mset kvs (str t) (.bool true)) (Dn ++ [t]) := by
  refine ⟨SKeys.mset h.1, fun s => ?_⟩
  rw [mget_mset _ _ _ _ h.1]
  by_cases e : s = t
  · subst e; simp
  · rw [if_neg e, h.2 s]; simp [e]
theorem SetM.congr {kvs : List (Value × Value)} {Dn E : List Bs} (h : SetM kvs Dn) (e : ∀ s, s ∈ Dn ↔ s ∈ E) : SetM kvs E := ⟨h.1, fun s => by rw [h.2 s]; simp [e s]⟩
theorem u8_35 (c : UInt8) : decide ((c.toNat : Int) = 35) = decide (c = 35) := by
 refine decide_eq_decide.2 ⟨fun h => ?_, fun h => by rw [h]; rfl⟩
 have : c.toNat = 35 := by omega
 exact UInt8.toNat_inj.1 this
theorem tail_take (d : Bs) : (d.drop 1).take (d.length - 1) = d.tail := by
  cases d with
  | nil => rfl
  | cons c d => simp
theorem chk_fn (b0 bm : Nat) (kvs : List (Value × Value)) (Dn : List Bs) (l : List Bs) (name : Bs) (hl : l.length ≤ 1000000) (u : View) (hm : MapV u bm kvs) (hs : SetM kvs Dn) :
    FnO Tryd.prog 49 [str name, .map (some bm), .pointer (some ⟨b0, 0, none⟩)] u [(some b0, txtO l)] fun r u' l' => r = .tuple #[] ∧ l' = [(some b0, txtO (l ++ if name ∈ Dn then [] else [name]))] := by
  refine FnO.intro [] Tryd.func49 rfl rfl rfl ?_
  intro w0 D hw0
  refine wc_pin 2 1000 _ 0 rfl rfl ?_
  refine wc_seq ?_
  refine wc_region ?_
  refine rl_y (y_move rfl rfl) rfl ?_
  refine rl_y (y_move rfl rfl) rfl ?_
  refine rl_y (y_lookup_v rfl Tryd.m61 Tryd.str9 Tryd.v4 rfl hm rfl rfl hs.1) rfl ?_
  rw [hs.2 name]
  refine rl_y (y_not rfl rfl) rfl ?_
  refine rl_end (ρ' := [(0, _), (2, _), (8, _)]) ⟨rfl, rfl, rfl, trivial⟩ ?_
  refine q_then ?_
  refine wc_cond rfl (fun hb0 => ?_) (fun hb0 => ?_)
  ·
    have h0 : name ∉ Dn := (by simpa using hb0)
    refine wc_region ?_
    refine rl_y (y_load_rb rfl Tryd.k29 rfl rfl rfl) rfl ?_
    refine rl_y (y_move rfl rfl) rfl ?_
    refine rl_do rfl rfl ?_
    refine do_buildSlice trivial Tryd.s29 Tryd.z9 (ps := [(_, _)]) rfl (xs := [_]) rfl rfl rfl rfl rfl rfl rfl ?_
    refine rl_do rfl rfl ?_
    refine do_append_rb_s trivial rfl rfl Tryd.s29 Tryd.z9 rfl rfl rfl rfl rfl rfl (by first | rfl | exact oneAll | exact oneAll2 | simp [Value.oneCell', str]) (by omega) (by omega) (ρ' := [(2, _)]) ⟨rfl, trivial⟩ rfl rfl rfl rfl ?_
    refine rl_do rfl rfl ?_
    refine do_store_rb (ρ' := []) trivial rfl Tryd.k29 rfl rfl rfl rfl trivial rfl rfl rfl ?_
    refine rl_end (ρ' := []) trivial ?_
    refine finO0n [1000]  rfl rfl ?_
    first
      | (rw [if_neg h0]; refine ⟨rfl, ?_⟩; simp [txtO, strsC]; done)
      | (rw [if_pos h0, List.append_nil]; exact ⟨rfl, rfl⟩)
  ·
    have h0 : name ∈ Dn := (by simpa using hb0)
    refine wc_skip ?_
    refine finO0n [1000]  rfl rfl ?_
    first
      | (rw [if_neg h0]; refine ⟨rfl, ?_⟩; simp [txtO, strsC]; done)
      | (rw [if_pos h0, List.append_nil]; exact ⟨rfl, rfl⟩)
def notesY : Ys := fun _ pre o => ∃ kvs, o = .mp kvs ∧ SetM kvs (pre.flatMap evNote)
theorem missN_fn (bx bm : Nat) (u : View) (T : TypeId) (fr : Nat × Nat) (hbx : u bx = some (.cells [.map (some bm)].toArray T fr)) (pre : List Ev) (o : OO) (u' : View) (p : Value) (x : Blk) (hle : VLe u u') (hl : pre.length ≤ 200000) (hY : notesY u' pre o) (hp : PtrB u' p x) :
    FnO Tryd.prog 48 [p, .pointer (some ⟨bx, 0, none⟩)] u' [(some bm, o)] fun r u'' l' => r = .tuple #[] ∧ ∃ o', l' = [(some bm, o')] ∧ notesY u'' (pre ++ [Sum.inl x]) o' := by
  obtain ⟨b, off, c, Tp, frp, rfl, hu1, hc⟩ := hp
  obtain ⟨k, lv, inf, t, d, ti, a, line, kids⟩ := x
  obtain ⟨vc, vp, vl, vk, hP, _⟩ := hc.cells
  have hbx := hle _ _ hbx
  obtain ⟨kvs, rfl, hs⟩ := hY
  have hk := hs.1
  refine FnO.intro [] Tryd.func48 rfl rfl rfl ?_
  intro w0 D hw0
  refine wc_seq ?_
  refine wc_region ?_
  refine rl_y (y_move rfl rfl) rfl ?_
  refine rl_y (y_nilCheck_v rfl rfl) rfl ?_
  refine rl_y (y_field_v rfl Tryd.f42' rfl (by decide) rfl) rfl ?_
  refine rl_y (y_load_v rfl Tryd.k3 rfl (by assumption) (vs := [_]) (by first | rfl | exact hP | exact cut_at hP rfl (Nat.le_of_ble_eq_true rfl) rfl) rfl rfl) rfl ?_
  refine rl_y (y_eql rfl rfl rfl) rfl ?_
  refine rl_end (ρ' := [(0, _), (1, _), (7, _)]) ⟨rfl, rfl, rfl, trivial⟩ ?_
  refine q_then ?_
  refine wc_cond rfl (fun hb0 => ?_) (fun hb0 => ?_)
  ·
    have h0 := of_decide_eq_true hb0
    refine wc_draw Tryd.mixed rfl [] trivial ?_
    refine ra_y (i := 0) rfl (by kernel_rfl) (by kernel_rfl) (by kernel_rfl) (np_finO) (y_load_v rfl Tryd.k61 rfl (by assumption) (vs := [_]) (by first | rfl | exact hP | exact cut_at hP rfl (Nat.le_of_ble_eq_true rfl) rfl) rfl rfl) rfl ?_
    refine ra_pinSM 8 1000 bm rfl rfl ?_
    refine ra_y (i := 1) rfl (by kernel_rfl) (by kernel_rfl) (by kernel_rfl) (np_finO) (y_move rfl rfl) rfl ?_
    refine ra_y (i := 2) rfl (by kernel_rfl) (by kernel_rfl) (by kernel_rfl) (np_finO) (y_nilCheck_v rfl rfl) rfl ?_
    refine ra_y (i := 3) rfl (by kernel_rfl) (by kernel_rfl) (by kernel_rfl) (np_finO) (y_field_v rfl Tryd.f42' rfl (by decide) rfl) rfl ?_
    refine ra_y (i := 4) rfl (by kernel_rfl) (by kernel_rfl) (by kernel_rfl) (np_finO) (y_load_v rfl Tryd.k9 rfl (by assumption) (vs := [_]) (by first | rfl | exact hP | exact cut_at hP rfl (Nat.le_of_ble_eq_true rfl) rfl) rfl rfl) rfl ?_
    refine ra_do (i := 5) rfl rfl (by kernel_rfl) ?_
    refine do_mapUpdate trivial rfl Tryd.m61 Tryd.str9 rfl rfl rfl rfl rfl (by assumption) ?_
    refine ra_end (by kernel_rfl) (ρ' := []) trivial ?_
    refine finO0n [1000]  rfl rfl ?_
    refine ⟨rfl, _, rfl, ?_⟩
    first
      | exact ⟨_, rfl, by simpa [evNote, noteName, h0] using hs.add inf⟩
      | exact ⟨_, rfl, by simpa [evNote, noteName, h0] using hs⟩
  ·
    have h0 := of_decide_eq_false hb0
    refine wc_skip ?_
    refine finO0n [1000]  rfl rfl ?_
    refine ⟨rfl, _, rfl, ?_⟩
    first
      | exact ⟨_, rfl, by simpa [evNote, noteName, h0] using hs.add inf⟩
      | exact ⟨_, rfl, by simpa [evNote, noteName, h0] using hs⟩
def missY (Dn N : List Bs) : Ys := fun _ pre o => o = txtO (missE Dn N pre)
set_option maxHeartbeats 1000000 in
theorem missI_fn (bc bi bn b0 mi mn : Nat) (ki kn : List (Value × Value)) (Dn N : List Bs) (u : View) (T1 T2 T3 : TypeId) (f1 f2 f3 : Nat × Nat) (hbc : u bc = some (.cells [.func (.func 49) #[] #[.pointer (some ⟨b0, 0, none⟩)]].toArray T1 f1))
    (hbi : u bi = some (.cells [.map (some mi)].toArray T2 f2)) (hbn : u bn = some (.cells [.map (some mn)].toArray T3 f3)) (hmi : MapV u mi ki) (hmn : MapV u mn kn) (hsi : SetM ki Dn) (hsn : SetM kn N)
    (pre : List Ev) (o : OO) (u' : View) (p : Value) (x : Inl) (hle : VLe u u') (hl : pre.length ≤ 200000) (hY : missY Dn N u' pre o) (hp : PtrI u' p x) :
    FnO Tryd.prog 50 [p, .pointer (some ⟨bc, 0, none⟩), .pointer (some ⟨bi, 0, none⟩), .pointer (some ⟨bn, 0, none⟩)] u' [(some b0, o)] fun r u'' l' => r = .tuple #[] ∧ ∃ o', l' = [(some b0, o')] ∧ missY Dn N u'' (pre ++ [Sum.inr x]) o' := by
  obtain ⟨b, off, c, Tp, frp, rfl, hu1, hc⟩ := hp
  obtain ⟨k, t, d, ti, a, args, cites, kids⟩ := x
  obtain ⟨vc, vp, va, vt, vk, hP, _, _, _, _, _, hok⟩ := hc.cells
  obtain ⟨_, okt, okd, _⟩ := hok
  have hbc := hle _ _ hbc
  have hbi := hle _ _ hbi
  have hbn := hle _ _ hbn
  have hmi := hmi.mono hle
  have hmn := hmn.mono hle
  have hln := missE_len Dn N pre
  have hst : missE Dn N (pre ++ [Sum.inr (.mk k t d ti a args cites kids)]) = missE Dn N pre ++ (if k = 14 then (if t ∈ Dn then [] else [t]) else if k = 12 then (if t ∈ N then [] else [t]) else if k = 9 ∧ t = [] ∧ d.head? = some 35 then (if d.tail ∈ Dn then [] else [d.tail]) else []) := by simp [missE, missEv]
  subst hY
  refine FnO.intro [] Tryd.func50 rfl rfl rfl ?_
  intro w0 D hw0
  refine wc_seq ?_
  refine wc_region ?_
  refine rl_y (y_move rfl rfl) rfl ?_
  refine rl_y (y_nilCheck_v rfl rfl) rfl ?_
  refine rl_y (y_field_v rfl Tryd.f46' rfl (by decide) rfl) rfl ?_
  refine rl_y (y_load_v rfl Tryd.k3 rfl (by assumption) (vs := [_]) (by first | rfl | exact hP | exact cut_at hP rfl (Nat.le_of_ble_eq_true rfl) rfl) rfl rfl) rfl ?_
  refine rl_end (ρ' := [(0, _), (1, _), (2, _), (3, _), (8, _)]) ⟨rfl, rfl, rfl, rfl, rfl, trivial⟩ ?_
  refine q_then ?_
  refine wc_block ?_
  refine wc_seq ?_
  refine wc_region ?_
  refine rl_y (y_eql rfl rfl rfl) rfl ?_
  refine rl_y (y_assign rfl rfl) rfl ?_
  refine rl_end (ρ' := [(0, _), (1, _), (2, _), (3, _), (8, _), (9, _)]) ⟨rfl, rfl, rfl, rfl, rfl, rfl, trivial⟩ ?_
  refine q_then ?_
  refine wc_cond rfl (fun hb1 => ?_) (fun hb1 => ?_)
  ·
    have h1 := of_decide_eq_true hb1
    refine wc_draw Tryd.mixed rfl [] trivial ?_
    refine ra_y (i := 0) rfl (by kernel_rfl) (by kernel_rfl) (by kernel_rfl) (np_block (np_finO)) (y_load_v rfl Tryd.k78 rfl (by assumption) (vs := [_]) (by first | rfl | exact hP | exact cut_at hP rfl (Nat.le_of_ble_eq_true rfl) rfl) rfl rfl) rfl ?_
    refine ra_y (i := 1) rfl (by kernel_rfl) (by kernel_rfl) (by kernel_rfl) (np_block (np_finO)) (y_move rfl rfl) rfl ?_
    refine ra_y (i := 2) rfl (by kernel_rfl) (by kernel_rfl) (by kernel_rfl) (np_block (np_finO)) (y_nilCheck_v rfl rfl) rfl ?_
    refine ra_y (i := 3) rfl (by kernel_rfl) (by kernel_rfl) (by kernel_rfl) (np_block (np_finO)) (y_field_v rfl Tryd.f46' rfl (by decide) rfl) rfl ?_
    refine ra_y (i := 4) rfl (by kernel_rfl) (by kernel_rfl) (by kernel_rfl) (np_block (np_finO)) (y_load_v rfl Tryd.k9 rfl (by assumption) (vs := [_]) (by first | rfl | exact hP | exact cut_at hP rfl (Nat.le_of_ble_eq_true rfl) rfl) rfl rfl) rfl ?_
    refine ra_y (i := 5) rfl (by kernel_rfl) (by kernel_rfl) (by kernel_rfl) (np_block (np_finO)) (y_load_v rfl Tryd.k61 rfl (by assumption) (vs := [_]) (by first | rfl | exact hP | exact cut_at hP rfl (Nat.le_of_ble_eq_true rfl) rfl) rfl rfl) rfl ?_
    refine ra_do (i := 6) rfl rfl (by kernel_rfl) ?_
    refine do_call_o (caps := [.pointer (some ⟨b0, 0, none⟩)]) (ρ' := []) [1000] [] trivial rfl rfl rfl Tryd.c49 rfl rfl trivial rfl rfl rfl (FnO.mono (chk_fn b0 mi ki Dn (missE Dn N pre) t (by omega) u' hmi hsi) ?_)
    rintro v u1 l1 hle1 ⟨rfl, rfl⟩ -
    refine ⟨⟨fun _ h => h, trivial⟩, ?_⟩
    refine ra_end (by kernel_rfl) (ρ' := []) trivial ?_
    refine q_block ?_
    refine finO0n [1000]  rfl rfl ?_
    refine ⟨rfl, _, rfl, ?_⟩
    unfold missY
    rw [hst, if_pos h1]
  ·
    have h1 := of_decide_eq_false hb1
    refine wc_seq ?_
    refine wc_region ?_
    refine rl_y (y_eql rfl rfl rfl) rfl ?_
    refine rl_y (y_assign rfl rfl) rfl ?_
    refine rl_end (ρ' := [(0, _), (1, _), (2, _), (3, _), (8, _), (18, _)]) ⟨rfl, rfl, rfl, rfl, rfl, rfl, trivial⟩ ?_
    refine q_then ?_
    refine wc_cond rfl (fun hb3 => ?_) (fun hb3 => ?_)
    ·
      have h3 := of_decide_eq_true hb3
      refine wc_draw Tryd.mixed rfl [] trivial ?_
      refine ra_y (i := 0) rfl (by kernel_rfl) (by kernel_rfl) (by kernel_rfl) (np_block (np_finO)) (y_load_v rfl Tryd.k78 rfl (by assumption) (vs := [_]) (by first | rfl | exact hP | exact cut_at hP rfl (Nat.le_of_ble_eq_true rfl) rfl) rfl rfl) rfl ?_
      refine ra_y (i := 1) rfl (by kernel_rfl) (by kernel_rfl) (by kernel_rfl) (np_block (np_finO)) (y_move rfl rfl) rfl ?_
      refine ra_y (i := 2) rfl (by kernel_rfl) (by kernel_rfl) (by kernel_rfl) (np_block (np_finO)) (y_nilCheck_v rfl rfl) rfl ?_
      refine ra_y (i := 3) rfl (by kernel_rfl) (by kernel_rfl) (by kernel_rfl) (np_block (np_finO)) (y_field_v rfl Tryd.f46' rfl (by decide) rfl) rfl ?_
      refine ra_y (i := 4) rfl (by kernel_rfl) (by kernel_rfl) (by kernel_rfl) (np_block (np_finO)) (y_load_v rfl Tryd.k9 rfl (by assumption) (vs := [_]) (by first | rfl | exact hP | exact cut_at hP rfl (Nat.le_of_ble_eq_true rfl) rfl) rfl rfl) rfl ?_
      refine ra_y (i := 5) rfl (by kernel_rfl) (by kernel_rfl) (by kernel_rfl) (np_block (np_finO)) (y_load_v rfl Tryd.k61 rfl (by assumption) (vs := [_]) (by first | rfl | exact hP | exact cut_at hP rfl (Nat.le_of_ble_eq_true rfl) rfl) rfl rfl) rfl ?_
      refine ra_do (i := 6) rfl rfl (by kernel_rfl) ?_
      refine do_call_o (caps := [.pointer (some ⟨b0, 0, none⟩)]) (ρ' := []) [1000] [] trivial rfl rfl rfl Tryd.c49 rfl rfl trivial rfl rfl rfl (FnO.mono (chk_fn b0 mn kn N (missE Dn N pre) t (by omega) u' hmn hsn) ?_)
      rintro v u1 l1 hle1 ⟨rfl, rfl⟩ -
      refine ⟨⟨fun _ h => h, trivial⟩, ?_⟩
      refine ra_end (by kernel_rfl) (ρ' := []) trivial ?_
      refine q_block ?_
      refine finO0n [1000]  rfl rfl ?_
      refine ⟨rfl, _, rfl, ?_⟩
      unfold missY
      rw [hst, if_neg h1, if_pos h3]
    ·
      have h3 := of_decide_eq_false hb3
      refine wc_seq ?_
      refine wc_region ?_
      refine rl_y (y_eql rfl rfl rfl) rfl ?_
      refine rl_y (y_assign rfl rfl) rfl ?_
      refine rl_end (ρ' := [(0, _), (1, _), (2, _), (27, _)]) ⟨rfl, rfl, rfl, rfl, trivial⟩ ?_
      refine q_then ?_
      refine wc_cond rfl (fun hb5 => ?_) (fun hb5 => ?_)
      ·
        have h5 := of_decide_eq_true hb5
        refine wc_seq ?_
        refine wc_cutB 48 (decide (t = [] ∧ d.head? = some 35)) (ρk := [(0, _), (1, _), (2, _)]) ⟨rfl, rfl, rfl, trivial⟩ ?_ ?_
        ·
          refine wc_region ?_
          refine rl_y (y_move rfl rfl) rfl ?_
          refine rl_y (y_nilCheck_v rfl rfl) rfl ?_
          refine rl_y (y_field_v rfl Tryd.f46' rfl (by decide) rfl) rfl ?_
          refine rl_y (y_load_v rfl Tryd.k9 rfl (by assumption) (vs := [_]) (by first | rfl | exact hP | exact cut_at hP rfl (Nat.le_of_ble_eq_true rfl) rfl) rfl rfl) rfl ?_
          refine rl_y (y_str_eql rfl rfl rfl) rfl ?_
          refine rl_y (y_move rfl rfl) rfl ?_
          rcases Bool.eq_false_or_eq_true (decide (t = [])) with hg6_5 | hg6_5
          ·
            simp only [hg6_5]
            refine rl_on rfl rfl ?_
            refine rl_y (y_move rfl rfl) rfl ?_
            refine rl_on rfl rfl ?_
            refine rl_y (y_nilCheck_v rfl rfl) rfl ?_
            refine rl_on rfl rfl ?_
            refine rl_y (y_field_v rfl Tryd.f46' rfl (by decide) rfl) rfl ?_
            refine rl_on rfl rfl ?_
            refine rl_y (y_load_v rfl Tryd.k9 rfl (by assumption) (vs := [_]) (by first | rfl | exact hP | exact cut_at hP rfl (Nat.le_of_ble_eq_true rfl) rfl) rfl rfl) rfl ?_
            refine rl_on rfl rfl ?_
            refine rl_y (y_str_neq rfl rfl rfl) rfl ?_
            refine rl_y (y_pick_t rfl rfl rfl) rfl ?_
            refine rl_y (y_move rfl rfl) rfl ?_
            rcases Bool.eq_false_or_eq_true (decide (d ≠ [])) with hg6_12 | hg6_12
            ·
              simp only [hg6_12]
              refine rl_on rfl rfl ?_
              refine rl_y (y_move rfl rfl) rfl ?_
              refine rl_on rfl rfl ?_
              refine rl_y (y_nilCheck_v rfl rfl) rfl ?_
              refine rl_on rfl rfl ?_
              refine rl_y (y_field_v rfl Tryd.f46' rfl (by decide) rfl) rfl ?_
              refine rl_on rfl rfl ?_
              refine rl_y (y_load_v rfl Tryd.k9 rfl (by assumption) (vs := [_]) (by first | rfl | exact hP | exact cut_at hP rfl (Nat.le_of_ble_eq_true rfl) rfl) rfl rfl) rfl ?_
              obtain ⟨c0, hc0⟩ : ∃ c0, d[0]? = some c0 := by
                cases d with
                | nil => simp at hg6_12
                | cons x d => exact ⟨x, rfl⟩
              have hd0 : d.head? = some c0 := by rw [← hc0]; cases d <;> rfl
              refine rl_on rfl rfl ?_
              refine rl_y (y_index_str rfl Tryd.str9 rfl rfl (by first | rfl | omega) (by assumption)) rfl ?_
              refine rl_on rfl rfl ?_
              refine rl_y (y_eql rfl rfl rfl) rfl ?_
              rw [u8_35]
              refine rl_y (y_pick_t rfl rfl rfl) rfl ?_
              exact cutB_end rfl ⟨rfl, rfl, rfl, trivial⟩ (by first | (cases d <;> simp_all; done) | simp_all)
            ·
              simp only [hg6_12]
              refine rl_off rfl rfl rfl rfl ?_
              refine rl_off rfl rfl rfl rfl ?_
              refine rl_off rfl rfl rfl rfl ?_
              refine rl_off rfl rfl rfl rfl ?_
              refine rl_off rfl rfl rfl rfl ?_
              refine rl_off rfl rfl rfl rfl ?_
              refine rl_y (y_pick_f rfl rfl rfl) rfl ?_
              exact cutB_end rfl ⟨rfl, rfl, rfl, trivial⟩ (by first | (cases d <;> simp_all; done) | simp_all)
          ·
            simp only [hg6_5]
            refine rl_off rfl rfl rfl rfl ?_
            refine rl_off rfl rfl rfl rfl ?_
            refine rl_off rfl rfl rfl rfl ?_
            refine rl_off rfl rfl rfl rfl ?_
            refine rl_off rfl rfl rfl rfl ?_
            refine rl_y (y_pick_f rfl rfl rfl) rfl ?_
            refine rl_y (y_move rfl rfl) rfl ?_
            refine rl_off rfl rfl rfl rfl ?_
            refine rl_off rfl rfl rfl rfl ?_
            refine rl_off rfl rfl rfl rfl ?_
            refine rl_off rfl rfl rfl rfl ?_
            refine rl_off rfl rfl rfl rfl ?_
            refine rl_off rfl rfl rfl rfl ?_
            refine rl_y (y_pick_f rfl rfl rfl) rfl ?_
            exact cutB_end rfl ⟨rfl, rfl, rfl, trivial⟩ (by first | (cases d <;> simp_all; done) | simp_all)
        refine q_then ?_
        refine wc_cond rfl (fun hb6 => ?_) (fun hb6 => ?_)
        ·
          have h6 := of_decide_eq_true hb6; have hdl : 1 ≤ d.length := (by cases d with | nil => simp at h6 | cons x d => simp)
          refine wc_draw Tryd.mixed rfl [] trivial ?_
          refine ra_y (i := 0) rfl (by kernel_rfl) (by kernel_rfl) (by kernel_rfl) (np_block (np_finO)) (y_load_v rfl Tryd.k78 rfl (by assumption) (vs := [_]) (by first | rfl | exact hP | exact cut_at hP rfl (Nat.le_of_ble_eq_true rfl) rfl) rfl rfl) rfl ?_
          refine ra_y (i := 1) rfl (by kernel_rfl) (by kernel_rfl) (by kernel_rfl) (np_block (np_finO)) (y_move rfl rfl) rfl ?_
          refine ra_y (i := 2) rfl (by kernel_rfl) (by kernel_rfl) (by kernel_rfl) (np_block (np_finO)) (y_nilCheck_v rfl rfl) rfl ?_
          refine ra_y (i := 3) rfl (by kernel_rfl) (by kernel_rfl) (by kernel_rfl) (np_block (np_finO)) (y_field_v rfl Tryd.f46' rfl (by decide) rfl) rfl ?_
          refine ra_y (i := 4) rfl (by kernel_rfl) (by kernel_rfl) (by kernel_rfl) (np_block (np_finO)) (y_load_v rfl Tryd.k9 rfl (by assumption) (vs := [_]) (by first | rfl | exact hP | exact cut_at hP rfl (Nat.le_of_ble_eq_true rfl) rfl) rfl rfl) rfl ?_
          refine ra_y (i := 5) rfl (by kernel_rfl) (by kernel_rfl) (by kernel_rfl) (np_block (np_finO)) (y_slice_str (i := 1) (j := d.length) (k' := .i64) rfl Tryd.str9 rfl rfl rfl hdl (Nat.le_refl _)) rfl ?_
          rw [tail_take]
          refine ra_y (i := 6) rfl (by kernel_rfl) (by kernel_rfl) (by kernel_rfl) (np_block (np_finO)) (y_load_v rfl Tryd.k61 rfl (by assumption) (vs := [_]) (by first | rfl | exact hP | exact cut_at hP rfl (Nat.le_of_ble_eq_true rfl) rfl) rfl rfl) rfl ?_
          refine ra_do (i := 7) rfl rfl (by kernel_rfl) ?_
          refine do_call_o (caps := [.pointer (some ⟨b0, 0, none⟩)]) (ρ' := []) [1000] [] trivial rfl rfl rfl Tryd.c49 rfl rfl trivial rfl rfl rfl (FnO.mono (chk_fn b0 mi ki Dn (missE Dn N pre) d.tail (by omega) u' hmi hsi) ?_)
          rintro v u1 l1 hle1 ⟨rfl, rfl⟩ -
          refine ⟨⟨fun _ h => h, trivial⟩, ?_⟩
          refine ra_end (by kernel_rfl) (ρ' := []) trivial ?_
          refine q_block ?_
          refine finO0n [1000]  rfl rfl ?_
          refine ⟨rfl, _, rfl, ?_⟩
          unfold missY
          rw [hst, if_neg h1, if_neg h3, if_pos (c := k = 9 ∧ t = [] ∧ d.head? = some 35) ⟨h5, h6⟩]
        ·
          have h6 := of_decide_eq_false hb6
          refine wc_skip ?_
          refine q_block ?_
          refine finO0n [1000]  rfl rfl ?_
          refine ⟨rfl, _, rfl, ?_⟩
          unfold missY
          rw [hst, if_neg h1, if_neg h3, if_neg (fun h => h6 h.2), List.append_nil]
      ·
        have h5 := of_decide_eq_false hb5
        refine wc_skip ?_
        refine q_block ?_
        refine finO0n [1000]  rfl rfl ?_
        refine ⟨rfl, _, rfl, ?_⟩
        unfold missY
        rw [hst, if_neg h1, if_neg h3, if_neg (fun h => h5 h.1), List.append_nil]
theorem strS_open {u : View} {v : Value} {xs : List Bs} (h : StrS u v xs) : ∃ ad cap, v = .slice ad xs.length cap ∧ SlC u ad xs.length cap 1 (strsC xs) := h
set_option maxHeartbeats 1000000 in
theorem missing_fn (vm vb : Value) (bs : List Blk) (u : View) (hbig : szB bs ≤ 100000) (ha : BlkS u vb bs) :
  FnP Tryd.prog 30 [.agg #[vm, vb]] u fun r u' => StrS u' r (missOf bs) := by
 have hnl := namesE_len (evB bs)
 rw [evB_len] at hnl
 have hnl : (namesOf bs).length ≤ szB bs := hnl
 refine FnP.intro [.tmp 2] Tryd.func30 rfl rfl rfl ?_
 intro w0 D hw0
 refine wc_seq ?_
 refine wc_region ?_
 refine rl_do rfl rfl ?_
 refine do_box trivial rfl (cs := [_, _]) rfl rfl rfl rfl ?_
 refine rl_y (y_assign rfl rfl) rfl ?_
 refine rl_end (ρ' := [(1, _)]) ⟨rfl, trivial⟩ ?_
 refine q_then ?_
 refine wc_seq ?_
 refine wc_region ?_
 refine rl_do rfl rfl ?_
 refine do_makeMap trivial rfl rfl rfl ?_
 refine rl_do rfl rfl ?_
 refine do_makeMap trivial rfl rfl rfl ?_
 refine rl_do rfl rfl ?_
 refine do_alloc trivial Tryd.z61 rfl rfl rfl ?_
 refine rl_do rfl rfl ?_
 refine do_alloc trivial Tryd.z61 rfl rfl rfl ?_
 refine rl_name 9 rfl ⟨9, 0, .inr rfl⟩ ?_
 intro b9
 refine rl_do rfl rfl ?_
 refine do_store_p trivial rfl Tryd.k61 rfl rfl rfl (vs := [_]) rfl rfl (by first | rfl | exact oneAll | exact oneAll2 | simp [Value.oneCell', str]) (Nat.le_of_ble_eq_true rfl) rfl ?_
 refine rl_name 10 rfl ⟨10, 0, .inr rfl⟩ ?_
 intro b10
 refine rl_do rfl rfl ?_
 refine do_store_p trivial rfl Tryd.k61 rfl rfl rfl (vs := [_]) rfl rfl (by first | rfl | exact oneAll | exact oneAll2 | simp [Value.oneCell', str]) (Nat.le_of_ble_eq_true rfl) rfl ?_
 refine rl_reveal 4 rfl ?_
 intro b4 T4 u4 hle4z hu4 hpn4
 refine rl_end (ρ' := [(1, _), (3, _), (4, _)]) ⟨rfl, rfl, rfl, trivial⟩ ?_
 refine q_then ?_
 refine wc_seq ?_
 refine wc_seq ?_
 refine wc_region ?_
 refine rl_y (y_load_p rfl Tryd.k25 rfl rfl rfl (vs := [_, _]) rfl rfl rfl) rfl ?_
 refine rl_do rfl rfl ?_
 refine do_call (caps := []) trivial rfl rfl Tryd.c11 rfl (FnP.mono (labNames_fn vm vb bs _ hbig (ha.mono hle4z)) ?_)
 rintro v uN hle0 ⟨adn, capn, rfl, hn⟩ hleN
 refine rl_y (y_len_v rfl rfl Tryd.s29 rfl) rfl ?_
 refine rl_y (y_move rfl rfl) rfl ?_
 refine rl_end (ρ' := [(1, _), (3, _), (4, _), (12, _), (13, _), (14, _)]) ⟨rfl, rfl, rfl, rfl, rfl, rfl, trivial⟩ ?_
 refine q_then ?_
 refine wc_block ?_
 refine wc_loop (fun m ρ σ u' => ∃ i : Nat, i + m = (namesOf bs).length ∧ VLe uN u' ∧ ∃ (ki : List (Value × Value)), σ = [(1, (none, .box [vm, vb])), (3, (none, .box [.map (some b9)])), (9, (some b9, .mp ki)), (10, (some b10, .mp []))] ∧ ρ = [(1, .p 1 0), (3, .p 3 0), (4, .v (.pointer (some ⟨b4, 0, none⟩))), (12, .v (.slice adn (namesOf bs).length capn)), (13, .v (.int .i64 (namesOf bs).length)), (14, .v (.int .i64 i))] ∧ (uN = u' ∧ SetM ki ((namesOf bs).take i))) ((namesOf bs).length) ?_ ?_
 ·
  refine ⟨[(1, _), (3, _), (4, _), (12, _), (13, _), (14, _)], [(1, _), (3, _), (9, _), (10, _)], ⟨rfl, rfl, rfl, rfl, rfl, rfl, trivial⟩, ⟨rfl, rfl, rfl, rfl, trivial⟩, 0, by omega, VLe.refl _, [], rfl, rfl, ?_⟩
  exact ⟨rfl, SetM.nil⟩
 ·
  rintro m ρ σ u' ⟨i, hi3, hle3, ki, rfl, rfl, ⟨rfl, hSi⟩⟩
  refine wc_seq ?_
  refine wc_region ?_
  refine rl_y (y_lss rfl rfl rfl) rfl ?_
  refine rl_end (ρ' := [(1, _), (3, _), (4, _), (12, _), (13, _), (14, _), (15, _)]) ⟨rfl, rfl, rfl, rfl, rfl, rfl, rfl, trivial⟩ ?_
  refine q_then ?_
  refine wc_seq ?_
  refine wc_cond rfl (fun hb3 => ?_) (fun hb3 => ?_)
  ·
   have hlt : i < (namesOf bs).length := (by have := of_decide_eq_true hb3; omega); have hg := List.getElem?_eq_getElem hlt; have hcut := cut_strsC hg; have hk := hSi.1
   refine wc_skip ?_
   refine q_then ?_
   refine wc_seq ?_
   refine wc_block ?_
   refine wc_seq ?_
   refine wc_region ?_
   refine rl_y (y_index_e rfl Tryd.s29 rfl rfl (by assumption) (by first | rfl | omega) (by omega)) rfl ?_
   refine rl_y (y_load_el rfl Tryd.k9 rfl (by assumption) (by omega) (by assumption) (vs := [_]) rfl rfl rfl rfl) rfl ?_
   refine rl_y (y_assign rfl rfl) rfl ?_
   refine rl_end (ρ' := [(1, _), (3, _), (4, _), (6, _), (12, _), (13, _), (14, _)]) ⟨rfl, rfl, rfl, rfl, rfl, rfl, rfl, trivial⟩ ?_
   refine q_then ?_
   refine wc_region ?_
   refine rl_y (y_load_bm (id2 := 9) rfl Tryd.k61 rfl rfl rfl rfl rfl) rfl ?_
   refine rl_y (y_move rfl rfl) rfl ?_
   refine rl_do rfl rfl ?_
   refine do_mapUpdate trivial rfl Tryd.m61 Tryd.str9 rfl rfl rfl rfl rfl (by assumption) ?_
   refine rl_end (ρ' := [(1, _), (3, _), (4, _), (12, _), (13, _), (14, _)]) ⟨rfl, rfl, rfl, rfl, rfl, rfl, trivial⟩ ?_
   refine q_block ?_
   refine q_then ?_
   refine wc_region ?_
   refine rl_y (y_add rfl rfl rfl (wrap64_id (by omega))) rfl ?_
   refine rl_y (y_move rfl rfl) rfl ?_
   refine rl_end (ρ' := [(1, _), (3, _), (4, _), (12, _), (13, _), (14, _)]) ⟨rfl, rfl, rfl, rfl, rfl, rfl, trivial⟩ ?_
   refine q_thenK ?_
   refine ⟨m - 1, [(1, _), (3, _), (4, _), (12, _), (13, _), (14, _)], [(1, _), (3, _), (9, _), (10, _)], by omega, ⟨rfl, rfl, rfl, rfl, rfl, rfl, trivial⟩, ⟨rfl, rfl, rfl, rfl, trivial⟩, i + 1, by omega, hle3, _, (by first | rfl | simp), (by first | rfl | (simp only [List.cons.injEq, Prod.mk.injEq, SV.v.injEq, Value.int.injEq, true_and, and_true]; omega) | simp), ?_⟩
   exact ⟨rfl, by rw [List.take_succ_eq_append_getElem hlt]; exact hSi.add _⟩
  ·
   have hge := of_decide_eq_false hb3; rw [List.take_of_length_le (by omega)] at hSi
   refine wc_exit ?_
   refine q_then_exit ?_
   refine q_then_exit ?_
   refine q_block_hit ?_
   refine q_then ?_
   refine wc_seq ?_
   have hu4 := hleN _ _ hu4
   refine wc_region ?_
   refine rl_y (y_makeFunc rfl rfl rfl) rfl ?_
   refine rl_y (y_build rfl Tryd.f58' Tryd.z58 (ps := [(_, _)]) rfl (vs := [_, _]) rfl) rfl ?_
   refine rl_y (y_field_p rfl Tryd.f25' rfl (by decide) rfl) rfl ?_
   refine rl_y (y_load_p rfl Tryd.k23 rfl rfl rfl (vs := [_]) rfl rfl rfl) rfl ?_
   refine rl_do rfl rfl ?_
   refine do_call_o (caps := []) (ρ' := [(1, _), (3, _), (4, _)]) [10] [] trivial rfl rfl rfl Tryd.c28 rfl rfl ⟨rfl, rfl, rfl, trivial⟩ rfl rfl rfl (FnO.mono (vBlk_fn _ _ b10 notesY (fun _ _ _ _ _ h ↦ h) (szB bs) _ bs [] _ uN (Nat.le_refl _) (by simp; omega) ((ha.mono hle4z).mono hleN) (.inr ⟨48, [.pointer (some ⟨b4, 0, none⟩)], rfl, Tryd.c48, fun pre o u' p x hle hl hY hp ↦ missN_fn b4 b10 uN _ _ hu4 pre o u' p x hle hl hY hp⟩) (.inl ⟨rfl, fun u' pre o x ⟨kvs, h1, h2⟩ ↦ ⟨kvs, h1, by simpa [evNote] using h2⟩⟩) ⟨[], rfl, SetM.nil⟩) ?_)
   rintro v uV l1 hleV ⟨rfl, oV, rfl, ⟨kn, rfl, hkn⟩⟩ -
   refine ⟨⟨fun _ h => h, trivial⟩, ?_⟩
   refine rl_end (ρ' := [(1, _), (3, _), (4, _)]) ⟨rfl, rfl, rfl, trivial⟩ ?_
   refine q_then ?_
   refine wc_seq ?_
   refine wc_region ?_
   refine rl_do rfl rfl ?_
   refine do_alloc_rb 9 1 trivial Tryd.z29 rfl rfl rfl ?_
   refine rl_reveal 3 rfl ?_
   intro b3 T3 u3 hle3z hu3 hpn3
   refine rl_freezeM 9 rfl ?_
   intro b9 u9 hle9z hm9 hpn9
   refine rl_freezeM 10 rfl ?_
   intro b10 u10 hle10z hm10 hpn10
   obtain rfl := hpn9 _ rfl
   obtain rfl := hpn10 _ rfl
   have hSN : SetM kn (noteNames (listB bs)) := by rw [← evNote_all]; simpa using hkn
   have ha2 := ((((((ha.mono hle4z).mono hleN).mono hleV).mono hle3z).mono hle9z).mono hle10z)
   have hu4 := hle10z _ _ (hle9z _ _ (hle3z _ _ (hleV _ _ hu4)))
   have hu3 := hle10z _ _ (hle9z _ _ hu3)
   have hm9 := hm9.mono hle10z
   refine rl_end (ρ' := [(1, _), (3, _), (4, _), (7, _)]) ⟨rfl, rfl, rfl, rfl, trivial⟩ ?_
   refine q_then ?_
   refine wc_seq ?_
   refine wc_region ?_
   refine rl_name 7 rfl ⟨7, _, .inl rfl⟩ ?_
   intro b7
   refine rl_y (y_makeFunc rfl rfl rfl) rfl ?_
   refine rl_do rfl rfl ?_
   refine do_alloc trivial Tryd.z78 rfl rfl rfl ?_
   refine rl_do rfl rfl ?_
   refine do_store_p trivial rfl Tryd.k78 rfl rfl rfl (vs := [_]) rfl rfl (by first | rfl | exact oneAll | exact oneAll2 | simp [Value.oneCell', str]) (Nat.le_of_ble_eq_true rfl) rfl ?_
   refine rl_reveal 8 rfl ?_
   intro b8 T8 u8 hle8z hu8 hpn8
   have ha2 := ha2.mono hle8z
   have hu4 := hle8z _ _ hu4
   have hu3 := hle8z _ _ hu3
   have hm9 := hm9.mono hle8z
   have hm10 := hm10.mono hle8z
   refine rl_end (ρ' := [(1, _), (3, _), (4, _), (7, _), (8, _)]) ⟨rfl, rfl, rfl, rfl, rfl, trivial⟩ ?_
   refine q_then ?_
   refine wc_seq ?_
   refine wc_region ?_
   refine rl_y (y_makeFunc rfl rfl rfl) rfl ?_
   refine rl_y (y_build rfl Tryd.f58' Tryd.z58 (ps := [(_, _)]) rfl (vs := [_, _]) rfl) rfl ?_
   refine rl_y (y_field_p rfl Tryd.f25' rfl (by decide) rfl) rfl ?_
   refine rl_y (y_load_p rfl Tryd.k23 rfl rfl rfl (vs := [_]) rfl rfl rfl) rfl ?_
   refine rl_do rfl rfl ?_
   refine do_call_o (caps := []) (ρ' := [(7, _)]) [7] [] trivial rfl rfl rfl Tryd.c28 rfl rfl ⟨rfl, trivial⟩ rfl rfl rfl (FnO.mono (vBlk_fn _ _ b7 (missY (namesOf bs) (noteNames (listB bs))) (fun _ _ _ _ _ h ↦ h) (szB bs) _ bs [] _ u8 (Nat.le_refl _) (by simp; omega) ha2 (.inl ⟨rfl, fun u' pre o x h ↦ by unfold missY at h ⊢; rw [h]; simp [missE, missEv]⟩) (.inr ⟨50, [.pointer (some ⟨b8, 0, none⟩), .pointer (some ⟨b3, 0, none⟩), .pointer (some ⟨b4, 0, none⟩)], rfl, Tryd.c50, fun pre o u' p x hle hl hY hp ↦ missI_fn b8 b3 b4 b7 _ _ ki kn (namesOf bs) (noteNames (listB bs)) u8 _ _ _ _ _ _ hu8 hu3 hu4 hm9 hm10 hSi hSN pre o u' p x hle hl hY hp⟩) rfl) ?_)
   rintro v uW l1 hleW ⟨rfl, oW, rfl, rfl⟩ -
   refine ⟨⟨fun _ h => h, trivial⟩, ?_⟩
   refine rl_end (ρ' := [(7, _)]) ⟨rfl, trivial⟩ ?_
   refine q_then ?_
   refine wc_seq ?_
   refine wc_region ?_
   refine rl_y (y_load_rb rfl Tryd.k29 rfl rfl rfl) rfl ?_
   refine rl_freeze_rb 7 rfl ?_
   intro ad7 cap7 u7 hle7z hsl7
   refine rl_y (y_assign rfl rfl) rfl ?_
   refine rl_end (ρ' := [(2, _)]) ⟨rfl, trivial⟩ ?_
   refine q_then ?_
   refine wc_ret ?_
   refine fin1 (.tmp rfl) ?_
   exact strS_of' rfl (by simpa [missOf] using hsl7)
end Go.Proofs.Ythkgcakpjknlbaa
namespace Go.Proofs.Ythkgcakpjknlbaa
open Go Go.Eng
set_option linter.unusedSimpArgs false
set_option linter.unusedVariables false
set_option maxRecDepth 4000
theorem smB_mem : ∀ (n : Nat) (bs : List Blk), szB bs ≤ n → smB bs → ∀ x ∈ listB bs, smB1 x ∧ szI (lineOf x) ≤ szB bs := by
  intro n
  induction n with
  | zero =>
    intro bs hn _ x hx
    cases bs with
    | nil => simp [listB] at hx
    | cons y ys => cases y; simp [szB, szb] at hn
  | succ n ih =>
    intro bs hn hs x hx
    cases bs with
    | nil => simp [listB] at hx
    | cons y ys =>
      unfold smB at hs
      have h0 := hs.1
      obtain ⟨k, lv, inf, t, d, ti, a, line, kids⟩ := y
      simp only [szB, szb] at hn ⊢
      rw [listB, listb, List.cons_append] at hx
      rcases List.mem_cons.1 hx with rfl | hx
      · exact ⟨h0, by simp only [lineOf]; omega⟩
      · have h1 := h0
        unfold smB1 at h1
        rcases List.mem_append.1 hx with hx | hx
        · obtain ⟨q1, q2⟩ := ih kids (by omega) h1.2.2.2.2.2 x hx
          exact ⟨q1, by omega⟩
        · obtain ⟨q1, q2⟩ := ih ys (by omega) hs.2 x hx
          exact ⟨q1, by omega⟩
/-- the way in which labels are replaced -/
def repLI (Dn : Bs → Option Blk) : RepI where
 rep := repL Dn
 g := lnkI Dn
 ev := deep
 mm := szI
 Gd xs := smI xs ∧ szI xs ≤ 100000
 Gx _ := True
 g0 := rfl
 ev0 := rfl
 gs xs i x h := by rw [lnkI_take Dn h, lnkI1_rep]
 evs xs i x h := by rw [deep_take h, kids_repL]; cases x; simp [deep1, kidsI]
 gl := lnkI_len Dn
 down xs i x hg h := by
  have h1 := smI_get hg.1 h
  rw [kids_repL]
  obtain ⟨k, t, d, ti, a, args, cites, kids⟩ := x
  have h2 := szI_kids h
  unfold smI1 NodeSm at h1
  refine ⟨by simpa [kidsI] using h2, ⟨h1.2, by simp only [kidsI]; have := hg.2; omega⟩, ?_, trivial⟩
  simp only [repL]
  split <;> exact ⟨by omega, by omega, by omega, by omega⟩
 len xs hg := Nat.le_trans (len_szI xs) hg.2
theorem gdB_of (R : RepI) (kp : Blk → Bool) (bs : List Blk) (hs : smB bs) (hbig : szB bs ≤ 100000) (hR : ∀ xs, smI xs → szI xs ≤ 100000 → R.Gd xs) : GdB R kp bs := by
 intro x hx
 obtain ⟨h1, h2⟩ := smB_mem _ bs (Nat.le_refl _) hs x hx
 obtain ⟨k, lv, inf, t, d, ti, a, line, kids⟩ := x
 unfold smB1 at h1
 exact ⟨hR _ h1.2.2.2.2.1 (by simp only [lineOf] at h2 ⊢; omega), by omega, by omega⟩
def blksE (l : List Ev) : List Blk := l.filterMap fun e => match e with
  | .inl b => some b
  | .inr _ => none
theorem blksE_all (bs : List Blk) : blksE (evB bs) = listB bs := by
  unfold evB
  generalize listB bs = L
  induction L with
  | nil => rfl
  | cons b L ih =>
    have h1 : ∀ xs : List Inl, blksE (evI xs) = [] := by intro xs; simp [evI, blksE, List.filterMap_map, Function.comp_def]
    have e : evL (b :: L) = Sum.inl b :: (evI (lineOf b) ++ evL L) := by simp [evL]
    have e2 : blksE (evL (b :: L)) = b :: (blksE (evI (lineOf b)) ++ blksE (evL L)) := by rw [e]; simp [blksE]
    rw [e2, h1, ih, List.nil_append]
/-- the map of definitions -/
def DefM (u : View) (kvs : List (Value × Value)) (L : List Blk) : Prop := kvs.all (fun p => isKey .string p.1) = true ∧ ∀ s, match defOf L s with
  | none => mget kvs (str s) = none
  | some b => ∃ cs, mget kvs (str s) = some (.agg cs.toArray) ∧ BlkC u b cs
theorem DefM.mono {u u' : View} {kvs : List (Value × Value)} {L : List Blk} (h : DefM u kvs L) (hu : VLe u u') : DefM u' kvs L := by
  refine ⟨h.1, fun s => ?_⟩
  have := h.2 s
  cases hd : defOf L s with
  | none => rw [hd] at this; exact this
  | some b => rw [hd] at this; obtain ⟨cs, h1, h2⟩ := this; exact ⟨cs, h1, h2.mono hu⟩
theorem defOf_snoc (L : List Blk) (b : Blk) (s : Bs) : defOf (L ++ [b]) s = (defOf L s).or (if kindB b = 15 ∧ infB b = s then some b else none) := by
 unfold defOf
 rw [List.find?_append, List.find?_singleton]
 simp
abbrev zeroB : List Value := [.int .i64 0, .int .i64 0, str [], str [], str [], str [], str [], .slice none 0 0, .slice none 0 0, .slice none 0 0, .slice none 0 0]
/-- what a look into the map of definitions yields -/
theorem DefM.val {u : View} {kvs : List (Value × Value)} {L : List Blk} (h : DefM u kvs L) (s : Bs) : ∃ k lv inf t d ti id vc vp vl vk, (mget kvs (str s)).getD (.agg zeroB.toArray) = .agg (blkV k lv inf t d ti id vc vp vl vk).toArray ∧ (mget kvs (str s)).isSome = (defOf L s).isSome ∧ d = destO (defOf L s) ∧ ti = titleO (defOf L s) ∧ d.length ≤ 140737488351232 ∧ ti.length ≤ 140737488351232 ∧ (blkV k lv inf t d ti id vc vp vl vk).all Value.oneCell' = true := by
  have := h.2 s
  cases hd : defOf L s with
  | none =>
    rw [hd] at this
    rw [this]
    exact ⟨_, _, _, _, _, _, _, _, _, _, _, rfl, rfl, rfl, rfl, by simp, by simp, rfl⟩
  | some b =>
    rw [hd] at this
    obtain ⟨cs, h1, h2⟩ := this
    rw [h1]
    obtain ⟨k, lv, inf, t, d, ti, a, line, kids⟩ := b
    have one := h2.one
    obtain ⟨vc, vp, vl, vk, rfl, _, _, _, _, hok⟩ := h2.cells
    obtain ⟨_, _, _, _, o5, o6, _⟩ := hok
    exact ⟨k, lv, inf, t, d, ti, a.id, vc, vp, vl, vk, rfl, rfl, rfl, rfl, o5, o6, one⟩
def defsY : Ys := fun u pre o => ∃ kvs, o = .mp kvs ∧ DefM u kvs (blksE pre)
set_option maxHeartbeats 1000000 in
theorem lnkDefs_fn (bx bm : Nat) (u : View) (T : TypeId) (fr : Nat × Nat) (hbx : u bx = some (.cells [.map (some bm)].toArray T fr)) (pre : List Ev) (o : OO) (u' : View) (p : Value) (x : Blk) (hle : VLe u u') (hl : pre.length ≤ 200000) (hY : defsY u' pre o) (hp : PtrB u' p x) :
    FnO Tryd.prog 33 [p, .pointer (some ⟨bx, 0, none⟩)] u' [(some bm, o)] fun r u'' l' => r = .tuple #[] ∧ ∃ o', l' = [(some bm, o')] ∧ defsY u'' (pre ++ [Sum.inl x]) o' := by
  obtain ⟨b, off, c, Tp, frp, rfl, hu1, hc⟩ := hp
  obtain ⟨k, lv, inf, t, d, ti, a, line, kids⟩ := x
  have oneAll := hc.one
  have hc0 := hc
  obtain ⟨vc, vp, vl, vk, hP, _⟩ := hc.cells
  rw [hP] at oneAll hc0
  have hbx := hle _ _ hbx
  obtain ⟨kvs, rfl, hs⟩ := hY
  have hk := hs.1
  obtain ⟨k0, lv0, inf0, t0, d0, ti0, id0, vc0, vp0, vl0, vk0, hval, hsome, _, _, _, _, oneAll2⟩ := hs.val inf
  have hsn := defOf_snoc (blksE pre) (.mk k lv inf t d ti a line kids)
  have hbe : blksE (pre ++ [Sum.inl (.mk k lv inf t d ti a line kids)]) = blksE pre ++ [.mk k lv inf t d ti a line kids] := by simp [blksE]
  refine FnO.intro [] Tryd.func33 rfl rfl rfl ?_
  intro w0 D hw0
  refine wc_seq ?_
  refine wc_draw Tryd.mixed rfl [(1000, _)] ⟨rfl, trivial⟩ ?_
  refine ra_y (i := 0) rfl (by kernel_rfl) (by kernel_rfl) (by kernel_rfl) (np_then (np_finO)) (y_load_v rfl Tryd.k63 rfl (by assumption) (vs := [_]) (by first | rfl | exact hP | exact cut_at hP rfl (Nat.le_of_ble_eq_true rfl) rfl) rfl rfl) rfl ?_
  refine ra_pinSM 6 1000 bm rfl rfl ?_
  refine ra_y (i := 1) rfl (by kernel_rfl) (by kernel_rfl) (by kernel_rfl) (np_then (np_finO)) (y_move rfl rfl) rfl ?_
  refine ra_y (i := 2) rfl (by kernel_rfl) (by kernel_rfl) (by kernel_rfl) (np_then (np_finO)) (y_nilCheck_v rfl rfl) rfl ?_
  refine ra_y (i := 3) rfl (by kernel_rfl) (by kernel_rfl) (by kernel_rfl) (np_then (np_finO)) (y_field_v rfl Tryd.f42' rfl (by decide) rfl) rfl ?_
  refine ra_y (i := 4) rfl (by kernel_rfl) (by kernel_rfl) (by kernel_rfl) (np_then (np_finO)) (y_load_v rfl Tryd.k9 rfl (by assumption) (vs := [_]) (by first | rfl | exact hP | exact cut_at hP rfl (Nat.le_of_ble_eq_true rfl) rfl) rfl rfl) rfl ?_
  refine ra_y (i := 5) rfl (by kernel_rfl) (by kernel_rfl) (by kernel_rfl) (np_then (np_finO)) (y_lookup2 rfl Tryd.m63 Tryd.str9 Tryd.v42 rfl rfl rfl rfl rfl (by assumption)) rfl ?_
  rw [hval, hsome]
  refine ra_y (i := 6) rfl (by kernel_rfl) (by kernel_rfl) (by kernel_rfl) (np_then (np_finO)) (y_move rfl rfl) rfl ?_
  refine ra_y (i := 7) rfl (by kernel_rfl) (by kernel_rfl) (by kernel_rfl) (np_then (np_finO)) (y_extract rfl rfl rfl) rfl ?_
  refine ra_y (i := 8) rfl (by kernel_rfl) (by kernel_rfl) (by kernel_rfl) (np_then (np_finO)) (y_extract rfl rfl rfl) rfl ?_
  refine ra_do (i := 9) rfl rfl (by kernel_rfl) ?_
  refine do_alloc ⟨rfl, trivial⟩ Tryd.z42 rfl rfl rfl ?_
  refine ra_do (i := 10) rfl rfl (by kernel_rfl) ?_
  refine do_store_p ⟨rfl, trivial⟩ rfl Tryd.k42 rfl rfl rfl (vs := [_, _, _, _, _, _, _, _, _, _, _]) rfl rfl (by first | rfl | exact oneAll | exact oneAll2 | simp [Value.oneCell', str]) (Nat.le_of_ble_eq_true rfl) rfl ?_
  refine ra_y (i := 11) rfl (by kernel_rfl) (by kernel_rfl) (by kernel_rfl) (np_then (np_finO)) (y_assign rfl rfl) rfl ?_
  refine ra_end (by kernel_rfl) (ρ' := [(0, _), (1, _), (4, _)]) ⟨rfl, rfl, rfl, trivial⟩ ?_
  refine q_then ?_
  refine wc_seq ?_
  refine wc_cutB 22 (decide (k = 15 ∧ (defOf (blksE pre) inf).isSome = false)) (ρk := [(0, _), (1, _)]) ⟨rfl, rfl, trivial⟩ ?_ ?_
  ·
    refine wc_region ?_
    refine rl_y (y_move rfl rfl) rfl ?_
    refine rl_y (y_nilCheck_v rfl rfl) rfl ?_
    refine rl_y (y_field_v rfl Tryd.f42' rfl (by decide) rfl) rfl ?_
    refine rl_y (y_load_v rfl Tryd.k3 rfl (by assumption) (vs := [_]) (by first | rfl | exact hP | exact cut_at hP rfl (Nat.le_of_ble_eq_true rfl) rfl) rfl rfl) rfl ?_
    refine rl_y (y_eql rfl rfl rfl) rfl ?_
    refine rl_y (y_move rfl rfl) rfl ?_
    rcases Bool.eq_false_or_eq_true (decide (k = 15)) with hg1_5 | hg1_5
    ·
      simp only [hg1_5]
      refine rl_on rfl rfl ?_
      refine rl_y (y_move rfl rfl) rfl ?_
      refine rl_on rfl rfl ?_
      refine rl_y (y_not rfl rfl) rfl ?_
      refine rl_y (y_pick_t rfl rfl rfl) rfl ?_
      exact cutB_end rfl ⟨rfl, rfl, trivial⟩ (by generalize (defOf (blksE pre) inf).isSome = q at *; cases q <;> simp_all)
    ·
      simp only [hg1_5]
      refine rl_off rfl rfl rfl rfl ?_
      refine rl_off rfl rfl rfl rfl ?_
      refine rl_y (y_pick_f rfl rfl rfl) rfl ?_
      exact cutB_end rfl ⟨rfl, rfl, trivial⟩ (by generalize (defOf (blksE pre) inf).isSome = q at *; cases q <;> simp_all)
  refine q_then ?_
  refine wc_cond rfl (fun hb1 => ?_) (fun hb1 => ?_)
  ·
    have h1 := of_decide_eq_true hb1
    refine wc_draw Tryd.mixed rfl [] trivial ?_
    refine ra_y (i := 0) rfl (by kernel_rfl) (by kernel_rfl) (by kernel_rfl) (np_finO) (y_load_v rfl Tryd.k63 rfl (by assumption) (vs := [_]) (by first | rfl | exact hP | exact cut_at hP rfl (Nat.le_of_ble_eq_true rfl) rfl) rfl rfl) rfl ?_
    refine ra_pinSM 23 1000 bm rfl rfl ?_
    refine ra_y (i := 1) rfl (by kernel_rfl) (by kernel_rfl) (by kernel_rfl) (np_finO) (y_move rfl rfl) rfl ?_
    refine ra_y (i := 2) rfl (by kernel_rfl) (by kernel_rfl) (by kernel_rfl) (np_finO) (y_nilCheck_v rfl rfl) rfl ?_
    refine ra_y (i := 3) rfl (by kernel_rfl) (by kernel_rfl) (by kernel_rfl) (np_finO) (y_field_v rfl Tryd.f42' rfl (by decide) rfl) rfl ?_
    refine ra_y (i := 4) rfl (by kernel_rfl) (by kernel_rfl) (by kernel_rfl) (np_finO) (y_load_v rfl Tryd.k9 rfl (by assumption) (vs := [_]) (by first | rfl | exact hP | exact cut_at hP rfl (Nat.le_of_ble_eq_true rfl) rfl) rfl rfl) rfl ?_
    refine ra_y (i := 5) rfl (by kernel_rfl) (by kernel_rfl) (by kernel_rfl) (np_finO) (y_move rfl rfl) rfl ?_
    refine ra_y (i := 6) rfl (by kernel_rfl) (by kernel_rfl) (by kernel_rfl) (np_finO) (y_nilCheck_v rfl rfl) rfl ?_
    refine ra_y (i := 7) rfl (by kernel_rfl) (by kernel_rfl) (by kernel_rfl) (np_finO) (y_load_v rfl Tryd.k42 rfl (by assumption) (vs := [_, _, _, _, _, _, _, _, _, _, _]) (by first | rfl | exact hP | exact cut_at hP rfl (Nat.le_of_ble_eq_true rfl) rfl) rfl rfl) rfl ?_
    refine ra_do (i := 8) rfl rfl (by kernel_rfl) ?_
    refine do_mapUpdate trivial rfl Tryd.m63 Tryd.str9 rfl rfl rfl rfl rfl (by assumption) ?_
    refine ra_end (by kernel_rfl) (ρ' := []) trivial ?_
    refine finO0n [1000]  rfl rfl ?_
    refine ⟨rfl, _, rfl, _, rfl, ?_⟩
    rw [hbe]
    refine ⟨SKeys.mset hk, fun s => ?_⟩
    rw [hsn s, mget_mset _ _ _ _ hk]
    have hnone : defOf (blksE pre) inf = none := by simpa using h1.2
    by_cases e : s = inf
    · subst e
      rw [if_pos rfl, hnone, Option.none_or, if_pos (show kindB (.mk k lv s t d ti a line kids) = 15 ∧ infB (.mk k lv s t d ti a line kids) = s from ⟨h1.1, rfl⟩)]
      exact ⟨_, rfl, hc0⟩
    · rw [if_neg e, if_neg (fun h => e h.2.symm), Option.or_none]
      exact hs.2 s
  ·
    have h1 := of_decide_eq_false hb1
    refine wc_skip ?_
    refine finO0n [1000]  rfl rfl ?_
    refine ⟨rfl, _, rfl, _, rfl, ?_⟩
    rw [hbe]
    refine ⟨hk, fun s => ?_⟩
    rw [hsn s]
    by_cases e : kindB (.mk k lv inf t d ti a line kids) = 15 ∧ infB (.mk k lv inf t d ti a line kids) = s
    · obtain ⟨e1, e2⟩ := e
      have e2 : inf = s := e2
      subst e2
      have e1 : k = 15 := e1
      cases hd : defOf (blksE pre) inf with
      | none => rw [hd] at h1; exact absurd ⟨e1, rfl⟩ h1
      | some b => rw [Option.some_or, ← hd]; exact hs.2 inf
    · rw [if_neg e, Option.or_none]
      exact hs.2 s
def okY (Dn : Bs → Option Blk) : YI := fun _ pre o => o = .box [.bool (pre.all (okX Dn))]
set_option maxHeartbeats 1000000 in
theorem lnkRep_fn (bx bm b0 : Nat) (kvs : List (Value × Value)) (L : List Blk) (u : View) (T : TypeId) (fr : Nat × Nat) (hbx : u bx = some (.cells [.map (some bm)].toArray T fr)) (hm : MapV u bm kvs) (hs : DefM u kvs L) (pre : List Inl) (o : OO) (u' : View) (x : Inl) (cs : List Value) (hle : VLe u u') (hY : okY (defOf L) u' pre o) (hx : InlC u' x cs) :
    FnO Tryd.prog 34 [.agg cs.toArray, .pointer (some ⟨bx, 0, none⟩), .pointer (some ⟨b0, 0, none⟩)] u' [(some b0, o)] fun r u'' l' => (∃ cs', r = .agg cs'.toArray ∧ InlC u'' (repL (defOf L) x) cs') ∧ ∃ o', l' = [(some b0, o')] ∧ okY (defOf L) u'' (pre ++ [x]) o' := by
  obtain ⟨k, t, d, ti, a, args, cites, kids⟩ := x
  have oneAll := hx.one
  have hx0 := hx
  obtain ⟨vc, vp, va, vt, vk, rfl, q1, q2, q3, q4, q5, hok⟩ := hx.cells
  have hbx := hle _ _ hbx
  have hm := hm.mono hle
  have hs := hs.mono hle
  have hk := hs.1
  obtain ⟨k0, lv0, inf0, t0, d0, ti0, id0, vc0, vp0, vl0, vk0, hval, hsome, hd0, hti0, hdl, htil, oneAll2⟩ := hs.val t
  have hrp : repL (defOf L) (.mk k t d ti a args cites kids) = if (k = 9 ∨ k = 10) ∧ t ≠ [] then .mk k [] d0 ti0 a args cites kids else .mk k t d ti a args cites kids := by rw [hd0, hti0]; rfl
  have hox : okX (defOf L) (.mk k t d ti a args cites kids) = if (k = 9 ∨ k = 10) ∧ t ≠ [] then (defOf L t).isSome else true := by
    simp only [okX, labI]
    by_cases h : (k = 9 ∨ k = 10) ∧ t ≠ []
    · simp only [if_pos h]
    · simp only [if_neg h]
  have hsn : (pre ++ [Inl.mk k t d ti a args cites kids]).all (okX (defOf L)) = (pre.all (okX (defOf L)) && okX (defOf L) (.mk k t d ti a args cites kids)) := by simp
  subst hY
  refine FnO.intro [.cell 4 46] Tryd.func34 rfl rfl rfl ?_
  intro w0 D hw0
  refine wc_pin 2 1000 _ 0 rfl rfl ?_
  refine wc_seq ?_
  refine wc_region ?_
  refine rl_do rfl rfl ?_
  refine do_box trivial rfl (cs := [_, _, _, _, _, _, _, _, _, _]) rfl rfl rfl rfl ?_
  refine rl_do rfl rfl ?_
  refine do_alloc trivial Tryd.z46 rfl rfl rfl ?_
  refine rl_end (ρ' := [(1, _), (2, _), (3, _), (4, _)]) ⟨rfl, rfl, rfl, rfl, trivial⟩ ?_
  refine q_then ?_
  refine wc_seq ?_
  refine wc_seq ?_
  refine wc_cutB 19 (decide (¬ ((k = 9 ∨ k = 10) ∧ t ≠ []))) (ρk := [(1, _), (2, _), (3, _), (4, _)]) ⟨rfl, rfl, rfl, rfl, trivial⟩ ?_ ?_
  ·
    refine wc_region ?_
    refine rl_y (y_field_p rfl Tryd.f46' rfl (by decide) rfl) rfl ?_
    refine rl_y (y_load_p rfl Tryd.k3 rfl rfl rfl (vs := [_]) rfl rfl rfl) rfl ?_
    refine rl_y (y_neq rfl rfl rfl) rfl ?_
    refine rl_y (y_move rfl rfl) rfl ?_
    rcases Bool.eq_false_or_eq_true (decide (k ≠ 9)) with hg1_3 | hg1_3
    ·
      simp only [hg1_3]
      refine rl_on rfl rfl ?_
      refine rl_y (y_field_p rfl Tryd.f46' rfl (by decide) rfl) rfl ?_
      refine rl_on rfl rfl ?_
      refine rl_y (y_load_p rfl Tryd.k3 rfl rfl rfl (vs := [_]) rfl rfl rfl) rfl ?_
      refine rl_on rfl rfl ?_
      refine rl_y (y_neq rfl rfl rfl) rfl ?_
      refine rl_y (y_pick_t rfl rfl rfl) rfl ?_
      refine rl_y (y_move rfl rfl) rfl ?_
      rcases Bool.eq_false_or_eq_true (decide (k ≠ 10)) with hg1_8 | hg1_8
      ·
        simp only [hg1_8]
        refine rl_off rfl rfl rfl rfl ?_
        refine rl_off rfl rfl rfl rfl ?_
        refine rl_off rfl rfl rfl rfl ?_
        refine rl_y (y_pick_t rfl rfl rfl) rfl ?_
        exact cutB_end rfl ⟨rfl, rfl, rfl, rfl, trivial⟩ (by first | (simp_all; done) | (by_cases h9 : k = 9 <;> by_cases h10 : k = 10 <;> simp_all))
      ·
        simp only [hg1_8]
        refine rl_on rfl rfl ?_
        refine rl_y (y_field_p rfl Tryd.f46' rfl (by decide) rfl) rfl ?_
        refine rl_on rfl rfl ?_
        refine rl_y (y_load_p rfl Tryd.k9 rfl rfl rfl (vs := [_]) rfl rfl rfl) rfl ?_
        refine rl_on rfl rfl ?_
        refine rl_y (y_str_eql rfl rfl rfl) rfl ?_
        refine rl_y (y_pick_f rfl rfl rfl) rfl ?_
        exact cutB_end rfl ⟨rfl, rfl, rfl, rfl, trivial⟩ (by first | (simp_all; done) | (by_cases h9 : k = 9 <;> by_cases h10 : k = 10 <;> simp_all))
    ·
      simp only [hg1_3]
      refine rl_off rfl rfl rfl rfl ?_
      refine rl_off rfl rfl rfl rfl ?_
      refine rl_off rfl rfl rfl rfl ?_
      refine rl_y (y_pick_f rfl rfl rfl) rfl ?_
      refine rl_y (y_move rfl rfl) rfl ?_
      refine rl_on rfl rfl ?_
      refine rl_y (y_field_p rfl Tryd.f46' rfl (by decide) rfl) rfl ?_
      refine rl_on rfl rfl ?_
      refine rl_y (y_load_p rfl Tryd.k9 rfl rfl rfl (vs := [_]) rfl rfl rfl) rfl ?_
      refine rl_on rfl rfl ?_
      refine rl_y (y_str_eql rfl rfl rfl) rfl ?_
      refine rl_y (y_pick_f rfl rfl rfl) rfl ?_
      exact cutB_end rfl ⟨rfl, rfl, rfl, rfl, trivial⟩ (by first | (simp_all; done) | (by_cases h9 : k = 9 <;> by_cases h10 : k = 10 <;> simp_all))
  refine q_then ?_
  refine wc_cond rfl (fun hb1 => ?_) (fun hb1 => ?_)
  ·
    have h1 := of_decide_eq_true hb1; rw [if_neg h1] at hrp hox
    refine wc_seq ?_
    refine wc_region ?_
    refine rl_y (y_load_p rfl Tryd.k46 rfl rfl rfl (vs := [_, _, _, _, _, _, _, _, _, _]) rfl rfl rfl) rfl ?_
    refine rl_do rfl rfl ?_
    refine do_store_p trivial rfl Tryd.k46 rfl rfl rfl (vs := [_, _, _, _, _, _, _, _, _, _]) rfl rfl (by first | rfl | exact oneAll | exact oneAll2 | simp [Value.oneCell', str]) (Nat.le_of_ble_eq_true rfl) rfl ?_
    refine rl_end (ρ' := [(4, _)]) ⟨rfl, trivial⟩ ?_
    refine q_then ?_
    refine wc_ret ?_
    refine q_then_ret ?_
    refine finO1 [1000] (.cell rfl rfl Tryd.k46 (cs := _) (vs := [_, _, _, _, _, _, _, _, _, _]) rfl rfl rfl) rfl rfl ?_
    refine ⟨⟨_, rfl, by rw [hrp]; exact hx0⟩, _, rfl, ?_⟩
    unfold okY
    rw [hsn, hox, Bool.and_true]
  ·
    have h1 := Decidable.of_not_not (of_decide_eq_false hb1); rw [if_pos h1] at hrp hox
    refine wc_skip ?_
    refine q_then ?_
    refine wc_seq ?_
    refine wc_region ?_
    refine rl_y (y_load_v rfl Tryd.k63 rfl (by assumption) (vs := [_]) (by first | rfl | exact hP | exact cut_at hP rfl (Nat.le_of_ble_eq_true rfl) rfl) rfl rfl) rfl ?_
    refine rl_y (y_field_p rfl Tryd.f46' rfl (by decide) rfl) rfl ?_
    refine rl_y (y_load_p rfl Tryd.k9 rfl rfl rfl (vs := [_]) rfl rfl rfl) rfl ?_
    refine rl_y (y_lookup2_v rfl Tryd.m63 Tryd.str9 Tryd.v42 rfl hm rfl rfl hk) rfl ?_
    rw [hval, hsome]
    refine rl_y (y_move rfl rfl) rfl ?_
    refine rl_y (y_extract rfl rfl rfl) rfl ?_
    refine rl_y (y_extract rfl rfl rfl) rfl ?_
    refine rl_do rfl rfl ?_
    refine do_alloc trivial Tryd.z42 rfl rfl rfl ?_
    refine rl_do rfl rfl ?_
    refine do_store_p trivial rfl Tryd.k42 rfl rfl rfl (vs := [_, _, _, _, _, _, _, _, _, _, _]) rfl rfl (by first | rfl | exact oneAll | exact oneAll2 | simp [Value.oneCell', str]) (Nat.le_of_ble_eq_true rfl) rfl ?_
    refine rl_y (y_assign rfl rfl) rfl ?_
    refine rl_end (ρ' := [(2, _), (3, _), (4, _), (5, _), (6, _)]) ⟨rfl, rfl, rfl, rfl, rfl, trivial⟩ ?_
    refine q_then ?_
    refine wc_seq ?_
    refine wc_seq ?_
    refine wc_region ?_
    refine rl_y (y_move rfl rfl) rfl ?_
    refine rl_y (y_not rfl rfl) rfl ?_
    refine rl_end (ρ' := [(2, _), (3, _), (4, _), (5, _), (29, _)]) ⟨rfl, rfl, rfl, rfl, rfl, trivial⟩ ?_
    refine q_then ?_
    refine wc_cond rfl (fun hb4 => ?_) (fun hb4 => ?_)
    ·
      have h4 : (defOf L t).isSome = false := (by simpa using hb4)
      refine wc_region ?_
      refine rl_do rfl rfl ?_
      refine do_store_p trivial rfl Tryd.k4 rfl rfl rfl (vs := [_]) rfl rfl (by first | rfl | exact oneAll | exact oneAll2 | simp [Value.oneCell', str]) (Nat.le_of_ble_eq_true rfl) rfl ?_
      refine rl_end (ρ' := [(3, _), (4, _), (5, _)]) ⟨rfl, rfl, rfl, trivial⟩ ?_
      refine q_then ?_
      refine wc_seq ?_
      refine wc_draw Tryd.mixed rfl [(5, _)] ⟨rfl, trivial⟩ ?_
      refine ra_y (i := 0) rfl (by kernel_rfl) (by kernel_rfl) (by kernel_rfl) (np_then (np_finO)) (y_field_p rfl Tryd.f42' rfl (by decide) rfl) rfl ?_
      refine ra_y (i := 1) rfl (by kernel_rfl) (by kernel_rfl) (by kernel_rfl) (np_then (np_finO)) (y_load_p rfl Tryd.k9 rfl rfl rfl (vs := [_]) rfl rfl rfl) rfl ?_
      refine ra_y (i := 2) rfl (by kernel_rfl) (by kernel_rfl) (by kernel_rfl) (np_then (np_finO)) (y_field_p rfl Tryd.f42' rfl (by decide) rfl) rfl ?_
      refine ra_y (i := 3) rfl (by kernel_rfl) (by kernel_rfl) (by kernel_rfl) (np_then (np_finO)) (y_load_p rfl Tryd.k9 rfl rfl rfl (vs := [_]) rfl rfl rfl) rfl ?_
      refine ra_y (i := 4) rfl (by kernel_rfl) (by kernel_rfl) (by kernel_rfl) (np_then (np_finO)) (y_field_p rfl Tryd.f46' rfl (by decide) rfl) rfl ?_
      refine ra_do (i := 5) rfl rfl (by kernel_rfl) ?_
      refine do_store_p ⟨rfl, trivial⟩ rfl Tryd.k9 rfl rfl rfl (vs := [_]) rfl rfl (by first | rfl | exact oneAll | exact oneAll2 | simp [Value.oneCell', str]) (Nat.le_of_ble_eq_true rfl) rfl ?_
      refine ra_y (i := 6) rfl (by kernel_rfl) (by kernel_rfl) (by kernel_rfl) (np_then (np_finO)) (y_field_p rfl Tryd.f46' rfl (by decide) rfl) rfl ?_
      refine ra_do (i := 7) rfl rfl (by kernel_rfl) ?_
      refine do_store_p ⟨rfl, trivial⟩ rfl Tryd.k9 rfl rfl rfl (vs := [_]) rfl rfl (by first | rfl | exact oneAll | exact oneAll2 | simp [Value.oneCell', str]) (Nat.le_of_ble_eq_true rfl) rfl ?_
      refine ra_y (i := 8) rfl (by kernel_rfl) (by kernel_rfl) (by kernel_rfl) (np_then (np_finO)) (y_field_p rfl Tryd.f46' rfl (by decide) rfl) rfl ?_
      refine ra_do (i := 9) rfl rfl (by kernel_rfl) ?_
      refine do_store_p ⟨rfl, trivial⟩ rfl Tryd.k9 rfl rfl rfl (vs := [_]) rfl rfl (by first | rfl | exact oneAll | exact oneAll2 | simp [Value.oneCell', str]) (Nat.le_of_ble_eq_true rfl) rfl ?_
      refine ra_end (by kernel_rfl) (ρ' := [(3, _), (4, _)]) ⟨rfl, rfl, trivial⟩ ?_
      refine q_then ?_
      refine wc_seq ?_
      refine wc_region ?_
      refine rl_y (y_load_p rfl Tryd.k46 rfl rfl rfl (vs := [_, _, _, _, _, _, _, _, _, _]) rfl rfl rfl) rfl ?_
      refine rl_do rfl rfl ?_
      refine do_store_p trivial rfl Tryd.k46 rfl rfl rfl (vs := [_, _, _, _, _, _, _, _, _, _]) rfl rfl (by first | rfl | exact oneAll | exact oneAll2 | simp [Value.oneCell', str]) (Nat.le_of_ble_eq_true rfl) rfl ?_
      refine rl_end (ρ' := [(4, _)]) ⟨rfl, trivial⟩ ?_
      refine q_then ?_
      refine wc_ret ?_
      refine finO1 [1000] (.cell rfl rfl Tryd.k46 (cs := _) (vs := [_, _, _, _, _, _, _, _, _, _]) rfl rfl rfl) rfl rfl ?_
      refine ⟨⟨_, rfl, by rw [hrp]; exact InlC.mk' q1 q2 q3 q4 q5 (by obtain ⟨o1, o2, o3, o4, o5, o6, o7, o8⟩ := hok; exact ⟨o1, by simp, hdl, htil, o5, o6, o7, o8⟩)⟩, _, rfl, ?_⟩
      unfold okY
      rw [hsn, hox, h4, Bool.and_false]
      rfl
    ·
      have h4 : (defOf L t).isSome = true := (by simpa using hb4)
      refine wc_skip ?_
      refine q_then ?_
      refine wc_seq ?_
      refine wc_draw Tryd.mixed rfl [(5, _)] ⟨rfl, trivial⟩ ?_
      refine ra_y (i := 0) rfl (by kernel_rfl) (by kernel_rfl) (by kernel_rfl) (np_then (np_finO)) (y_field_p rfl Tryd.f42' rfl (by decide) rfl) rfl ?_
      refine ra_y (i := 1) rfl (by kernel_rfl) (by kernel_rfl) (by kernel_rfl) (np_then (np_finO)) (y_load_p rfl Tryd.k9 rfl rfl rfl (vs := [_]) rfl rfl rfl) rfl ?_
      refine ra_y (i := 2) rfl (by kernel_rfl) (by kernel_rfl) (by kernel_rfl) (np_then (np_finO)) (y_field_p rfl Tryd.f42' rfl (by decide) rfl) rfl ?_
      refine ra_y (i := 3) rfl (by kernel_rfl) (by kernel_rfl) (by kernel_rfl) (np_then (np_finO)) (y_load_p rfl Tryd.k9 rfl rfl rfl (vs := [_]) rfl rfl rfl) rfl ?_
      refine ra_y (i := 4) rfl (by kernel_rfl) (by kernel_rfl) (by kernel_rfl) (np_then (np_finO)) (y_field_p rfl Tryd.f46' rfl (by decide) rfl) rfl ?_
      refine ra_do (i := 5) rfl rfl (by kernel_rfl) ?_
      refine do_store_p ⟨rfl, trivial⟩ rfl Tryd.k9 rfl rfl rfl (vs := [_]) rfl rfl (by first | rfl | exact oneAll | exact oneAll2 | simp [Value.oneCell', str]) (Nat.le_of_ble_eq_true rfl) rfl ?_
      refine ra_y (i := 6) rfl (by kernel_rfl) (by kernel_rfl) (by kernel_rfl) (np_then (np_finO)) (y_field_p rfl Tryd.f46' rfl (by decide) rfl) rfl ?_
      refine ra_do (i := 7) rfl rfl (by kernel_rfl) ?_
      refine do_store_p ⟨rfl, trivial⟩ rfl Tryd.k9 rfl rfl rfl (vs := [_]) rfl rfl (by first | rfl | exact oneAll | exact oneAll2 | simp [Value.oneCell', str]) (Nat.le_of_ble_eq_true rfl) rfl ?_
      refine ra_y (i := 8) rfl (by kernel_rfl) (by kernel_rfl) (by kernel_rfl) (np_then (np_finO)) (y_field_p rfl Tryd.f46' rfl (by decide) rfl) rfl ?_
      refine ra_do (i := 9) rfl rfl (by kernel_rfl) ?_
      refine do_store_p ⟨rfl, trivial⟩ rfl Tryd.k9 rfl rfl rfl (vs := [_]) rfl rfl (by first | rfl | exact oneAll | exact oneAll2 | simp [Value.oneCell', str]) (Nat.le_of_ble_eq_true rfl) rfl ?_
      refine ra_end (by kernel_rfl) (ρ' := [(3, _), (4, _)]) ⟨rfl, rfl, trivial⟩ ?_
      refine q_then ?_
      refine wc_seq ?_
      refine wc_region ?_
      refine rl_y (y_load_p rfl Tryd.k46 rfl rfl rfl (vs := [_, _, _, _, _, _, _, _, _, _]) rfl rfl rfl) rfl ?_
      refine rl_do rfl rfl ?_
      refine do_store_p trivial rfl Tryd.k46 rfl rfl rfl (vs := [_, _, _, _, _, _, _, _, _, _]) rfl rfl (by first | rfl | exact oneAll | exact oneAll2 | simp [Value.oneCell', str]) (Nat.le_of_ble_eq_true rfl) rfl ?_
      refine rl_end (ρ' := [(4, _)]) ⟨rfl, trivial⟩ ?_
      refine q_then ?_
      refine wc_ret ?_
      refine finO1 [1000] (.cell rfl rfl Tryd.k46 (cs := _) (vs := [_, _, _, _, _, _, _, _, _, _]) rfl rfl rfl) rfl rfl ?_
      refine ⟨⟨_, rfl, by rw [hrp]; exact InlC.mk' q1 q2 q3 q4 q5 (by obtain ⟨o1, o2, o3, o4, o5, o6, o7, o8⟩ := hok; exact ⟨o1, by simp, hdl, htil, o5, o6, o7, o8⟩)⟩, _, rfl, ?_⟩
      unfold okY
      rw [hsn, hox, h4, Bool.and_true]
theorem lnkKeep_fn : CbK notDef 35 [] := by
 refine ⟨Tryd.c35, fun u x cs hx => ?_⟩
 obtain ⟨k, lv, inf, t, d, ti, a, line, kids⟩ := x
 have oneAll := hx.one
 obtain ⟨vc, vp, vl, vk, rfl, _⟩ := hx.cells
 refine FnP.intro [.tmp 2] Tryd.func35 rfl rfl rfl ?_
 intro w0 D hw0
 refine wc_seq ?_
 refine wc_region ?_
 refine rl_do rfl rfl ?_
 refine do_box trivial rfl (cs := [_, _, _, _, _, _, _, _, _, _, _]) rfl rfl rfl rfl ?_
 refine rl_y (y_assign rfl rfl) rfl ?_
 refine rl_end (ρ' := [(1, _)]) ⟨rfl, trivial⟩ ?_
 refine q_then ?_
 refine wc_seq ?_
 refine wc_region ?_
 refine rl_y (y_field_p rfl Tryd.f42' rfl (by decide) rfl) rfl ?_
 refine rl_y (y_load_p rfl Tryd.k3 rfl rfl rfl (vs := [_]) rfl rfl rfl) rfl ?_
 refine rl_y (y_neq rfl rfl rfl) rfl ?_
 refine rl_y (y_assign rfl rfl) rfl ?_
 refine rl_end (ρ' := [(2, _)]) ⟨rfl, trivial⟩ ?_
 refine q_then ?_
 refine wc_ret ?_
 refine fin1 (.tmp rfl) ?_
 rfl
end Go.Proofs.Ythkgcakpjknlbaa
namespace Go.Proofs.Ythkgcakpjknlbaa
open Go Go.Eng
set_option linter.unusedSimpArgs false
set_option linter.unusedVariables false
set_option maxRecDepth 4000
/-- what Links yields -/
def LinksR (u : View) (mts : List (Bs × Bs)) (bs : List Blk) (r : Value) : Prop :=
 (lnkOk bs = true ∧ ∃ vm vb, r = .tuple #[.agg #[vm, vb], .int .i64 0] ∧ PrS u vm mts ∧ BlkS u vb (lnkDoc bs)) ∨
 (lnkOk bs = false ∧ r = .tuple #[.agg #[.slice none 0 0, .slice none 0 0], .int .i64 12])
set_option maxHeartbeats 1000000 in
theorem labLinks_fn (vm vb : Value) (mts : List (Bs × Bs)) (bs : List Blk) (u : View) (hbig : szB bs ≤ 100000) (hsm : smB bs) (hml : mts.length ≤ 1000000) (hm : PrS u vm mts) (ha : BlkS u vb bs) :
  FnP Tryd.prog 17 [.agg #[vm, vb]] u fun r u' => LinksR u' mts bs r := by
 refine FnP.intro [.cell 2 25, .tmp 3] Tryd.func17 rfl rfl rfl ?_
 intro w0 D hw0
 refine wc_seq ?_
 refine wc_region ?_
 refine rl_do rfl rfl ?_
 refine do_box trivial rfl (cs := [_, _]) rfl rfl rfl rfl ?_
 refine rl_do rfl rfl ?_
 refine do_alloc trivial Tryd.z25 rfl rfl rfl ?_
 refine rl_y (y_assign rfl rfl) rfl ?_
 refine rl_end (ρ' := [(1, _), (2, _)]) ⟨rfl, rfl, trivial⟩ ?_
 refine q_then ?_
 refine wc_seq ?_
 refine wc_region ?_
 refine rl_do rfl rfl ?_
 refine do_makeMap trivial rfl rfl rfl ?_
 refine rl_do rfl rfl ?_
 refine do_alloc trivial Tryd.z63 rfl rfl rfl ?_
 refine rl_name 9 rfl ⟨9, 0, .inr rfl⟩ ?_
 intro b9
 refine rl_do rfl rfl ?_
 refine do_store_p trivial rfl Tryd.k63 rfl rfl rfl (vs := [_]) rfl rfl (by first | rfl | exact oneAll | exact oneAll2 | simp [Value.oneCell', str]) (Nat.le_of_ble_eq_true rfl) rfl ?_
 refine rl_reveal 4 rfl ?_
 intro b4 T4 u4 hle4z hu4 hpn4
 refine rl_end (ρ' := [(1, _), (2, _), (4, _)]) ⟨rfl, rfl, rfl, trivial⟩ ?_
 refine q_then ?_
 refine wc_seq ?_
 refine wc_region ?_
 refine rl_y (y_makeFunc rfl rfl rfl) rfl ?_
 refine rl_y (y_build rfl Tryd.f58' Tryd.z58 (ps := [(_, _)]) rfl (vs := [_, _]) rfl) rfl ?_
 refine rl_y (y_field_p rfl Tryd.f25' rfl (by decide) rfl) rfl ?_
 refine rl_y (y_load_p rfl Tryd.k23 rfl rfl rfl (vs := [_]) rfl rfl rfl) rfl ?_
 refine rl_do rfl rfl ?_
 refine do_call_o (caps := []) (ρ' := [(1, _), (2, _), (4, _)]) [9] [] trivial rfl rfl rfl Tryd.c28 rfl rfl ⟨rfl, rfl, rfl, trivial⟩ rfl rfl rfl (FnO.mono (vBlk_fn _ _ b9 defsY (fun _ _ _ _ hle ⟨kvs, h1, h2⟩ ↦ ⟨kvs, h1, h2.mono hle⟩) (szB bs) _ bs [] _ u4 (Nat.le_refl _) (by simp; omega) (ha.mono hle4z) (.inr ⟨33, [.pointer (some ⟨b4, 0, none⟩)], rfl, Tryd.c33, fun pre o u' p x hle hl hY hp ↦ lnkDefs_fn b4 b9 u4 _ _ hu4 pre o u' p x hle hl hY hp⟩) (.inl ⟨rfl, fun u' pre o x ⟨kvs, h1, h2⟩ ↦ ⟨kvs, h1, by simpa [blksE] using h2⟩⟩) ⟨[], rfl, rfl, fun s ↦ rfl⟩) ?_)
 rintro v uV l1 hleV ⟨rfl, oV, rfl, ⟨kd, rfl, hkd⟩⟩ -
 refine ⟨⟨fun _ h => h, trivial⟩, ?_⟩
 refine rl_end (ρ' := [(1, _), (2, _), (4, _)]) ⟨rfl, rfl, rfl, trivial⟩ ?_
 refine q_then ?_
 refine wc_seq ?_
 refine wc_region ?_
 refine rl_do rfl rfl ?_
 refine do_alloc trivial Tryd.z4 rfl rfl rfl ?_
 refine rl_freezeM 9 rfl ?_
 intro b9 u9 hle9z hm9 hpn9
 obtain rfl := hpn9 _ rfl
 have hu4 := hle9z _ _ (hleV _ _ hu4)
 have hD : DefM u9 kd (listB bs) := by
  have h := hkd.mono hle9z
  rwa [List.nil_append, blksE_all] at h
 have ha9 := ((ha.mono hle4z).mono hleV).mono hle9z
 have hm' := ((hm.mono hle4z).mono hleV).mono hle9z
 refine rl_do rfl rfl ?_
 refine do_store_p trivial rfl Tryd.k4 rfl rfl rfl (vs := [_]) rfl rfl (by first | rfl | exact oneAll | exact oneAll2 | simp [Value.oneCell', str]) (Nat.le_of_ble_eq_true rfl) rfl ?_
 refine rl_end (ρ' := [(1, _), (2, _), (4, _), (5, _)]) ⟨rfl, rfl, rfl, rfl, trivial⟩ ?_
 refine q_then ?_
 refine wc_seq ?_
 refine wc_region ?_
 refine rl_name 5 rfl ⟨5, _, .inl rfl⟩ ?_
 intro b5
 refine rl_y (y_makeFunc rfl rfl rfl) rfl ?_
 refine rl_y (y_assign rfl rfl) rfl ?_
 refine rl_end (ρ' := [(1, _), (2, _), (5, _), (6, _)]) ⟨rfl, rfl, rfl, rfl, trivial⟩ ?_
 refine q_then ?_
 refine wc_seq ?_
 refine wc_region ?_
 refine rl_y (y_assign rfl rfl) rfl ?_
 refine rl_end (ρ' := [(1, _), (2, _), (5, _), (6, _), (7, _)]) ⟨rfl, rfl, rfl, rfl, rfl, trivial⟩ ?_
 refine q_then ?_
 refine wc_seq ?_
 refine wc_region ?_
 refine rl_y (y_field_p rfl Tryd.f25' rfl (by decide) rfl) rfl ?_
 refine rl_y (y_load_p rfl Tryd.k23 rfl rfl rfl (vs := [_]) rfl rfl rfl) rfl ?_
 refine rl_y (y_move rfl rfl) rfl ?_
 refine rl_y (y_move rfl rfl) rfl ?_
 refine rl_do rfl rfl ?_
 refine do_call_o (caps := []) (ρ' := [(1, _), (2, _), (5, _)]) [5] [] trivial rfl rfl rfl Tryd.c36 rfl rfl ⟨rfl, rfl, rfl, trivial⟩ rfl rfl rfl (FnO.mono (rebuild_fn (repLI (defOf (listB bs))) notDef 35 [] lnkKeep_fn 34 [.pointer (some ⟨b4, 0, none⟩), .pointer (some ⟨b5, 0, none⟩)] b5 (okY (defOf (listB bs))) (fun _ _ _ _ _ h ↦ h) Tryd.c34 (szB bs) vb bs [] _ u9 (Nat.le_refl _) hbig (gdB_of _ _ bs hsm hbig (fun xs h1 h2 ↦ ⟨h1, h2⟩)) ha9 ⟨34, [.pointer (some ⟨b4, 0, none⟩), .pointer (some ⟨b5, 0, none⟩)], rfl, Tryd.c34, fun pre o u' x cs hle hY _ hx ↦ lnkRep_fn b4 b9 b5 kd (listB bs) u9 _ _ hu4 hm9 hD pre o u' x cs hle hY hx⟩ rfl) ?_)
 rintro v uB l1 hleB ⟨hbl, oB, rfl, hoB⟩ -
 refine ⟨⟨fun _ h => h, trivial⟩, ?_⟩
 have hoB : oB = .box [.bool (lnkOk bs)] := hoB
 subst hoB
 have hbl : BlkS uB _ (lnkDoc bs) := hbl
 have hbl2 := hbl
 obtain ⟨bcs, ⟨bad, bcap, rfl, hb1⟩, hb2⟩ := hbl2
 refine rl_y (y_assign rfl rfl) rfl ?_
 refine rl_end (ρ' := [(1, _), (2, _), (5, _), (8, _)]) ⟨rfl, rfl, rfl, rfl, trivial⟩ ?_
 refine q_then ?_
 refine wc_seq ?_
 refine wc_seq ?_
 refine wc_region ?_
 refine rl_y (y_load_p rfl Tryd.k4 rfl rfl rfl (vs := [_]) rfl rfl rfl) rfl ?_
 refine rl_y (y_not rfl rfl) rfl ?_
 refine rl_end (ρ' := [(1, _), (2, _), (8, _), (22, _)]) ⟨rfl, rfl, rfl, rfl, trivial⟩ ?_
 refine q_then ?_
 refine wc_cond rfl (fun hb7 => ?_) (fun hb7 => ?_)
 ·
  have h7 : lnkOk bs = false := (by simpa using hb7)
  refine wc_seq ?_
  refine wc_region ?_
  refine rl_y (y_build rfl Tryd.f25' Tryd.z25 (ps := []) rfl (vs := [_, _]) rfl) rfl ?_
  refine rl_do rfl rfl ?_
  refine do_store_p trivial rfl Tryd.k25 rfl rfl rfl (vs := [_, _]) rfl rfl (by first | rfl | exact oneAll | exact oneAll2 | simp [Value.oneCell', str]) (Nat.le_of_ble_eq_true rfl) rfl ?_
  refine rl_y (y_assign rfl rfl) rfl ?_
  refine rl_end (ρ' := [(2, _), (3, _)]) ⟨rfl, rfl, trivial⟩ ?_
  refine q_then ?_
  refine wc_ret ?_
  refine q_then_ret ?_
  refine fin2 (.cell rfl rfl Tryd.k25 (cs := _) (vs := [_, _]) rfl rfl rfl) (.tmp rfl) ?_
  exact .inr ⟨h7, rfl⟩
 ·
  have h7 : lnkOk bs = true := (by simpa using hb7)
  refine wc_skip ?_
  refine q_then ?_
  refine wc_seq ?_
  refine wc_region ?_
  refine rl_y (y_field_p rfl Tryd.f25' rfl (by decide) rfl) rfl ?_
  refine rl_y (y_load_p rfl Tryd.k22 rfl rfl rfl (vs := [_]) rfl rfl rfl) rfl ?_
  refine rl_do rfl rfl ?_
  refine do_call (caps := []) trivial rfl rfl Tryd.c37 rfl (FnP.mono (labCopyMeta_fn vm mts hml _ (hm'.mono hleB)) ?_)
  rintro v uM hle0 ⟨mad, mcap, rfl, hm1⟩ hleM
  refine rl_y (y_move rfl rfl) rfl ?_
  refine rl_y (y_build rfl Tryd.f25' Tryd.z25 (ps := [(_, _), (_, _)]) rfl (vs := [_, _]) rfl) rfl ?_
  refine rl_do rfl rfl ?_
  refine do_store_p trivial rfl Tryd.k25 rfl rfl rfl (vs := [_, _]) rfl rfl (by first | rfl | exact oneAll | exact oneAll2 | simp [Value.oneCell', str]) (Nat.le_of_ble_eq_true rfl) rfl ?_
  refine rl_y (y_assign rfl rfl) rfl ?_
  refine rl_end (ρ' := [(2, _), (3, _)]) ⟨rfl, rfl, trivial⟩ ?_
  refine q_then ?_
  refine wc_ret ?_
  refine fin2 (.cell rfl rfl Tryd.k25 (cs := _) (vs := [_, _]) rfl rfl rfl) (.tmp rfl) ?_
  exact .inl ⟨h7, _, _, rfl, ⟨mad, mcap, rfl, hm1⟩, hbl.mono hleM⟩
theorem defOf_drop {L : List Blk} {i : Nat} {x : Blk} (h : L[i]? = some x) (s : Bs) : defOf (L.drop i) s = if kindB x = 15 ∧ infB x = s then some x else defOf (L.drop (i + 1)) s := by
  obtain ⟨hlt, rfl⟩ := List.getElem?_eq_some_iff.1 h
  rw [List.drop_eq_getElem_cons hlt]
  unfold defOf
  rw [List.find?_cons]
  by_cases e : kindB L[i] = 15 ∧ infB L[i] = s
  · simp [e]
  · simp [e]
theorem definition_fn (v : Value) (L : List Blk) (s : Bs) (hl : L.length ≤ 1000000) (u : View) (ha : BlkS u v L) :
  FnP Tryd.prog 61 [v, str s] u fun r _ => ∃ k lv inf t d ti id vc vp vl vk, r = .tuple #[.agg (blkV k lv inf t d ti id vc vp vl vk).toArray, .bool (defOf L s).isSome] ∧ d = destO (defOf L s) ∧ ti = titleO (defOf L s) ∧ d.length ≤ 140737488351232 ∧ ti.length ≤ 140737488351232 ∧ (blkV k lv inf t d ti id vc vp vl vk).all Value.oneCell' = true := by
 obtain ⟨cs, ⟨ad, cap, rfl, h1⟩, hc1⟩ := ha
 refine FnP.intro [.cell 4 42, .tmp 5] Tryd.func61 rfl rfl rfl ?_
 intro w0 D hw0
 refine wc_seq ?_
 refine wc_region ?_
 refine rl_do rfl rfl ?_
 refine do_alloc trivial Tryd.z42 rfl rfl rfl ?_
 refine rl_y (y_assign rfl rfl) rfl ?_
 refine rl_end (ρ' := [(0, _), (1, _), (4, _)]) ⟨rfl, rfl, rfl, trivial⟩ ?_
 refine q_then ?_
 refine wc_seq ?_
 refine wc_seq ?_
 refine wc_region ?_
 refine rl_y (y_assign rfl rfl) rfl ?_
 refine rl_end (ρ' := [(0, _), (1, _), (4, _), (6, _)]) ⟨rfl, rfl, rfl, rfl, trivial⟩ ?_
 refine q_then ?_
 refine wc_block ?_
 refine wc_loop (fun m ρ σ u' => ∃ i : Nat, i + m = L.length ∧ VLe u u' ∧ σ = [(4, (none, .box zeroB))] ∧ ρ = [(0, .v (.slice ad L.length cap)), (1, .v (str s)), (4, .p 4 0), (6, .v (.int .i64 i))] ∧ (u = u' ∧ defOf L s = defOf (L.drop i) s)) (L.length) ?_ ?_
 ·
  refine ⟨[(0, _), (1, _), (4, _), (6, _)], [(4, _)], ⟨rfl, rfl, rfl, rfl, trivial⟩, ⟨rfl, trivial⟩, 0, by omega, VLe.refl _, (by first | rfl | simp), (by first | rfl | (simp only [List.cons.injEq, Prod.mk.injEq, SV.v.injEq, Value.int.injEq, true_and, and_true]; omega) | simp), ?_⟩
  exact ⟨rfl, rfl⟩
 ·
  rintro m ρ σ u' ⟨i, hi2, hle2, rfl, rfl, ⟨rfl, hinv⟩⟩
  refine wc_seq ?_
  refine wc_seq ?_
  refine wc_region ?_
  refine rl_y (y_move rfl rfl) rfl ?_
  refine rl_y (y_move rfl rfl) rfl ?_
  refine rl_y (y_len_v rfl rfl Tryd.s23 rfl) rfl ?_
  refine rl_y (y_lss rfl rfl rfl) rfl ?_
  refine rl_end (ρ' := [(0, _), (1, _), (4, _), (6, _), (10, _)]) ⟨rfl, rfl, rfl, rfl, rfl, trivial⟩ ?_
  refine q_then ?_
  refine wc_cond rfl (fun hb2 => ?_) (fun hb2 => ?_)
  ·
   have hlt : i < L.length := by have := of_decide_eq_true hb2; omega
   obtain ⟨k, lv, inf, t, d, ti, a, line, kids, vc, vp, vl, vk, hg, hcut1, s1, s2, s3, s4, hok⟩ := hc1.at hlt
   have oneAll := (hc1.get i _ hg).one
   rw [hcut1] at oneAll
   have hst : defOf (L.drop i) s = if k = 15 ∧ inf = s then some (.mk k lv inf t d ti a line kids) else defOf (L.drop (i + 1)) s := defOf_drop hg s
   refine wc_skip ?_
   refine q_then ?_
   refine wc_seq ?_
   refine wc_block ?_
   refine wc_seq ?_
   refine wc_cutB 27 (decide (k = 15 ∧ inf = s)) (ρk := [(0, _), (1, _), (4, _), (6, _)]) ⟨rfl, rfl, rfl, rfl, trivial⟩ ?_ ?_
   ·
    refine wc_region ?_
    refine rl_y (y_move rfl rfl) rfl ?_
    refine rl_y (y_move rfl rfl) rfl ?_
    refine rl_y (y_index_e rfl Tryd.s23 rfl rfl (by assumption) (by first | rfl | omega) (by omega)) rfl ?_
    refine rl_y (y_field_e rfl Tryd.f42' rfl (by decide) rfl) rfl ?_
    refine rl_y (y_load_el rfl Tryd.k3 rfl (by assumption) (by omega) (by assumption) (vs := [_]) rfl rfl rfl rfl) rfl ?_
    refine rl_y (y_eql rfl rfl rfl) rfl ?_
    refine rl_y (y_move rfl rfl) rfl ?_
    rcases Bool.eq_false_or_eq_true (decide (k = 15)) with hg4_6 | hg4_6
    ·
     simp only [hg4_6]
     refine rl_on rfl rfl ?_
     refine rl_y (y_move rfl rfl) rfl ?_
     refine rl_on rfl rfl ?_
     refine rl_y (y_move rfl rfl) rfl ?_
     refine rl_on rfl rfl ?_
     refine rl_y (y_index_e rfl Tryd.s23 rfl rfl (by assumption) (by first | rfl | omega) (by omega)) rfl ?_
     refine rl_on rfl rfl ?_
     refine rl_y (y_field_e rfl Tryd.f42' rfl (by decide) rfl) rfl ?_
     refine rl_on rfl rfl ?_
     refine rl_y (y_load_el rfl Tryd.k9 rfl (by assumption) (by omega) (by assumption) (vs := [_]) rfl rfl rfl rfl) rfl ?_
     refine rl_on rfl rfl ?_
     refine rl_y (y_move rfl rfl) rfl ?_
     refine rl_on rfl rfl ?_
     refine rl_y (y_str_eql rfl rfl rfl) rfl ?_
     refine rl_y (y_pick_t rfl rfl rfl) rfl ?_
     exact cutB_end rfl ⟨rfl, rfl, rfl, rfl, trivial⟩ (by simp_all)
    ·
     simp only [hg4_6]
     refine rl_off rfl rfl rfl rfl ?_
     refine rl_off rfl rfl rfl rfl ?_
     refine rl_off rfl rfl rfl rfl ?_
     refine rl_off rfl rfl rfl rfl ?_
     refine rl_off rfl rfl rfl rfl ?_
     refine rl_off rfl rfl rfl rfl ?_
     refine rl_off rfl rfl rfl rfl ?_
     refine rl_y (y_pick_f rfl rfl rfl) rfl ?_
     exact cutB_end rfl ⟨rfl, rfl, rfl, rfl, trivial⟩ (by simp_all)
   refine q_then ?_
   refine wc_cond rfl (fun hb4 => ?_) (fun hb4 => ?_)
   ·
    have h4 := of_decide_eq_true hb4; rw [if_pos h4] at hst
    refine wc_seq ?_
    refine wc_region ?_
    refine rl_y (y_move rfl rfl) rfl ?_
    refine rl_y (y_move rfl rfl) rfl ?_
    refine rl_y (y_index_e rfl Tryd.s23 rfl rfl (by assumption) (by first | rfl | omega) (by omega)) rfl ?_
    refine rl_y (y_load_el rfl Tryd.k42 rfl (by assumption) (by omega) (by assumption) (vs := [_, _, _, _, _, _, _, _, _, _, _]) rfl rfl rfl rfl) rfl ?_
    refine rl_do rfl rfl ?_
    refine do_store_p trivial rfl Tryd.k42 rfl rfl rfl (vs := [_, _, _, _, _, _, _, _, _, _, _]) rfl rfl (by first | rfl | exact oneAll | exact oneAll2 | simp [Value.oneCell', str]) (Nat.le_of_ble_eq_true rfl) rfl ?_
    refine rl_y (y_assign rfl rfl) rfl ?_
    refine rl_end (ρ' := [(4, _), (5, _)]) ⟨rfl, rfl, trivial⟩ ?_
    refine q_then ?_
    refine wc_ret ?_
    refine q_block_ret ?_
    refine q_then_ret ?_
    refine q_then_ret ?_
    refine q_block_ret ?_
    refine q_then_ret ?_
    refine fin2 (.cell rfl rfl Tryd.k42 (cs := _) (vs := [_, _, _, _, _, _, _, _, _, _, _]) rfl rfl rfl) (.tmp rfl) ?_
    rw [hinv, hst]
    obtain ⟨_, _, _, _, o5, o6, _⟩ := hok
    exact ⟨_, _, _, _, _, _, _, _, _, _, _, rfl, rfl, rfl, o5, o6, oneAll⟩
   ·
    have h4 := of_decide_eq_false hb4; rw [if_neg h4] at hst
    refine wc_skip ?_
    refine q_block ?_
    refine q_then ?_
    refine wc_region ?_
    refine rl_y (y_move rfl rfl) rfl ?_
    refine rl_y (y_add rfl rfl rfl (wrap64_id (by omega))) rfl ?_
    refine rl_y (y_assign rfl rfl) rfl ?_
    refine rl_end (ρ' := [(0, _), (1, _), (4, _), (6, _)]) ⟨rfl, rfl, rfl, rfl, trivial⟩ ?_
    refine q_thenK ?_
    refine ⟨m - 1, [(0, _), (1, _), (4, _), (6, _)], [(4, _)], by omega, ⟨rfl, rfl, rfl, rfl, trivial⟩, ⟨rfl, trivial⟩, i + 1, by omega, hle2, (by first | rfl | simp), (by first | rfl | (simp only [List.cons.injEq, Prod.mk.injEq, SV.v.injEq, Value.int.injEq, true_and, and_true]; omega) | simp), ?_⟩
    exact ⟨rfl, by rw [hinv, hst]⟩
  ·
   have hge := of_decide_eq_false hb2
   rw [List.drop_eq_nil_of_le (by omega)] at hinv
   refine wc_exit ?_
   refine q_then_exit ?_
   refine q_then_exit ?_
   refine q_block_hit ?_
   refine q_then ?_
   refine wc_seq ?_
   refine wc_region ?_
   refine rl_y (y_build rfl Tryd.f42' Tryd.z42 (ps := []) rfl (vs := [_, _, _, _, _, _, _, _, _, _, _]) rfl) rfl ?_
   refine rl_do rfl rfl ?_
   refine do_store_p trivial rfl Tryd.k42 rfl rfl rfl (vs := [_, _, _, _, _, _, _, _, _, _, _]) rfl rfl (by first | rfl | exact oneAll | exact oneAll2 | simp [Value.oneCell', str]) (Nat.le_of_ble_eq_true rfl) rfl ?_
   refine rl_y (y_assign rfl rfl) rfl ?_
   refine rl_end (ρ' := [(4, _), (5, _)]) ⟨rfl, rfl, trivial⟩ ?_
   refine q_then ?_
   refine wc_ret ?_
   refine fin2 (.cell rfl rfl Tryd.k42 (cs := _) (vs := [_, _, _, _, _, _, _, _, _, _, _]) rfl rfl rfl) (.tmp rfl) ?_
   rw [hinv]
   exact ⟨_, _, _, _, _, _, _, _, _, _, _, rfl, rfl, rfl, by simp [defOf, destO], by simp [defOf, titleO], rfl⟩
theorem okI_part (Dn : Bs → Option Blk) (xs : List Inl) (j : Nat) (h : okI Dn (xs.take j) = false) : okI Dn xs = false := by
 have e : okI Dn xs = (okI Dn (xs.take j) && okI Dn (xs.drop j)) := by
  unfold okI
  rw [← List.all_append, ← deep_append, List.take_append_drop]
 rw [e, h, Bool.false_and]
set_option maxHeartbeats 2000000 in
theorem linked_fn (va : Value) (L : List Blk) (hL : L.length ≤ 1000000) (n : Nat) : ∀ (v : Value) (xs : List Inl) (u : View), szI xs ≤ n → szI xs ≤ 100000 → BlkS u va L → InlS u v xs →
    FnP Tryd.prog 53 [va, v] u fun r u' => (okI (defOf L) xs = true ∧ ∃ v', r = .tuple #[v', .bool true] ∧ InlS u' v' (lnkI (defOf L) xs)) ∨ (okI (defOf L) xs = false ∧ r = .tuple #[.slice none 0 0, .bool false]) := by
  induction n using Nat.strongRecOn with
  | _ n ih =>
  intro v xs u hsz hbig hLb ha
  have hlx := len_szI xs
  obtain ⟨cs, ⟨ad, cap, rfl, h1⟩, hc1⟩ := ha
  refine FnP.intro [.tmp 4, .tmp 5] Tryd.func53 rfl rfl rfl ?_
  intro w0 D hw0
  refine wc_seq ?_
  refine wc_region ?_
  refine rl_y (y_assign rfl rfl) rfl ?_
  refine rl_y (y_assign rfl rfl) rfl ?_
  refine rl_end (ρ' := [(0, _), (1, _)]) ⟨rfl, rfl, trivial⟩ ?_
  refine q_then ?_
  refine wc_seq ?_
  refine wc_region ?_
  refine rl_y (y_assign rfl rfl) rfl ?_
  refine rl_own_nil 6 506 46 10 rfl rfl rfl ?_
  refine rl_end (ρ' := [(0, _), (1, _), (6, _)]) ⟨rfl, rfl, rfl, trivial⟩ ?_
  refine q_then ?_
  refine wc_seq ?_
  refine wc_seq ?_
  refine wc_region ?_
  refine rl_y (y_assign rfl rfl) rfl ?_
  refine rl_end (ρ' := [(0, _), (1, _), (6, _), (7, _)]) ⟨rfl, rfl, rfl, rfl, trivial⟩ ?_
  refine q_then ?_
  refine wc_block ?_
  refine wc_loop (fun m ρ σ u' => ∃ i : Nat, i + m = xs.length ∧ VLe u u' ∧ ∃ (acc : List Value), σ = [(506, (none, .row 46 10 (lnkI (defOf L) (xs.take i)).length acc))] ∧ ρ = [(0, .v va), (1, .v (.slice ad xs.length cap)), (6, .s 506), (7, .v (.int .i64 i))] ∧ (InlsC u' (lnkI (defOf L) (xs.take i)) acc ∧ okI (defOf L) (xs.take i) = true)) (xs.length) ?_ ?_
  ·
    refine ⟨[(0, _), (1, _), (6, _), (7, _)], [(506, _)], ⟨rfl, rfl, rfl, rfl, trivial⟩, ⟨rfl, trivial⟩, 0, by omega, VLe.refl _, [], (by simp [lnkI]), rfl, ?_⟩
    exact ⟨by rw [List.take_zero, lnkI]; exact InlsC.nil, rfl⟩
  ·
    rintro m ρ σ u' ⟨i, hi3, hle3, acc, rfl, rfl, ⟨hacc, hoki⟩⟩
    refine wc_seq ?_
    refine wc_seq ?_
    refine wc_region ?_
    refine rl_y (y_move rfl rfl) rfl ?_
    refine rl_y (y_move rfl rfl) rfl ?_
    refine rl_y (y_len_v rfl rfl Tryd.s40 rfl) rfl ?_
    refine rl_y (y_lss rfl rfl rfl) rfl ?_
    refine rl_end (ρ' := [(0, _), (1, _), (6, _), (7, _), (16, _)]) ⟨rfl, rfl, rfl, rfl, rfl, trivial⟩ ?_
    refine q_then ?_
    refine wc_cond rfl (fun hb3 => ?_) (fun hb3 => ?_)
    ·
      have hlt : i < xs.length := by have := of_decide_eq_true hb3; omega
      have h1 := h1.mono hle3
      have hLb := hLb.mono hle3
      obtain ⟨k, t, d, ti, a, args, cites, kids, vc, vp, va', vt, vk, hg, hcut1, s1, s2, s3, s4, s5, hok⟩ := (hc1.mono hle3).at hlt
      have oneAll := ((hc1.mono hle3).get i _ hg).one
      rw [hcut1] at oneAll
      have hszk := szI_kids hg
      have hlt' := lnkI_take (defOf L) hg
      have hot := okI_take (defOf L) hg
      rw [hoki, Bool.true_and] at hot
      have hgl := lnkI_len (defOf L) (xs.take i)
      have htl : (xs.take i).length ≤ i := by simp; omega
      have hkl := lnkI_len (defOf L) kids
      obtain ⟨o1, o2, o3, o4, o5, o6, o7, o8⟩ := hok
      have hX : lnkI1 (defOf L) (.mk k t d ti a args cites kids) = if (k = 9 ∨ k = 10) ∧ t ≠ [] then .mk k [] (destO (defOf L t)) (titleO (defOf L t)) a args cites (lnkI (defOf L) kids) else .mk k t d ti a args cites (lnkI (defOf L) kids) := by rw [lnkI1]
      have hox : okX (defOf L) (.mk k t d ti a args cites kids) = if (k = 9 ∨ k = 10) ∧ t ≠ [] then (defOf L t).isSome else true := by
        simp only [okX, labI]
        by_cases h : (k = 9 ∨ k = 10) ∧ t ≠ []
        · simp only [if_pos h]
        · simp only [if_neg h]
      simp only [kidsI] at hot
      refine wc_skip ?_
      refine q_then ?_
      refine wc_seq ?_
      refine wc_block ?_
      refine wc_seq ?_
      refine wc_region ?_
      refine rl_y (y_move rfl rfl) rfl ?_
      refine rl_y (y_move rfl rfl) rfl ?_
      refine rl_y (y_index_e rfl Tryd.s40 rfl rfl (by assumption) (by first | rfl | omega) (by omega)) rfl ?_
      refine rl_y (y_load_el rfl Tryd.k46 rfl (by assumption) (by omega) (by assumption) (vs := [_, _, _, _, _, _, _, _, _, _]) rfl rfl rfl rfl) rfl ?_
      refine rl_do rfl rfl ?_
      refine do_alloc trivial Tryd.z46 rfl rfl rfl ?_
      refine rl_do rfl rfl ?_
      refine do_store_p trivial rfl Tryd.k46 rfl rfl rfl (vs := [_, _, _, _, _, _, _, _, _, _]) rfl rfl (by first | rfl | exact oneAll | exact oneAll2 | simp [Value.oneCell', str]) (Nat.le_of_ble_eq_true rfl) rfl ?_
      refine rl_end (ρ' := [(0, _), (1, _), (6, _), (7, _), (8, _)]) ⟨rfl, rfl, rfl, rfl, rfl, trivial⟩ ?_
      refine q_then ?_
      refine wc_seq ?_
      refine wc_region ?_
      refine rl_y (y_move rfl rfl) rfl ?_
      refine rl_y (y_field_p rfl Tryd.f46' rfl (by decide) rfl) rfl ?_
      refine rl_y (y_load_p rfl Tryd.k40 rfl rfl rfl (vs := [_]) rfl rfl rfl) rfl ?_
      refine rl_do rfl rfl ?_
      refine do_call (caps := []) trivial rfl rfl Tryd.c53 rfl (FnP.mono (ih (szI kids) (by omega) vk kids u' (Nat.le_refl _) (by omega) hLb s5) ?_)
      rintro v uK hle0 hres hleK
      obtain ⟨bk, w, rfl, hbk, hwk, h1w⟩ : ∃ (bk : Bool) (w : Value), v = .tuple #[w, .bool bk] ∧ bk = okI (defOf L) kids ∧ (bk = true → InlS uK w (lnkI (defOf L) kids)) ∧ Value.oneCell' w = true := by
        rcases hres with ⟨h, w, rfl, hw⟩ | ⟨h, rfl⟩
        · exact ⟨true, w, rfl, h.symm, fun _ => hw, by obtain ⟨_, ⟨_, _, rfl, _⟩, _⟩ := hw; rfl⟩
        · exact ⟨false, _, rfl, h.symm, (fun h => by cases h), rfl⟩
      refine rl_y (y_move rfl rfl) rfl ?_
      refine rl_y (y_extract rfl rfl rfl) rfl ?_
      refine rl_y (y_extract rfl rfl rfl) rfl ?_
      refine rl_y (y_assign rfl rfl) rfl ?_
      refine rl_y (y_assign rfl rfl) rfl ?_
      refine rl_end (ρ' := [(0, _), (1, _), (6, _), (7, _), (8, _), (9, _), (10, _)]) ⟨rfl, rfl, rfl, rfl, rfl, rfl, rfl, trivial⟩ ?_
      refine q_then ?_
      refine wc_seq ?_
      refine wc_seq ?_
      refine wc_region ?_
      refine rl_y (y_move rfl rfl) rfl ?_
      refine rl_y (y_not rfl rfl) rfl ?_
      refine rl_end (ρ' := [(0, _), (1, _), (6, _), (7, _), (8, _), (9, _), (31, _)]) ⟨rfl, rfl, rfl, rfl, rfl, rfl, rfl, trivial⟩ ?_
      refine q_then ?_
      refine wc_cond rfl (fun hb7 => ?_) (fun hb7 => ?_)
      ·
        have h7 : bk = false := (by simpa using hb7); subst h7
        refine wc_seq ?_
        refine wc_region ?_
        refine rl_y (y_assign rfl rfl) rfl ?_
        refine rl_y (y_assign rfl rfl) rfl ?_
        refine rl_end (ρ' := [(4, _), (5, _)]) ⟨rfl, rfl, trivial⟩ ?_
        refine q_then ?_
        refine wc_ret ?_
        refine q_then_ret ?_
        refine q_block_ret ?_
        refine q_then_ret ?_
        refine q_then_ret ?_
        refine q_block_ret ?_
        refine q_then_ret ?_
        refine fin2 (.tmp rfl) (.tmp rfl) ?_
        exact .inr ⟨okI_part _ xs (i + 1) (by rw [hot, ← hbk, Bool.and_false]), rfl⟩
      ·
        have h7 : bk = true := (by simpa using hb7); subst h7; rw [← hbk, Bool.and_true] at hot; have hw := hwk rfl; have hw2 := hw; obtain ⟨wcs, ⟨wad, wcap, rfl, hw3⟩, hw4⟩ := hw2
        refine wc_skip ?_
        refine q_then ?_
        refine wc_seq ?_
        refine wc_region ?_
        refine rl_y (y_move rfl rfl) rfl ?_
        refine rl_y (y_field_p rfl Tryd.f46' rfl (by decide) rfl) rfl ?_
        refine rl_do rfl rfl ?_
        refine do_store_p trivial rfl Tryd.k40 rfl rfl rfl (vs := [_]) rfl rfl (by first | rfl | exact oneAll | exact oneAll2 | simp [Value.oneCell', str]) (Nat.le_of_ble_eq_true rfl) rfl ?_
        refine rl_end (ρ' := [(0, _), (1, _), (6, _), (7, _), (8, _)]) ⟨rfl, rfl, rfl, rfl, rfl, trivial⟩ ?_
        refine q_then ?_
        refine wc_cut (fun ρ σ uc17 => ∃ (t3 d3 ti3 : Bs), VLe uK uc17 ∧ σ = [(8, (none, .box (inlV k t3 d3 ti3 a.id vc vp va' vt (.slice wad (lnkI (defOf L) kids).length wcap)))), (506, (none, .row 46 10 (lnkI (defOf L) (xs.take i)).length acc))] ∧ ρ = [(0, .v va), (1, .v (.slice ad xs.length cap)), (6, .s 506), (7, .v (.int .i64 i)), (8, .p 8 0)] ∧ (uK = uc17 ∧ lnkI1 (defOf L) (.mk k t d ti a args cites kids) = .mk k t3 d3 ti3 a args cites (lnkI (defOf L) kids) ∧ okX (defOf L) (.mk k t d ti a args cites kids) = true ∧ t3.length ≤ 140737488351232 ∧ d3.length ≤ 140737488351232 ∧ ti3.length ≤ 140737488351232)) ?_ ?_
        ·
          refine wc_seq ?_
          refine wc_cutB 46 (decide ((k = 9 ∨ k = 10) ∧ t ≠ [])) (ρk := [(0, _), (1, _), (6, _), (7, _), (8, _)]) ⟨rfl, rfl, rfl, rfl, rfl, trivial⟩ ?_ ?_
          ·
            refine wc_region ?_
            refine rl_y (y_field_p rfl Tryd.f46' rfl (by decide) rfl) rfl ?_
            refine rl_y (y_load_p rfl Tryd.k3 rfl rfl rfl (vs := [_]) rfl rfl rfl) rfl ?_
            refine rl_y (y_eql rfl rfl rfl) rfl ?_
            refine rl_y (y_move rfl rfl) rfl ?_
            rcases Bool.eq_false_or_eq_true (decide (k = 9)) with hg10_3 | hg10_3
            ·
              simp only [hg10_3]
              refine rl_off rfl rfl rfl rfl ?_
              refine rl_off rfl rfl rfl rfl ?_
              refine rl_off rfl rfl rfl rfl ?_
              refine rl_y (y_pick_t rfl rfl rfl) rfl ?_
              refine rl_y (y_move rfl rfl) rfl ?_
              refine rl_on rfl rfl ?_
              refine rl_y (y_field_p rfl Tryd.f46' rfl (by decide) rfl) rfl ?_
              refine rl_on rfl rfl ?_
              refine rl_y (y_load_p rfl Tryd.k9 rfl rfl rfl (vs := [_]) rfl rfl rfl) rfl ?_
              refine rl_on rfl rfl ?_
              refine rl_y (y_str_neq rfl rfl rfl) rfl ?_
              refine rl_y (y_pick_t rfl rfl rfl) rfl ?_
              exact cutB_end rfl ⟨rfl, rfl, rfl, rfl, rfl, trivial⟩ (by first | (simp_all; done) | (by_cases h9 : k = 9 <;> by_cases h10 : k = 10 <;> simp_all))
            ·
              simp only [hg10_3]
              refine rl_on rfl rfl ?_
              refine rl_y (y_field_p rfl Tryd.f46' rfl (by decide) rfl) rfl ?_
              refine rl_on rfl rfl ?_
              refine rl_y (y_load_p rfl Tryd.k3 rfl rfl rfl (vs := [_]) rfl rfl rfl) rfl ?_
              refine rl_on rfl rfl ?_
              refine rl_y (y_eql rfl rfl rfl) rfl ?_
              refine rl_y (y_pick_f rfl rfl rfl) rfl ?_
              refine rl_y (y_move rfl rfl) rfl ?_
              rcases Bool.eq_false_or_eq_true (decide (k = 10)) with hg10_8 | hg10_8
              ·
                simp only [hg10_8]
                refine rl_on rfl rfl ?_
                refine rl_y (y_field_p rfl Tryd.f46' rfl (by decide) rfl) rfl ?_
                refine rl_on rfl rfl ?_
                refine rl_y (y_load_p rfl Tryd.k9 rfl rfl rfl (vs := [_]) rfl rfl rfl) rfl ?_
                refine rl_on rfl rfl ?_
                refine rl_y (y_str_neq rfl rfl rfl) rfl ?_
                refine rl_y (y_pick_t rfl rfl rfl) rfl ?_
                exact cutB_end rfl ⟨rfl, rfl, rfl, rfl, rfl, trivial⟩ (by first | (simp_all; done) | (by_cases h9 : k = 9 <;> by_cases h10 : k = 10 <;> simp_all))
              ·
                simp only [hg10_8]
                refine rl_off rfl rfl rfl rfl ?_
                refine rl_off rfl rfl rfl rfl ?_
                refine rl_off rfl rfl rfl rfl ?_
                refine rl_y (y_pick_f rfl rfl rfl) rfl ?_
                exact cutB_end rfl ⟨rfl, rfl, rfl, rfl, rfl, trivial⟩ (by first | (simp_all; done) | (by_cases h9 : k = 9 <;> by_cases h10 : k = 10 <;> simp_all))
          refine q_then ?_
          refine wc_cond rfl (fun hb10 => ?_) (fun hb10 => ?_)
          ·
            have h10 := of_decide_eq_true hb10; rw [if_pos h10] at hX hox
            refine wc_seq ?_
            refine wc_region ?_
            refine rl_y (y_move rfl rfl) rfl ?_
            refine rl_y (y_field_p rfl Tryd.f46' rfl (by decide) rfl) rfl ?_
            refine rl_y (y_load_p rfl Tryd.k9 rfl rfl rfl (vs := [_]) rfl rfl rfl) rfl ?_
            refine rl_do rfl rfl ?_
            refine do_call_f (caps := []) trivial rfl rfl Tryd.c61 rfl (FnP.mono (definition_fn va L t hL uK (hLb.mono hleK)) ?_)
            rintro v u1 hle1 ⟨k0, lv0, inf0, t0, d0, ti0, id0, vc0, vp0, vl0, vk0, rfl, hd0, hti0, hdl, htil, oneAll2⟩
            refine rl_y (y_move rfl rfl) rfl ?_
            refine rl_y (y_extract rfl rfl rfl) rfl ?_
            refine rl_y (y_extract rfl rfl rfl) rfl ?_
            refine rl_do rfl rfl ?_
            refine do_alloc trivial Tryd.z42 rfl rfl rfl ?_
            refine rl_do rfl rfl ?_
            refine do_store_p trivial rfl Tryd.k42 rfl rfl rfl (vs := [_, _, _, _, _, _, _, _, _, _, _]) rfl rfl (by first | rfl | exact oneAll | exact oneAll2 | simp [Value.oneCell', str]) (Nat.le_of_ble_eq_true rfl) rfl ?_
            refine rl_y (y_assign rfl rfl) rfl ?_
            refine rl_end (ρ' := [(0, _), (1, _), (6, _), (7, _), (8, _), (11, _), (12, _)]) ⟨rfl, rfl, rfl, rfl, rfl, rfl, rfl, trivial⟩ ?_
            refine q_then ?_
            refine wc_seq ?_
            refine wc_seq ?_
            refine wc_region ?_
            refine rl_y (y_move rfl rfl) rfl ?_
            refine rl_y (y_not rfl rfl) rfl ?_
            refine rl_end (ρ' := [(0, _), (1, _), (6, _), (7, _), (8, _), (11, _), (55, _)]) ⟨rfl, rfl, rfl, rfl, rfl, rfl, rfl, trivial⟩ ?_
            refine q_then ?_
            refine wc_cond rfl (fun hb12 => ?_) (fun hb12 => ?_)
            ·
              have h12 : (defOf L t).isSome = false := (by simpa using hb12)
              refine wc_seq ?_
              refine wc_region ?_
              refine rl_y (y_assign rfl rfl) rfl ?_
              refine rl_y (y_assign rfl rfl) rfl ?_
              refine rl_end (ρ' := [(4, _), (5, _)]) ⟨rfl, rfl, trivial⟩ ?_
              refine q_then ?_
              refine wc_ret ?_
              refine q_then_ret ?_
              refine q_then_ret ?_
              refine q_block_ret ?_
              refine q_then_ret ?_
              refine q_then_ret ?_
              refine q_block_ret ?_
              refine q_then_ret ?_
              refine fin2 (.tmp rfl) (.tmp rfl) ?_
              exact .inr ⟨okI_part _ xs (i + 1) (by rw [hot, hox, h12]), rfl⟩
            ·
              have h12 : (defOf L t).isSome = true := (by simpa using hb12)
              refine wc_skip ?_
              refine q_then ?_
              refine wc_seq ?_
              refine wc_region ?_
              refine rl_y (y_field_p rfl Tryd.f46' rfl (by decide) rfl) rfl ?_
              refine rl_do rfl rfl ?_
              refine do_store_p trivial rfl Tryd.k9 rfl rfl rfl (vs := [_]) rfl rfl (by first | rfl | exact oneAll | exact oneAll2 | simp [Value.oneCell', str]) (Nat.le_of_ble_eq_true rfl) rfl ?_
              refine rl_end (ρ' := [(0, _), (1, _), (6, _), (7, _), (8, _), (11, _)]) ⟨rfl, rfl, rfl, rfl, rfl, rfl, trivial⟩ ?_
              refine q_then ?_
              refine wc_seq ?_
              refine wc_region ?_
              refine rl_y (y_field_p rfl Tryd.f42' rfl (by decide) rfl) rfl ?_
              refine rl_y (y_load_p rfl Tryd.k9 rfl rfl rfl (vs := [_]) rfl rfl rfl) rfl ?_
              refine rl_y (y_field_p rfl Tryd.f46' rfl (by decide) rfl) rfl ?_
              refine rl_do rfl rfl ?_
              refine do_store_p trivial rfl Tryd.k9 rfl rfl rfl (vs := [_]) rfl rfl (by first | rfl | exact oneAll | exact oneAll2 | simp [Value.oneCell', str]) (Nat.le_of_ble_eq_true rfl) rfl ?_
              refine rl_end (ρ' := [(0, _), (1, _), (6, _), (7, _), (8, _), (11, _)]) ⟨rfl, rfl, rfl, rfl, rfl, rfl, trivial⟩ ?_
              refine q_then ?_
              refine wc_region ?_
              refine rl_y (y_field_p rfl Tryd.f42' rfl (by decide) rfl) rfl ?_
              refine rl_y (y_load_p rfl Tryd.k9 rfl rfl rfl (vs := [_]) rfl rfl rfl) rfl ?_
              refine rl_y (y_field_p rfl Tryd.f46' rfl (by decide) rfl) rfl ?_
              refine rl_do rfl rfl ?_
              refine do_store_p trivial rfl Tryd.k9 rfl rfl rfl (vs := [_]) rfl rfl (by first | rfl | exact oneAll | exact oneAll2 | simp [Value.oneCell', str]) (Nat.le_of_ble_eq_true rfl) rfl ?_
              refine rl_end (ρ' := [(0, _), (1, _), (6, _), (7, _), (8, _)]) ⟨rfl, rfl, rfl, rfl, rfl, trivial⟩ ?_
              refine q_thenK ?_
              first
                | (refine ⟨[(0, _), (1, _), (6, _), (7, _), (8, _)], [(8, _), (506, _)], ⟨rfl, rfl, rfl, rfl, rfl, trivial⟩, ⟨rfl, rfl, trivial⟩, [], d0, ti0, (VLe.refl _), (by first | rfl | simp), (by first | rfl | (simp only [List.cons.injEq, Prod.mk.injEq, SV.v.injEq, Value.int.injEq, true_and, and_true]; omega) | simp), ?_⟩
                   exact ⟨rfl, by rw [hX, hd0, hti0], by rw [hox, h12], by simp, hdl, htil⟩)
                | (refine ⟨[(0, _), (1, _), (6, _), (7, _), (8, _)], [(8, _), (506, _)], ⟨rfl, rfl, rfl, rfl, rfl, trivial⟩, ⟨rfl, rfl, trivial⟩, t, d, ti, (VLe.refl _), (by first | rfl | simp), (by first | rfl | (simp only [List.cons.injEq, Prod.mk.injEq, SV.v.injEq, Value.int.injEq, true_and, and_true]; omega) | simp), ?_⟩
                   exact ⟨rfl, hX, hox, o2, o3, o4⟩)
          ·
            have h10 := of_decide_eq_false hb10; rw [if_neg h10] at hX hox
            refine wc_skip ?_
            refine q_thenK ?_
            first
              | (refine ⟨[(0, _), (1, _), (6, _), (7, _), (8, _)], [(8, _), (506, _)], ⟨rfl, rfl, rfl, rfl, rfl, trivial⟩, ⟨rfl, rfl, trivial⟩, [], d0, ti0, (VLe.refl _), (by first | rfl | simp), (by first | rfl | (simp only [List.cons.injEq, Prod.mk.injEq, SV.v.injEq, Value.int.injEq, true_and, and_true]; omega) | simp), ?_⟩
                 exact ⟨rfl, by rw [hX, hd0, hti0], by rw [hox, h12], by simp, hdl, htil⟩)
              | (refine ⟨[(0, _), (1, _), (6, _), (7, _), (8, _)], [(8, _), (506, _)], ⟨rfl, rfl, rfl, rfl, rfl, trivial⟩, ⟨rfl, rfl, trivial⟩, t, d, ti, (VLe.refl _), (by first | rfl | simp), (by first | rfl | (simp only [List.cons.injEq, Prod.mk.injEq, SV.v.injEq, Value.int.injEq, true_and, and_true]; omega) | simp), ?_⟩
                 exact ⟨rfl, hX, hox, o2, o3, o4⟩)
        ·
          rintro ρ σ uc17 ⟨t3, d3, ti3, hlc17, rfl, rfl, ⟨rfl, hX2, hox2, l1, l2, l3⟩⟩
          have hnew : InlC uK (lnkI1 (defOf L) (.mk k t d ti a args cites kids)) (inlV k t3 d3 ti3 a.id vc vp va' vt (.slice wad (lnkI (defOf L) kids).length wcap)) := by
            rw [hX2]
            exact InlC.mk' (s1.mono hleK) (s2.mono hleK) (s3.mono hleK) (s4.mono hleK) hw ⟨o1, l1, l2, l3, o5, o6, o7, by omega⟩
          have oneAll3 := hnew.one
          refine wc_region ?_
          refine rl_y (y_move rfl rfl) rfl ?_
          refine rl_y (y_load_p rfl Tryd.k46 rfl rfl rfl (vs := [_, _, _, _, _, _, _, _, _, _]) rfl rfl rfl) rfl ?_
          refine rl_do rfl rfl ?_
          refine do_buildSlice trivial Tryd.s40 Tryd.z46 (ps := [(_, _)]) rfl (xs := [_, _, _, _, _, _, _, _, _, _]) rfl rfl rfl rfl rfl rfl rfl ?_
          refine rl_do rfl rfl ?_
          refine do_append_s trivial rfl rfl Tryd.s40 Tryd.z46 rfl rfl rfl rfl rfl rfl oneAll3 (by omega) (by omega) (ρ' := [(0, _), (1, _), (7, _)]) ⟨rfl, rfl, rfl, trivial⟩ rfl rfl rfl ?_
          refine rl_y (y_assign rfl rfl) rfl ?_
          refine rl_ren 66 506 rfl rfl rfl ?_
          refine rl_end (ρ' := [(0, _), (1, _), (6, _), (7, _)]) ⟨rfl, rfl, rfl, rfl, trivial⟩ ?_
          refine q_block ?_
          refine q_then ?_
          refine wc_region ?_
          refine rl_y (y_move rfl rfl) rfl ?_
          refine rl_y (y_add rfl rfl rfl (wrap64_id (by omega))) rfl ?_
          refine rl_y (y_assign rfl rfl) rfl ?_
          refine rl_end (ρ' := [(0, _), (1, _), (6, _), (7, _)]) ⟨rfl, rfl, rfl, rfl, trivial⟩ ?_
          refine q_thenK ?_
          refine ⟨m - 1, [(0, _), (1, _), (6, _), (7, _)], [(506, _)], by omega, ⟨rfl, rfl, rfl, rfl, trivial⟩, ⟨rfl, trivial⟩, i + 1, by omega, (hle3.trans hleK), _, (by rw [hlt', List.length_append]; rfl), (by first | rfl | simp), ?_⟩
          rw [hlt', hot, hox2]
          exact ⟨(hacc.mono hleK).append (InlsC.one hnew), rfl⟩
    ·
      have hge := of_decide_eq_false hb3
      refine wc_exit ?_
      refine q_then_exit ?_
      refine q_then_exit ?_
      refine q_block_hit ?_
      refine q_then ?_
      refine wc_seq ?_
      refine wc_region ?_
      refine rl_y (y_move rfl rfl) rfl ?_
      refine rl_freeze 506 rfl ?_
      intro ad506 cap506 u506 hle506z hsl506
      refine rl_y (y_assign rfl rfl) rfl ?_
      refine rl_y (y_assign rfl rfl) rfl ?_
      refine rl_end (ρ' := [(4, _), (5, _)]) ⟨rfl, rfl, trivial⟩ ?_
      refine q_then ?_
      refine wc_ret ?_
      refine fin2 (.tmp rfl) (.tmp rfl) ?_
      rw [List.take_of_length_le (by omega)] at hacc hsl506 hoki
      exact .inl ⟨hoki, _, rfl, ⟨_, ⟨_, _, by rw [List.take_of_length_le (by omega)], hsl506⟩, hacc.mono hle506z⟩⟩
theorem okB_take (Dn : Bs → Option Blk) {bs : List Blk} {i : Nat} {x : Blk} (h : bs[i]? = some x) : okB Dn (bs.take (i + 1)) = (okB Dn (bs.take i) && (evRb notDef deep x).all (okX Dn)) := by
 unfold okB
 rw [evRB_take notDef deep h, List.all_append]
theorem okB_part (Dn : Bs → Option Blk) (bs : List Blk) (j : Nat) (h : okB Dn (bs.take j) = false) : okB Dn bs = false := by
 have e : okB Dn bs = (okB Dn (bs.take j) && okB Dn (bs.drop j)) := by
  unfold okB
  rw [← List.all_append, ← evRB_append, List.take_append_drop]
 rw [e, h, Bool.false_and]
set_option maxHeartbeats 2000000 in
theorem defined_fn (va : Value) (L : List Blk) (hL : L.length ≤ 1000000) (n : Nat) : ∀ (v : Value) (xs : List Blk) (u : View), szB xs ≤ n → szB xs ≤ 100000 → BlkS u va L → BlkS u v xs →
    FnP Tryd.prog 38 [va, v] u fun r u' => (okB (defOf L) xs = true ∧ ∃ v', r = .tuple #[v', .bool true] ∧ BlkS u' v' (rebB notDef (lnkI (defOf L)) xs)) ∨ (okB (defOf L) xs = false ∧ r = .tuple #[.slice none 0 0, .bool false]) := by
  induction n using Nat.strongRecOn with
  | _ n ih =>
  intro v xs u hsz hbig hLb ha
  have hlx := len_szB xs
  obtain ⟨cs, ⟨ad, cap, rfl, h1⟩, hc1⟩ := ha
  refine FnP.intro [.tmp 4, .tmp 5] Tryd.func38 rfl rfl rfl ?_
  intro w0 D hw0
  refine wc_seq ?_
  refine wc_region ?_
  refine rl_y (y_assign rfl rfl) rfl ?_
  refine rl_y (y_assign rfl rfl) rfl ?_
  refine rl_end (ρ' := [(0, _), (1, _)]) ⟨rfl, rfl, trivial⟩ ?_
  refine q_then ?_
  refine wc_seq ?_
  refine wc_region ?_
  refine rl_y (y_assign rfl rfl) rfl ?_
  refine rl_own_nil 6 506 42 11 rfl rfl rfl ?_
  refine rl_end (ρ' := [(0, _), (1, _), (6, _)]) ⟨rfl, rfl, rfl, trivial⟩ ?_
  refine q_then ?_
  refine wc_seq ?_
  refine wc_seq ?_
  refine wc_region ?_
  refine rl_y (y_assign rfl rfl) rfl ?_
  refine rl_end (ρ' := [(0, _), (1, _), (6, _), (7, _)]) ⟨rfl, rfl, rfl, rfl, trivial⟩ ?_
  refine q_then ?_
  refine wc_block ?_
  refine wc_loop (fun m ρ σ u' => ∃ i : Nat, i + m = xs.length ∧ VLe u u' ∧ ∃ (acc : List Value), σ = [(506, (none, .row 42 11 (rebB notDef (lnkI (defOf L)) (xs.take i)).length acc))] ∧ ρ = [(0, .v va), (1, .v (.slice ad xs.length cap)), (6, .s 506), (7, .v (.int .i64 i))] ∧ (BlksC u' (rebB notDef (lnkI (defOf L)) (xs.take i)) acc ∧ okB (defOf L) (xs.take i) = true)) (xs.length) ?_ ?_
  ·
    refine ⟨[(0, _), (1, _), (6, _), (7, _)], [(506, _)], ⟨rfl, rfl, rfl, rfl, trivial⟩, ⟨rfl, trivial⟩, 0, by omega, VLe.refl _, [], (by simp [rebB]), rfl, ?_⟩
    exact ⟨by rw [List.take_zero, rebB]; exact BlksC.nil, rfl⟩
  ·
    rintro m ρ σ u' ⟨i, hi3, hle3, acc, rfl, rfl, ⟨hacc, hoki⟩⟩
    refine wc_seq ?_
    refine wc_seq ?_
    refine wc_region ?_
    refine rl_y (y_move rfl rfl) rfl ?_
    refine rl_y (y_move rfl rfl) rfl ?_
    refine rl_y (y_len_v rfl rfl Tryd.s23 rfl) rfl ?_
    refine rl_y (y_lss rfl rfl rfl) rfl ?_
    refine rl_end (ρ' := [(0, _), (1, _), (6, _), (7, _), (16, _)]) ⟨rfl, rfl, rfl, rfl, rfl, trivial⟩ ?_
    refine q_then ?_
    refine wc_cond rfl (fun hb3 => ?_) (fun hb3 => ?_)
    ·
      have hlt : i < xs.length := by have := of_decide_eq_true hb3; omega
      have h1 := h1.mono hle3
      have hLb := hLb.mono hle3
      obtain ⟨k, lv, inf, t, d, ti, a, line, kids, vc, vp, vl, vk, hg, hcut1, s1, s2, s3, s4, hok⟩ := (hc1.mono hle3).at hlt
      have oneAll := ((hc1.mono hle3).get i _ hg).one
      rw [hcut1] at oneAll
      have hszk := szB_kids hg
      have hlt' := rebB_take notDef (lnkI (defOf L)) hg
      have hot := okB_take (defOf L) hg
      rw [hoki, Bool.true_and, evRb_eq] at hot
      rw [rebb_eq] at hlt'
      have hrl := rebB_len notDef (lnkI (defOf L)) (xs.take i)
      have hrk := rebB_len notDef (lnkI (defOf L)) kids
      have htl : (xs.take i).length ≤ i := by simp; omega
      have hkl := lnkI_len (defOf L) line
      have hkl2 := len_szB kids
      have hkl3 := len_szI line
      have hnd : notDef (.mk k lv inf t d ti a line kids) = decide (k ≠ 15) := rfl
      refine wc_skip ?_
      refine q_then ?_
      refine wc_seq ?_
      refine wc_block ?_
      refine wc_seq ?_
      refine wc_region ?_
      refine rl_y (y_move rfl rfl) rfl ?_
      refine rl_y (y_move rfl rfl) rfl ?_
      refine rl_y (y_index_e rfl Tryd.s23 rfl rfl (by assumption) (by first | rfl | omega) (by omega)) rfl ?_
      refine rl_y (y_load_el rfl Tryd.k42 rfl (by assumption) (by omega) (by assumption) (vs := [_, _, _, _, _, _, _, _, _, _, _]) rfl rfl rfl rfl) rfl ?_
      refine rl_do rfl rfl ?_
      refine do_alloc trivial Tryd.z42 rfl rfl rfl ?_
      refine rl_do rfl rfl ?_
      refine do_store_p trivial rfl Tryd.k42 rfl rfl rfl (vs := [_, _, _, _, _, _, _, _, _, _, _]) rfl rfl (by first | rfl | exact oneAll | exact oneAll2 | simp [Value.oneCell', str]) (Nat.le_of_ble_eq_true rfl) rfl ?_
      refine rl_end (ρ' := [(0, _), (1, _), (6, _), (7, _), (8, _)]) ⟨rfl, rfl, rfl, rfl, rfl, trivial⟩ ?_
      refine q_then ?_
      refine wc_seq ?_
      refine wc_seq ?_
      refine wc_region ?_
      refine rl_y (y_field_p rfl Tryd.f42' rfl (by decide) rfl) rfl ?_
      refine rl_y (y_load_p rfl Tryd.k3 rfl rfl rfl (vs := [_]) rfl rfl rfl) rfl ?_
      refine rl_y (y_eql rfl rfl rfl) rfl ?_
      refine rl_end (ρ' := [(0, _), (1, _), (6, _), (7, _), (8, _), (25, _)]) ⟨rfl, rfl, rfl, rfl, rfl, rfl, trivial⟩ ?_
      refine q_then ?_
      refine wc_cond rfl (fun hb6 => ?_) (fun hb6 => ?_)
      ·
        have h6 := of_decide_eq_true hb6
        rw [if_neg (by rw [hnd]; simp [h6])] at hlt' hot
        rw [List.append_nil] at hlt'
        refine wc_exit ?_
        refine q_then_exit ?_
        refine q_block_hit ?_
        refine q_then ?_
        refine wc_region ?_
        refine rl_y (y_move rfl rfl) rfl ?_
        refine rl_y (y_add rfl rfl rfl (wrap64_id (by omega))) rfl ?_
        refine rl_y (y_assign rfl rfl) rfl ?_
        refine rl_end (ρ' := [(0, _), (1, _), (6, _), (7, _)]) ⟨rfl, rfl, rfl, rfl, trivial⟩ ?_
        refine q_thenK ?_
        refine ⟨m - 1, [(0, _), (1, _), (6, _), (7, _)], [(506, _)], by omega, ⟨rfl, rfl, rfl, rfl, trivial⟩, ⟨rfl, trivial⟩, i + 1, by omega, (by first | exact hle3 | exact hle3.trans (hleK.trans hleQ)), _, (by first | (rw [hlt', List.length_append]; rfl) | (rw [hlt'])), (by first | rfl | simp), ?_⟩
        first
          | (refine ⟨?_, ?_⟩; rw [hlt']; exact (hacc.mono (hleK.trans hleQ)).append (BlksC.one hnew); rw [hot2]; rfl)
          | (refine ⟨?_, ?_⟩; rw [hlt']; exact hacc; rw [hot]; rfl)
      ·
        have h6 := of_decide_eq_false hb6
        rw [if_pos (by rw [hnd]; simp [h6])] at hlt' hot
        rw [List.all_append] at hot
        refine wc_skip ?_
        refine q_then ?_
        refine wc_seq ?_
        refine wc_region ?_
        refine rl_y (y_move rfl rfl) rfl ?_
        refine rl_y (y_field_p rfl Tryd.f42' rfl (by decide) rfl) rfl ?_
        refine rl_y (y_load_p rfl Tryd.k40 rfl rfl rfl (vs := [_]) rfl rfl rfl) rfl ?_
        refine rl_do rfl rfl ?_
        refine do_call (caps := []) trivial rfl rfl Tryd.c53 rfl (FnP.mono (linked_fn va L hL (szI line) vl line u' (Nat.le_refl _) (by omega) hLb s3) ?_)
        rintro v uK hle0 hres hleK
        obtain ⟨bk, w, rfl, hbk, hwk, h1w⟩ : ∃ (bk : Bool) (w : Value), v = .tuple #[w, .bool bk] ∧ bk = (deep line).all (okX (defOf L)) ∧ (bk = true → InlS uK w (lnkI (defOf L) line)) ∧ Value.oneCell' w = true := by
          rcases hres with ⟨h, w, rfl, hw⟩ | ⟨h, rfl⟩
          · exact ⟨true, w, rfl, h.symm, fun _ => hw, by obtain ⟨_, ⟨_, _, rfl, _⟩, _⟩ := hw; rfl⟩
          · exact ⟨false, _, rfl, h.symm, (fun h => by cases h), rfl⟩
        refine rl_y (y_move rfl rfl) rfl ?_
        refine rl_y (y_extract rfl rfl rfl) rfl ?_
        refine rl_y (y_extract rfl rfl rfl) rfl ?_
        refine rl_y (y_assign rfl rfl) rfl ?_
        refine rl_y (y_assign rfl rfl) rfl ?_
        refine rl_end (ρ' := [(0, _), (1, _), (6, _), (7, _), (8, _), (9, _), (10, _)]) ⟨rfl, rfl, rfl, rfl, rfl, rfl, rfl, trivial⟩ ?_
        refine q_then ?_
        refine wc_seq ?_
        refine wc_region ?_
        refine rl_y (y_move rfl rfl) rfl ?_
        refine rl_y (y_field_p rfl Tryd.f42' rfl (by decide) rfl) rfl ?_
        refine rl_y (y_load_p rfl Tryd.k23 rfl rfl rfl (vs := [_]) rfl rfl rfl) rfl ?_
        refine rl_do rfl rfl ?_
        refine do_call (caps := []) trivial rfl rfl Tryd.c38 rfl (FnP.mono (ih (szB kids) (by omega) vk kids uK (Nat.le_refl _) (by omega) (hLb.mono hleK) (s4.mono hleK)) ?_)
        rintro v uQ hle0 hres2 hleQ
        obtain ⟨bq, z, rfl, hbq, hzk, h1z⟩ : ∃ (bq : Bool) (z : Value), v = .tuple #[z, .bool bq] ∧ bq = okB (defOf L) kids ∧ (bq = true → BlkS uQ z (rebB notDef (lnkI (defOf L)) kids)) ∧ Value.oneCell' z = true := by
          rcases hres2 with ⟨h, z, rfl, hz⟩ | ⟨h, rfl⟩
          · exact ⟨true, z, rfl, h.symm, fun _ => hz, by obtain ⟨_, ⟨_, _, rfl, _⟩, _⟩ := hz; rfl⟩
          · exact ⟨false, _, rfl, h.symm, (fun h => by cases h), rfl⟩
        have hot2 : okB (defOf L) (xs.take (i + 1)) = (bk && bq) := by rw [hot, ← hbk, hbq]; rfl
        refine rl_y (y_move rfl rfl) rfl ?_
        refine rl_y (y_extract rfl rfl rfl) rfl ?_
        refine rl_y (y_extract rfl rfl rfl) rfl ?_
        refine rl_y (y_assign rfl rfl) rfl ?_
        refine rl_y (y_assign rfl rfl) rfl ?_
        refine rl_end (ρ' := [(0, _), (1, _), (6, _), (7, _), (8, _), (9, _), (10, _), (11, _), (12, _)]) ⟨rfl, rfl, rfl, rfl, rfl, rfl, rfl, rfl, rfl, trivial⟩ ?_
        refine q_then ?_
        refine wc_seq ?_
        refine wc_seq ?_
        refine wc_cutB 45 (decide (bk = false ∨ bq = false)) (ρk := [(0, _), (1, _), (6, _), (7, _), (8, _), (9, _), (11, _)]) ⟨rfl, rfl, rfl, rfl, rfl, rfl, rfl, trivial⟩ ?_ ?_
        ·
          refine wc_region ?_
          refine rl_y (y_move rfl rfl) rfl ?_
          refine rl_y (y_not rfl rfl) rfl ?_
          refine rl_y (y_move rfl rfl) rfl ?_
          rcases Bool.eq_false_or_eq_true (!bk) with hg9_2 | hg9_2
          ·
            simp only [hg9_2]
            refine rl_off rfl rfl rfl rfl ?_
            refine rl_off rfl rfl rfl rfl ?_
            refine rl_y (y_pick_t rfl rfl rfl) rfl ?_
            exact cutB_end rfl ⟨rfl, rfl, rfl, rfl, rfl, rfl, rfl, trivial⟩ (by cases bk <;> cases bq <;> simp_all)
          ·
            simp only [hg9_2]
            refine rl_on rfl rfl ?_
            refine rl_y (y_move rfl rfl) rfl ?_
            refine rl_on rfl rfl ?_
            refine rl_y (y_not rfl rfl) rfl ?_
            refine rl_y (y_pick_f rfl rfl rfl) rfl ?_
            exact cutB_end rfl ⟨rfl, rfl, rfl, rfl, rfl, rfl, rfl, trivial⟩ (by cases bk <;> cases bq <;> simp_all)
        refine q_then ?_
        refine wc_cond rfl (fun hb9 => ?_) (fun hb9 => ?_)
        ·
          have h9 := of_decide_eq_true hb9
          refine wc_seq ?_
          refine wc_region ?_
          refine rl_y (y_assign rfl rfl) rfl ?_
          refine rl_y (y_assign rfl rfl) rfl ?_
          refine rl_end (ρ' := [(4, _), (5, _)]) ⟨rfl, rfl, trivial⟩ ?_
          refine q_then ?_
          refine wc_ret ?_
          refine q_then_ret ?_
          refine q_block_ret ?_
          refine q_then_ret ?_
          refine q_then_ret ?_
          refine q_block_ret ?_
          refine q_then_ret ?_
          refine fin2 (.tmp rfl) (.tmp rfl) ?_
          exact .inr ⟨okB_part _ xs (i + 1) (by rw [hot2]; rcases h9 with h | h <;> simp [h]), rfl⟩
        ·
          have h9 := of_decide_eq_false hb9; obtain rfl : bk = true := (by cases bk <;> simp_all); obtain rfl : bq = true := (by cases bq <;> simp_all); have hw := (hwk rfl).mono hleQ; have hz := hzk rfl; have hw2 := hw; have hz2 := hz; obtain ⟨wcs, ⟨wad, wcap, rfl, hw3⟩, hw4⟩ := hw2; obtain ⟨zcs, ⟨zad, zcap, rfl, hz3⟩, hz4⟩ := hz2
          refine wc_skip ?_
          refine q_then ?_
          refine wc_seq ?_
          refine wc_region ?_
          refine rl_y (y_move rfl rfl) rfl ?_
          refine rl_y (y_field_p rfl Tryd.f42' rfl (by decide) rfl) rfl ?_
          refine rl_do rfl rfl ?_
          refine do_store_p trivial rfl Tryd.k40 rfl rfl rfl (vs := [_]) rfl rfl (by first | rfl | exact oneAll | exact oneAll2 | simp [Value.oneCell', str]) (Nat.le_of_ble_eq_true rfl) rfl ?_
          refine rl_end (ρ' := [(0, _), (1, _), (6, _), (7, _), (8, _), (11, _)]) ⟨rfl, rfl, rfl, rfl, rfl, rfl, trivial⟩ ?_
          refine q_then ?_
          refine wc_seq ?_
          refine wc_region ?_
          refine rl_y (y_move rfl rfl) rfl ?_
          refine rl_y (y_field_p rfl Tryd.f42' rfl (by decide) rfl) rfl ?_
          refine rl_do rfl rfl ?_
          refine do_store_p trivial rfl Tryd.k23 rfl rfl rfl (vs := [_]) rfl rfl (by first | rfl | exact oneAll | exact oneAll2 | simp [Value.oneCell', str]) (Nat.le_of_ble_eq_true rfl) rfl ?_
          refine rl_end (ρ' := [(0, _), (1, _), (6, _), (7, _), (8, _)]) ⟨rfl, rfl, rfl, rfl, rfl, trivial⟩ ?_
          refine q_then ?_
          have hnew : BlkC uQ (.mk k lv inf t d ti a (lnkI (defOf L) line) (rebB notDef (lnkI (defOf L)) kids)) (blkV k lv inf t d ti a.id vc vp (.slice wad (lnkI (defOf L) line).length wcap) (.slice zad (rebB notDef (lnkI (defOf L)) kids).length zcap)) :=
            BlkC.mk' (s1.mono (hleK.trans hleQ)) (s2.mono (hleK.trans hleQ)) hw hz (by obtain ⟨o1, o2, o3, o4, o5, o6, o7, o8, o9⟩ := hok; exact ⟨o1, o2, o3, o4, o5, o6, o7, by omega, by omega⟩)
          have oneAll3 := hnew.one
          refine wc_region ?_
          refine rl_y (y_move rfl rfl) rfl ?_
          refine rl_y (y_load_p rfl Tryd.k42 rfl rfl rfl (vs := [_, _, _, _, _, _, _, _, _, _, _]) rfl rfl rfl) rfl ?_
          refine rl_do rfl rfl ?_
          refine do_buildSlice trivial Tryd.s23 Tryd.z42 (ps := [(_, _)]) rfl (xs := [_, _, _, _, _, _, _, _, _, _, _]) rfl rfl rfl rfl rfl rfl rfl ?_
          refine rl_do rfl rfl ?_
          refine do_append_s trivial rfl rfl Tryd.s23 Tryd.z42 rfl rfl rfl rfl rfl rfl oneAll3 (by omega) (by omega) (ρ' := [(0, _), (1, _), (7, _)]) ⟨rfl, rfl, rfl, trivial⟩ rfl rfl rfl ?_
          refine rl_y (y_assign rfl rfl) rfl ?_
          refine rl_ren 53 506 rfl rfl rfl ?_
          refine rl_end (ρ' := [(0, _), (1, _), (6, _), (7, _)]) ⟨rfl, rfl, rfl, rfl, trivial⟩ ?_
          refine q_block ?_
          refine q_then ?_
          refine wc_region ?_
          refine rl_y (y_move rfl rfl) rfl ?_
          refine rl_y (y_add rfl rfl rfl (wrap64_id (by omega))) rfl ?_
          refine rl_y (y_assign rfl rfl) rfl ?_
          refine rl_end (ρ' := [(0, _), (1, _), (6, _), (7, _)]) ⟨rfl, rfl, rfl, rfl, trivial⟩ ?_
          refine q_thenK ?_
          refine ⟨m - 1, [(0, _), (1, _), (6, _), (7, _)], [(506, _)], by omega, ⟨rfl, rfl, rfl, rfl, trivial⟩, ⟨rfl, trivial⟩, i + 1, by omega, (by first | exact hle3 | exact hle3.trans (hleK.trans hleQ)), _, (by first | (rw [hlt', List.length_append]; rfl) | (rw [hlt'])), (by first | rfl | simp), ?_⟩
          first
            | (refine ⟨?_, ?_⟩; rw [hlt']; exact (hacc.mono (hleK.trans hleQ)).append (BlksC.one hnew); rw [hot2]; rfl)
            | (refine ⟨?_, ?_⟩; rw [hlt']; exact hacc; rw [hot]; rfl)
    ·
      have hge := of_decide_eq_false hb3
      refine wc_exit ?_
      refine q_then_exit ?_
      refine q_then_exit ?_
      refine q_block_hit ?_
      refine q_then ?_
      refine wc_seq ?_
      refine wc_region ?_
      refine rl_y (y_move rfl rfl) rfl ?_
      refine rl_freeze 506 rfl ?_
      intro ad506 cap506 u506 hle506z hsl506
      refine rl_y (y_assign rfl rfl) rfl ?_
      refine rl_y (y_assign rfl rfl) rfl ?_
      refine rl_end (ρ' := [(4, _), (5, _)]) ⟨rfl, rfl, trivial⟩ ?_
      refine q_then ?_
      refine wc_ret ?_
      refine fin2 (.tmp rfl) (.tmp rfl) ?_
      rw [List.take_of_length_le (by omega)] at hacc hsl506 hoki
      exact .inl ⟨hoki, _, rfl, ⟨_, ⟨_, _, by rw [List.take_of_length_le (by omega)], hsl506⟩, hacc.mono hle506z⟩⟩
theorem refLinks_fn (vm vb : Value) (mts : List (Bs × Bs)) (bs : List Blk) (u : View) (hbig : szB bs ≤ 100000) (hm : PrS u vm mts) (ha : BlkS u vb bs) :
    FnP Tryd.prog 18 [.agg #[vm, vb]] u fun r u' => LinksR u' mts bs r := by
  have hll := listB_len bs
  have hm2 := hm
  obtain ⟨mad, mcap, rfl, hm1⟩ := hm2
  refine FnP.intro [.cell 2 25, .tmp 3] Tryd.func18 rfl rfl rfl ?_
  intro w0 D hw0
  refine wc_seq ?_
  refine wc_region ?_
  refine rl_do rfl rfl ?_
  refine do_box trivial rfl (cs := [_, _]) rfl rfl rfl rfl ?_
  refine rl_do rfl rfl ?_
  refine do_alloc trivial Tryd.z25 rfl rfl rfl ?_
  refine rl_y (y_assign rfl rfl) rfl ?_
  refine rl_end (ρ' := [(1, _), (2, _)]) ⟨rfl, rfl, trivial⟩ ?_
  refine q_then ?_
  refine wc_seq ?_
  refine wc_draw Tryd.mixed rfl [(1, _)] ⟨rfl, trivial⟩ ?_
  refine ra_y (i := 0) rfl (by kernel_rfl) (by kernel_rfl) (by kernel_rfl) (np_then (np_fin)) (y_field_p rfl Tryd.f25' rfl (by decide) rfl) rfl ?_
  refine ra_y (i := 1) rfl (by kernel_rfl) (by kernel_rfl) (by kernel_rfl) (np_then (np_fin)) (y_load_p rfl Tryd.k23 rfl rfl rfl (vs := [_]) rfl rfl rfl) rfl ?_
  refine ra_y (i := 3) rfl (by kernel_rfl) (by kernel_rfl) (by kernel_rfl) (np_then (np_fin)) (y_field_p rfl Tryd.f25' rfl (by decide) rfl) rfl ?_
  refine ra_y (i := 4) rfl (by kernel_rfl) (by kernel_rfl) (by kernel_rfl) (np_then (np_fin)) (y_load_p rfl Tryd.k23 rfl rfl rfl (vs := [_]) rfl rfl rfl) rfl ?_
  refine ra_do (i := 2) rfl rfl (by kernel_rfl) ?_
  refine do_call (caps := []) ⟨rfl, trivial⟩ rfl rfl Tryd.c20 rfl (FnP.mono (list_fn _ vb bs u (Nat.le_refl _) (by omega) ha) ?_)
  rintro v uL hle0 hL hleL
  refine ra_do (i := 5) rfl rfl (by kernel_rfl) ?_
  refine do_call (caps := []) ⟨rfl, trivial⟩ rfl rfl Tryd.c38 rfl (FnP.mono (defined_fn _ (listB bs) (by omega) (szB bs) vb bs uL (Nat.le_refl _) hbig hL (ha.mono hleL)) ?_)
  rintro v uX hle0 hres hleX
  obtain ⟨bk, w, rfl, hbk, hwk, h1w⟩ : ∃ (bk : Bool) (w : Value), v = .tuple #[w, .bool bk] ∧ bk = lnkOk bs ∧ (bk = true → BlkS uX w (lnkDoc bs)) ∧ Value.oneCell' w = true := by
    rcases hres with ⟨h, w, rfl, hw⟩ | ⟨h, rfl⟩
    · exact ⟨true, w, rfl, h.symm, fun _ => hw, by obtain ⟨_, ⟨_, _, rfl, _⟩, _⟩ := hw; rfl⟩
    · exact ⟨false, _, rfl, h.symm, (fun h => by cases h), rfl⟩
  refine ra_y (i := 6) rfl (by kernel_rfl) (by kernel_rfl) (by kernel_rfl) (np_then (np_fin)) (y_move rfl rfl) rfl ?_
  refine ra_y (i := 7) rfl (by kernel_rfl) (by kernel_rfl) (by kernel_rfl) (np_then (np_fin)) (y_extract rfl rfl rfl) rfl ?_
  refine ra_y (i := 8) rfl (by kernel_rfl) (by kernel_rfl) (by kernel_rfl) (np_then (np_fin)) (y_extract rfl rfl rfl) rfl ?_
  refine ra_y (i := 9) rfl (by kernel_rfl) (by kernel_rfl) (by kernel_rfl) (np_then (np_fin)) (y_assign rfl rfl) rfl ?_
  refine ra_y (i := 10) rfl (by kernel_rfl) (by kernel_rfl) (by kernel_rfl) (np_then (np_fin)) (y_assign rfl rfl) rfl ?_
  refine ra_end (by kernel_rfl) (ρ' := [(1, _), (2, _), (4, _), (5, _)]) ⟨rfl, rfl, rfl, rfl, trivial⟩ ?_
  refine q_then ?_
  refine wc_seq ?_
  refine wc_seq ?_
  refine wc_region ?_
  refine rl_y (y_move rfl rfl) rfl ?_
  refine rl_y (y_not rfl rfl) rfl ?_
  refine rl_end (ρ' := [(1, _), (2, _), (4, _), (16, _)]) ⟨rfl, rfl, rfl, rfl, trivial⟩ ?_
  refine q_then ?_
  refine wc_cond rfl (fun hb2 => ?_) (fun hb2 => ?_)
  ·
    have h2 : bk = false := (by simpa using hb2)
    refine wc_seq ?_
    refine wc_region ?_
    refine rl_y (y_build rfl Tryd.f25' Tryd.z25 (ps := []) rfl (vs := [_, _]) rfl) rfl ?_
    refine rl_do rfl rfl ?_
    refine do_store_p trivial rfl Tryd.k25 rfl rfl rfl (vs := [_, _]) rfl rfl (by first | rfl | exact oneAll | exact oneAll2 | simp [Value.oneCell', str]) (Nat.le_of_ble_eq_true rfl) rfl ?_
    refine rl_y (y_assign rfl rfl) rfl ?_
    refine rl_end (ρ' := [(2, _), (3, _)]) ⟨rfl, rfl, trivial⟩ ?_
    refine q_then ?_
    refine wc_ret ?_
    refine q_then_ret ?_
    refine fin2 (.cell rfl rfl Tryd.k25 (cs := _) (vs := [_, _]) rfl rfl rfl) (.tmp rfl) ?_
    exact .inr ⟨by rw [← hbk, h2], rfl⟩
  ·
    have h2 : bk = true := (by simpa using hb2); have hw := hwk h2; have hw2 := hw; obtain ⟨wcs, ⟨wad, wcap, rfl, hw3⟩, hw4⟩ := hw2
    refine wc_skip ?_
    refine q_then ?_
    refine wc_seq ?_
    refine wc_region ?_
    refine rl_y (y_field_p rfl Tryd.f25' rfl (by decide) rfl) rfl ?_
    refine rl_y (y_load_p rfl Tryd.k22 rfl rfl rfl (vs := [_]) rfl rfl rfl) rfl ?_
    refine rl_y (y_move rfl rfl) rfl ?_
    refine rl_y (y_build rfl Tryd.f25' Tryd.z25 (ps := [(_, _), (_, _)]) rfl (vs := [_, _]) rfl) rfl ?_
    refine rl_do rfl rfl ?_
    refine do_store_p trivial rfl Tryd.k25 rfl rfl rfl (vs := [_, _]) rfl rfl (by first | rfl | exact oneAll | exact oneAll2 | simp [Value.oneCell', str]) (Nat.le_of_ble_eq_true rfl) rfl ?_
    refine rl_y (y_assign rfl rfl) rfl ?_
    refine rl_end (ρ' := [(2, _), (3, _)]) ⟨rfl, rfl, trivial⟩ ?_
    refine q_then ?_
    refine wc_ret ?_
    refine fin2 (.cell rfl rfl Tryd.k25 (cs := _) (vs := [_, _]) rfl rfl rfl) (.tmp rfl) ?_
    exact .inl ⟨by rw [← hbk, h2], _, _, rfl, hm.mono (hleL.trans hleX), hw⟩
end Go.Proofs.Ythkgcakpjknlbaa
namespace Go.Proofs.Ythkgcakpjknlbaa
open Go Go.Eng
set_option linter.unusedSimpArgs false
set_option linter.unusedVariables false
set_option maxRecDepth 4000
/-- the builder at b holds l; q: what its first field holds -/
abbrev bldL (b : Nat) (q : Option Addr) (ad : Option Addr) (cap : Nat) (l : Bs) : List PO := [(some b, .bt 117 [.pointer q, .slice ad l.length cap]), (none, .rwv (.slice ad l.length cap) 5 1 l.length (bytesC l))]
abbrev selfQ (b : Nat) : Option Addr := some ⟨b, 0, none⟩
def QOk (b : Nat) (q : Option Addr) : Prop := q = none ∨ q = selfQ b
theorem copyCheck0_fn (b : Nat) (v : Value) (hv : Value.oneCell' v = true) (u : View) :
  FnO Tryd.prog 94 [.pointer (some ⟨b, 0, none⟩)] u [(some b, .bt 117 [.pointer none, v])] fun r u' l' => r = .tuple #[] ∧ l' = [(some b, .bt 117 [.pointer (selfQ b), v])] := by
 refine FnO.intro [] Tryd.func94 rfl rfl rfl ?_
 intro w0 D hw0
 refine wc_pin 0 1000 _ 0 rfl rfl ?_
 refine wc_seq ?_
 refine wc_region ?_
 refine rl_y (y_move rfl rfl) rfl ?_
 refine rl_y (y_nilCheck_p rfl rfl) rfl ?_
 refine rl_y (y_field_p rfl Tryd.f117' rfl (by decide) rfl) rfl ?_
 refine rl_y (y_load_t rfl Tryd.k114 rfl rfl rfl (vs := [_]) rfl rfl rfl) rfl ?_
 refine rl_y (y_ptr_eql_nil (e := 117) rfl (by kernel_rfl) rfl rfl) rfl ?_
 refine rl_end (ρ' := [(0, _), (6, _)]) ⟨rfl, rfl, trivial⟩ ?_
 refine q_then ?_
 refine wc_cond_t rfl (rfl) ?_
 refine wc_region ?_
 refine rl_y (y_move rfl rfl) rfl ?_
 refine rl_y (y_move rfl rfl) rfl ?_
 refine rl_y (y_to_unsafe (t := 117) rfl (by kernel_rfl) (by kernel_rfl) Tryd.k117 rfl rfl rfl rfl rfl) rfl ?_
 refine rl_y (y_noEscape rfl ⟨_, Tryd.func102, by kernel_rfl, by kernel_rfl, by kernel_rfl, by kernel_rfl⟩ rfl) rfl ?_
 refine rl_y (y_from_unsafe (t := 117) rfl (by kernel_rfl) (by kernel_rfl) Tryd.k117 rfl rfl rfl (by kernel_rfl)) rfl ?_
 refine rl_y (y_nilCheck_p rfl rfl) rfl ?_
 refine rl_y (y_field_p rfl Tryd.f117' rfl (by decide) rfl) rfl ?_
 refine rl_do rfl rfl ?_
 refine do_store_t trivial rfl Tryd.k114 rfl rfl rfl (vs := [_]) rfl rfl rfl (Nat.le_of_ble_eq_true rfl) rfl ?_
 refine rl_end (ρ' := []) trivial ?_
 refine finO0n [1000]  rfl rfl ?_
 exact ⟨rfl, rfl⟩
theorem copyCheck1_fn (b : Nat) (v : Value) (u : View) :
  FnO Tryd.prog 94 [.pointer (some ⟨b, 0, none⟩)] u [(some b, .bt 117 [.pointer (selfQ b), v])] fun r u' l' => r = .tuple #[] ∧ l' = [(some b, .bt 117 [.pointer (selfQ b), v])] := by
 refine FnO.intro [] Tryd.func94 rfl rfl rfl ?_
 intro w0 D hw0
 refine wc_pin 0 1000 _ 0 rfl rfl ?_
 refine wc_seq ?_
 refine wc_region ?_
 refine rl_y (y_move rfl rfl) rfl ?_
 refine rl_y (y_nilCheck_p rfl rfl) rfl ?_
 refine rl_y (y_field_p rfl Tryd.f117' rfl (by decide) rfl) rfl ?_
 refine rl_y (y_load_t rfl Tryd.k114 rfl rfl rfl (vs := [_]) rfl rfl rfl) rfl ?_
 refine rl_y (y_ptr_eql_nil (e := 117) rfl (by kernel_rfl) rfl rfl) rfl ?_
 refine rl_end (ρ' := [(0, _), (6, _)]) ⟨rfl, rfl, trivial⟩ ?_
 refine q_then ?_
 refine wc_cond_f rfl (rfl) ?_
 refine wc_seq ?_
 refine wc_region ?_
 refine rl_y (y_move rfl rfl) rfl ?_
 refine rl_y (y_nilCheck_p rfl rfl) rfl ?_
 refine rl_y (y_field_p rfl Tryd.f117' rfl (by decide) rfl) rfl ?_
 refine rl_y (y_load_t rfl Tryd.k114 rfl rfl rfl (vs := [_]) rfl rfl rfl) rfl ?_
 refine rl_y (y_move rfl rfl) rfl ?_
 refine rl_y (y_ptr_neq_self (e := 117) rfl (by kernel_rfl) Tryd.k117 rfl rfl) rfl ?_
 refine rl_end (ρ' := [(19, _)]) ⟨rfl, trivial⟩ ?_
 refine q_then ?_
 refine wc_cond_f rfl (rfl) ?_
 refine wc_skip ?_
 refine finO0n [1000]  rfl rfl ?_
 exact ⟨rfl, rfl⟩
theorem copyCheck_fn (b : Nat) (q : Option Addr) (hq : QOk b q) (v : Value) (hv : Value.oneCell' v = true) (u : View) :
    FnO Tryd.prog 94 [.pointer (some ⟨b, 0, none⟩)] u [(some b, .bt 117 [.pointer q, v])] fun r u' l' => r = .tuple #[] ∧ l' = [(some b, .bt 117 [.pointer (selfQ b), v])] := by
  rcases hq with rfl | rfl
  · exact copyCheck0_fn b v hv u
  · exact copyCheck1_fn b v u
theorem writeString_fn (b : Nat) (q : Option Addr) (hq : QOk b q) (ad : Option Addr) (cap : Nat) (l s : Bs) (hl : l.length + s.length ≤ 1000000000) (u : View) :
  FnO Tryd.prog 81 [.pointer (some ⟨b, 0, none⟩), str s] u (bldL b q ad cap l) fun r u' l' => r = .tuple #[.int .i64 s.length, .nilIface] ∧ ∃ ad' cap', l' = bldL b (selfQ b) ad' cap' (l ++ s) := by
 refine FnO.intro [.tmp 4, .tmp 5] Tryd.func81 rfl rfl rfl ?_
 intro w0 D hw0
 refine wc_pin 0 1000 _ 0 rfl rfl ?_
 refine wc_seq ?_
 refine wc_region ?_
 refine rl_y (y_assign rfl rfl) rfl ?_
 refine rl_y (y_assign rfl rfl) rfl ?_
 refine rl_end (ρ' := [(0, _), (1, _)]) ⟨rfl, rfl, trivial⟩ ?_
 refine q_then ?_
 refine wc_seq ?_
 refine wc_region ?_
 refine rl_y (y_move rfl rfl) rfl ?_
 refine rl_do rfl rfl ?_
 refine do_call_o (caps := []) (ρ' := [(0, _), (1, _)]) [1000] [] trivial rfl rfl rfl Tryd.c94 rfl rfl ⟨rfl, rfl, trivial⟩ rfl rfl rfl (FnO.mono (copyCheck_fn b q hq (.slice ad l.length cap) rfl u) ?_)
 rintro v u1 l1 hle1 ⟨rfl, rfl⟩ -
 refine ⟨⟨fun _ h => h, trivial⟩, ?_⟩
 refine rl_end (ρ' := [(0, _), (1, _)]) ⟨rfl, rfl, trivial⟩ ?_
 refine q_then ?_
 refine wc_seq ?_
 refine wc_region ?_
 refine rl_y (y_move rfl rfl) rfl ?_
 refine rl_y (y_move rfl rfl) rfl ?_
 refine rl_y (y_nilCheck_p rfl rfl) rfl ?_
 refine rl_y (y_field_p rfl Tryd.f117' rfl (by decide) rfl) rfl ?_
 refine rl_y (y_load_t rfl Tryd.k115 rfl rfl rfl (vs := [_]) rfl rfl rfl) rfl ?_
 refine rl_y (y_move rfl rfl) rfl ?_
 refine rl_do rfl rfl ?_
 refine do_append_str 1001 trivial rfl rfl Tryd.s115 (by kernel_rfl) rfl (by kernel_rfl) rfl rfl rfl rfl rfl (by omega) ?_
 intro ad' cap'
 refine rl_y (y_nilCheck_p rfl rfl) rfl ?_
 refine rl_y (y_field_p rfl Tryd.f117' rfl (by decide) rfl) rfl ?_
 refine rl_do rfl rfl ?_
 refine do_store_t trivial rfl Tryd.k115 rfl rfl rfl (vs := [_]) rfl rfl rfl (Nat.le_of_ble_eq_true rfl) rfl ?_
 refine rl_end (ρ' := [(1, _)]) ⟨rfl, trivial⟩ ?_
 refine q_then ?_
 refine wc_seq ?_
 refine wc_region ?_
 refine rl_y (y_move rfl rfl) rfl ?_
 refine rl_y (y_len_str rfl rfl Tryd.str9 rfl) rfl ?_
 refine rl_y (y_assign rfl rfl) rfl ?_
 refine rl_y (y_assign rfl rfl) rfl ?_
 refine rl_end (ρ' := [(4, _), (5, _)]) ⟨rfl, rfl, trivial⟩ ?_
 refine q_then ?_
 refine wc_ret ?_
 refine finO2 [1000, 1001] (.tmp rfl) (.tmp rfl) rfl rfl ?_
 exact ⟨rfl, ad', cap', by simp [bldL, bytesC_append]; rfl⟩
theorem writeByte_fn (b : Nat) (q : Option Addr) (hq : QOk b q) (ad : Option Addr) (cap : Nat) (l : Bs) (c : UInt8) (hl : l.length + 1 ≤ 1000000000) (u : View) :
  FnO Tryd.prog 89 [.pointer (some ⟨b, 0, none⟩), .int .u8 c.toNat] u (bldL b q ad cap l) fun r u' l' => r = .nilIface ∧ ∃ ad' cap', l' = bldL b (selfQ b) ad' cap' (l ++ [c]) := by
 refine FnO.intro [.tmp 4] Tryd.func89 rfl rfl rfl ?_
 intro w0 D hw0
 refine wc_pin 0 1000 _ 0 rfl rfl ?_
 refine wc_seq ?_
 refine wc_region ?_
 refine rl_y (y_assign rfl rfl) rfl ?_
 refine rl_end (ρ' := [(0, _), (1, _)]) ⟨rfl, rfl, trivial⟩ ?_
 refine q_then ?_
 refine wc_seq ?_
 refine wc_region ?_
 refine rl_y (y_move rfl rfl) rfl ?_
 refine rl_do rfl rfl ?_
 refine do_call_o (caps := []) (ρ' := [(0, _), (1, _)]) [1000] [] trivial rfl rfl rfl Tryd.c94 rfl rfl ⟨rfl, rfl, trivial⟩ rfl rfl rfl (FnO.mono (copyCheck_fn b q hq (.slice ad l.length cap) rfl u) ?_)
 rintro v u1 l1 hle1 ⟨rfl, rfl⟩ -
 refine ⟨⟨fun _ h => h, trivial⟩, ?_⟩
 refine rl_end (ρ' := [(0, _), (1, _)]) ⟨rfl, rfl, trivial⟩ ?_
 refine q_then ?_
 refine wc_seq ?_
 refine wc_region ?_
 refine rl_y (y_move rfl rfl) rfl ?_
 refine rl_y (y_move rfl rfl) rfl ?_
 refine rl_y (y_nilCheck_p rfl rfl) rfl ?_
 refine rl_y (y_field_p rfl Tryd.f117' rfl (by decide) rfl) rfl ?_
 refine rl_y (y_load_t rfl Tryd.k115 rfl rfl rfl (vs := [_]) rfl rfl rfl) rfl ?_
 refine rl_y (y_move rfl rfl) rfl ?_
 refine rl_do rfl rfl ?_
 refine do_buildSlice trivial Tryd.s115 Tryd.z5 (ps := [(_, _)]) rfl (xs := [_]) rfl rfl rfl rfl rfl rfl rfl ?_
 refine rl_do rfl rfl ?_
 refine do_append_w_s 1001 trivial rfl rfl Tryd.s115 Tryd.z5 rfl rfl rfl rfl rfl rfl rfl (by omega) (by omega) rfl rfl ?_
 intro ad' cap'
 refine rl_y (y_nilCheck_p rfl rfl) rfl ?_
 refine rl_y (y_field_p rfl Tryd.f117' rfl (by decide) rfl) rfl ?_
 refine rl_do rfl rfl ?_
 refine do_store_t trivial rfl Tryd.k115 rfl rfl rfl (vs := [_]) rfl rfl rfl (Nat.le_of_ble_eq_true rfl) rfl ?_
 refine rl_end (ρ' := []) trivial ?_
 refine q_then ?_
 refine wc_seq ?_
 refine wc_region ?_
 refine rl_y (y_assign rfl rfl) rfl ?_
 refine rl_end (ρ' := [(4, _)]) ⟨rfl, trivial⟩ ?_
 refine q_then ?_
 refine wc_ret ?_
 refine finO1 [1000, 1001] (.tmp rfl) rfl rfl ?_
 exact ⟨rfl, ad', cap', by simp [bldL, bytesC_append]; exact ⟨rfl, rfl⟩⟩
theorem bldString_fn (b : Nat) (q : Option Addr) (ad : Option Addr) (cap : Nat) (l : Bs) (hl : l.length ≤ 1000000000) (u : View) :
  FnO Tryd.prog 78 [.pointer (some ⟨b, 0, none⟩)] u (bldL b q ad cap l) fun r u' l' => r = str l ∧ ∃ o2, l' = [(some b, .bt 117 [.pointer q, .slice ad l.length cap]), (none, o2)] := by
 refine FnO.intro [.tmp 2] Tryd.func78 rfl rfl rfl ?_
 intro w0 D hw0
 refine wc_pin 0 1000 _ 0 rfl rfl ?_
 refine wc_seq ?_
 refine wc_region ?_
 refine rl_y (y_assign rfl rfl) rfl ?_
 refine rl_end (ρ' := [(0, _)]) ⟨rfl, trivial⟩ ?_
 refine q_then ?_
 refine wc_seq ?_
 refine wc_draw Tryd.mixed rfl [(1000, _)] ⟨rfl, trivial⟩ ?_
 refine ra_y (i := 0) rfl (by kernel_rfl) (by kernel_rfl) (by kernel_rfl) (np_then (np_finO)) (y_move rfl rfl) rfl ?_
 refine ra_y (i := 1) rfl (by kernel_rfl) (by kernel_rfl) (by kernel_rfl) (np_then (np_finO)) (y_nilCheck_p rfl rfl) rfl ?_
 refine ra_y (i := 2) rfl (by kernel_rfl) (by kernel_rfl) (by kernel_rfl) (np_then (np_finO)) (y_field_p rfl Tryd.f117' rfl (by decide) rfl) rfl ?_
 refine ra_y (i := 3) rfl (by kernel_rfl) (by kernel_rfl) (by kernel_rfl) (np_then (np_finO)) (y_load_t rfl Tryd.k115 rfl rfl rfl (vs := [_]) rfl rfl rfl) rfl ?_
 refine ra_y (i := 5) rfl (by kernel_rfl) (by kernel_rfl) (by kernel_rfl) (np_then (np_finO)) (y_move rfl rfl) rfl ?_
 refine ra_y (i := 6) rfl (by kernel_rfl) (by kernel_rfl) (by kernel_rfl) (np_then (np_finO)) (y_nilCheck_p rfl rfl) rfl ?_
 refine ra_y (i := 7) rfl (by kernel_rfl) (by kernel_rfl) (by kernel_rfl) (np_then (np_finO)) (y_field_p rfl Tryd.f117' rfl (by decide) rfl) rfl ?_
 refine ra_y (i := 8) rfl (by kernel_rfl) (by kernel_rfl) (by kernel_rfl) (np_then (np_finO)) (y_load_t rfl Tryd.k115 rfl rfl rfl (vs := [_]) rfl rfl rfl) rfl ?_
 refine ra_y (i := 9) rfl (by kernel_rfl) (by kernel_rfl) (by kernel_rfl) (np_then (np_finO)) (y_len_v rfl rfl Tryd.s115 rfl) rfl ?_
 refine ra_do (i := 4) rfl rfl (by kernel_rfl) ?_
 refine do_sliceData (e := 5) 1001 ⟨rfl, trivial⟩ (by kernel_rfl) rfl rfl rfl ?_
 intro p7 hp7
 refine ra_do (i := 10) rfl rfl (by kernel_rfl) ?_
 refine do_unsafeString 1001 ⟨rfl, trivial⟩ rfl rfl (by kernel_rfl) (by kernel_rfl) rfl rfl rfl rfl hp7 rfl (by omega) rfl ?_
 refine ra_y (i := 11) rfl (by kernel_rfl) (by kernel_rfl) (by kernel_rfl) (np_then (np_finO)) (y_assign rfl rfl) rfl ?_
 refine ra_end (by kernel_rfl) (ρ' := [(2, _)]) ⟨rfl, trivial⟩ ?_
 refine q_then ?_
 refine wc_ret ?_
 refine finO1 [1000, 1001] (.tmp rfl) rfl rfl ?_
 exact ⟨rfl, _, rfl⟩
end Go.Proofs.Ythkgcakpjknlbaa
