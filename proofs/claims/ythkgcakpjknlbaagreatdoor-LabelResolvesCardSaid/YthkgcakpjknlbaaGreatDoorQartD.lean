/- Texts for a law, part 4: they walk the functions that the law reaches, and state what holds of them; without conditions beyond each theorem's own. -/
import Derived.Test.YthkgcakpjknlbaaGreatDoorQartC
import Derived.Shelf.Strings.Builder1
import Derived.Shelf.Strings.Builder2
import Derived.Shelf.Strings.OnBuilder
import Derived.Shelf.Strconv.Itoa0
import Derived.Shelf.Strconv.Itoa1
import Derived.Shelf.LaysM
import Derived.Shelf.Strconv.Itoa2
import Derived.Shelf.Strconv.Itoa3
import Derived.Ground.Names2Prog
import Derived.Shelf.Slices.Clone
import Derived.Ground.SlgnProg
import Derived.Shelf.SlicesE.Clone
import Derived.Test.YthkgcakpjknlbaaGreatDoorProg
import Derived.Below
import Derived.Deep.Draws
import Derived.Sort.Grow
namespace Go.Proofs.Ythkgcakpjknlbaa
open Go Go.Eng
set_option linter.unusedSimpArgs false
set_option linter.unusedVariables false
set_option maxRecDepth 4000
def GdB (R : RepI) (kp : Blk → Bool) (bs : List Blk) : Prop := ∀ x ∈ listB bs, R.Gd (lineOf x) ∧ (match x with | .mk _ _ _ _ _ _ a _ _ => a.classes.length ≤ 1000 ∧ a.pairs.length ≤ 1000)
theorem GdB.at {R : RepI} {kp : Blk → Bool} {bs : List Blk} (h : GdB R kp bs) {i : Nat} {k lv : Int} {inf t d ti : Bs} {a : DAttr} {line : List Inl} {kids : List Blk} (hg : bs[i]? = some (.mk k lv inf t d ti a line kids)) :
  R.Gd line ∧ a.classes.length ≤ 1000 ∧ a.pairs.length ≤ 1000 ∧ GdB R kp kids := by
 have hmem : ∀ y ∈ listb (.mk k lv inf t d ti a line kids), y ∈ listB bs := by
  intro y hy
  have : ∀ (bs : List Blk) (i : Nat), bs[i]? = some (.mk k lv inf t d ti a line kids) → y ∈ listB bs := by
   intro bs
   induction bs with
   | nil => intro i h; simp at h
   | cons b bs ih =>
    intro i h
    rw [listB, List.mem_append]
    cases i with
    | zero => simp at h; subst h; exact .inl hy
    | succ i => exact .inr (ih i (by simpa using h))
  exact this bs i hg
 have h0 := h _ (hmem _ (by rw [listb]; exact List.mem_cons_self))
 exact ⟨h0.1, h0.2.1, h0.2.2, fun y hy => h y (hmem y (by rw [listb]; exact List.mem_cons_of_mem _ hy))⟩
def CbK (kp : Blk → Bool) (kf : FuncId) (kc : List Value) : Prop := canCall Tryz.prog kf = true ∧ ∀ u x cs, BlkC u x cs → FnP Tryz.prog kf (.agg cs.toArray :: kc) u fun r _ => r = .bool (kp x)
theorem rebb_eq (kp : Blk → Bool) (g : List Inl → List Inl) (k lv : Int) (inf t d ti : Bs) (a : DAttr) (line : List Inl) (kids : List Blk) : rebb kp g (.mk k lv inf t d ti a line kids) = if kp (.mk k lv inf t d ti a line kids) = true then [.mk k lv inf t d ti a (g line) (rebB kp g kids)] else [] := by rw [rebb]
theorem evRb_eq (kp : Blk → Bool) (g : List Inl → List Inl) (k lv : Int) (inf t d ti : Bs) (a : DAttr) (line : List Inl) (kids : List Blk) : evRb kp g (.mk k lv inf t d ti a line kids) = if kp (.mk k lv inf t d ti a line kids) = true then g line ++ evRB kp g kids else [] := by rw [evRb]
set_option maxHeartbeats 8000000 in
theorem rebuild_fn (R : RepI) (kp : Blk → Bool) (kf : FuncId) (kc : List Value) (hK : CbK kp kf kc) (f : FuncId) (caps : List Value) (b0 : Nat) (Y : YI) (hM : ∀ u u' pre o, VLe u u' → Y u pre o → Y u' pre o) (hcF : canCall Tryz.prog f = true) (n : Nat) :
  ∀ (v : Value) (xs : List Blk) (pre : List Inl) (o : OO) (u : View), szB xs ≤ n → szB xs ≤ 100000 → GdB R kp xs → BlkS u v xs → CbR R (.func (.func f) #[] caps.toArray) b0 u Y → Y u pre o →
   FnO Tryz.prog 27 [v, .func (.func kf) #[] kc.toArray, .func (.func f) #[] caps.toArray] u [(some b0, o)] fun r u' l' => BlkS u' r (rebB kp R.g xs) ∧ ∃ o', l' = [(some b0, o')] ∧ Y u' (pre ++ evRB kp R.ev xs) o' := by
 induction n using Nat.strongRecOn with
 | _ n ih =>
 intro v xs pre o u hsz hbig hgd ha hR hY
 have hlx := len_szB xs
 obtain ⟨hcK, hK2⟩ := hK
 obtain ⟨cs, ⟨ad, cap, rfl, h1⟩, hc1⟩ := ha
 refine FnO.intro [.tmp 6] Tryz.func27 rfl rfl rfl ?_
 intro w0 D hw0
 refine wc_seq ?_
 refine wc_region ?_
 refine ya rfl rfl ?_
 refine rl_end (ρ' := [(0, _), (1, _), (2, _)]) ⟨rfl, rfl, rfl, trivial⟩ ?_
 refine q_then ?_
 refine wc_seq ?_
 refine wc_region ?_
 refine ya rfl rfl ?_
 refine rl_own_nil 7 507 59 11 rfl rfl rfl ?_
 refine rl_end (ρ' := [(0, _), (1, _), (2, _), (7, _)]) ⟨rfl, rfl, rfl, rfl, trivial⟩ ?_
 refine q_then ?_
 refine wc_seq ?_
 refine wc_seq ?_
 refine wc_region ?_
 refine ym rfl rfl ?_
 refine rl_y (y_len_v rfl rfl Tryz.s23 rfl) rfl ?_
 refine ym rfl rfl ?_
 refine rl_end (ρ' := [(1, _), (2, _), (7, _), (10, _), (11, _), (12, _)]) ⟨rfl, rfl, rfl, rfl, rfl, rfl, trivial⟩ ?_
 refine q_then ?_
 refine wc_block ?_
 refine wc_loop (fun m ρ σ u' => ∃ i : Nat, i + m = xs.length ∧ VLe u u' ∧ ∃ (acc : List Value) (oi : OO), σ = [(507, (none, .row 59 11 (rebB kp R.g (xs.take i)).length acc)), (1000, (some b0, oi))] ∧ ρ = [(1, .v (.func (.func kf) #[] kc.toArray)), (2, .v (.func (.func f) #[] caps.toArray)), (7, .s 507), (10, .v (.slice ad xs.length cap)), (11, .v (.int .i64 xs.length)), (12, .v (.int .i64 i))] ∧ (BlksC u' (rebB kp R.g (xs.take i)) acc ∧ Y u' (pre ++ evRB kp R.ev (xs.take i)) oi)) (xs.length) ?_ ?_
 ·
  refine ⟨[(1, _), (2, _), (7, _), (10, _), (11, _), (12, _)], [(507, _), (1000, _)], ⟨rfl, rfl, rfl, rfl, rfl, rfl, trivial⟩, ⟨rfl, rfl, trivial⟩, 0, by omega, VLe.refl _, [], o, (by simp [rebB]), rfl, ?_⟩
  exact ⟨by rw [List.take_zero, rebB]; exact BlksC.nil, by rw [List.take_zero, evRB, List.append_nil]; exact hY⟩
 ·
  rintro m ρ σ u' ⟨i, hi3, hle3, acc, oi, rfl, rfl, ⟨hacc, hYi⟩⟩
  refine wc_seq ?_
  refine wc_region ?_
  refine rl_y (y_lss rfl rfl rfl) rfl ?_
  refine rl_end (ρ' := [(1, _), (2, _), (7, _), (10, _), (11, _), (12, _), (13, _)]) ⟨rfl, rfl, rfl, rfl, rfl, rfl, rfl, trivial⟩ ?_
  refine q_then ?_
  refine wc_seq ?_
  refine wc_cond rfl (fun hb3 => ?_) (fun hb3 => ?_)
  ·
   have hlt : i < xs.length := by have := of_decide_eq_true hb3; omega
   have h1 := h1.mono hle3
   obtain ⟨k, lv, inf, t, d, ti, a, line, kids, vc, vp, vl, vk, hg, hcut1, s1, s2, s3, s4, hok⟩ := (hc1.mono hle3).at hlt
   have hx := (hc1.mono hle3).get i _ hg
   rw [hcut1] at hx
   have oneAll := hx.one
   obtain ⟨hgl, hca, hcp, hgk⟩ := hgd.at hg
   have hbs := rebB_take kp R.g hg
   have hes := evRB_take kp R.ev hg
   rw [rebb_eq] at hbs
   rw [evRb_eq] at hes
   have hszk := szB_kids hg
   have hrl := rebB_len kp R.g (xs.take i)
   have hrk := rebB_len kp R.g kids
   have htl : (xs.take i).length ≤ i := by simp; omega
   have hgll := R.gl line
   have hlll := R.len line hgl
   have hkl := len_szB kids
   refine wc_skip ?_
   refine q_then ?_
   refine wc_seq ?_
   refine wc_block ?_
   refine wc_seq ?_
   refine wc_region ?_
   refine rl_y (y_index_e rfl Tryz.s23 rfl rfl (by assumption) (by first | rfl | omega) (by omega)) rfl ?_
   refine rl_y (y_load_el rfl Tryz.k59 rfl (by assumption) (by omega) (by assumption) (vs := [_, _, _, _, _, _, _, _, _, _, _]) rfl rfl rfl rfl) rfl ?_
   refine rl_do rfl rfl ?_
   refine do_alloc trivial Tryz.z59 rfl rfl rfl ?_
   refine rl_do rfl rfl ?_
   refine do_store_p trivial rfl Tryz.k59 rfl rfl rfl (vs := [_, _, _, _, _, _, _, _, _, _, _]) rfl rfl (by first | rfl | assumption | simp [Value.oneCell', str]) (Nat.le_of_ble_eq_true rfl) rfl ?_
   refine rl_end (ρ' := [(1, _), (2, _), (7, _), (9, _), (10, _), (11, _), (12, _)]) ⟨rfl, rfl, rfl, rfl, rfl, rfl, rfl, trivial⟩ ?_
   refine q_then ?_
   refine wc_seq ?_
   refine wc_seq ?_
   refine wc_region ?_
   refine ym rfl rfl ?_
   refine rl_y (y_load_p rfl Tryz.k59 rfl rfl rfl (vs := [_, _, _, _, _, _, _, _, _, _, _]) rfl rfl rfl) rfl ?_
   refine rl_do rfl rfl ?_
   refine do_call_f (caps := kc) trivial rfl rfl hcK rfl (FnP.mono (hK2 u' _ _ hx) ?_)
   rintro v u1 hle1 rfl
   refine rl_y (y_not rfl rfl) rfl ?_
   refine rl_end (ρ' := [(1, _), (2, _), (7, _), (9, _), (10, _), (11, _), (12, _), (19, _)]) ⟨rfl, rfl, rfl, rfl, rfl, rfl, rfl, rfl, trivial⟩ ?_
   refine q_then ?_
   refine wc_cond rfl (fun hb5 => ?_) (fun hb5 => ?_)
   ·
    have h5 : ¬ kp (.mk k lv inf t d ti a line kids) = true := by simpa using hb5
    rw [if_neg h5, List.append_nil] at hbs hes
    refine wc_exit ?_
    refine q_then_exit ?_
    refine q_block_hit ?_
    refine q_then ?_
    refine wc_region ?_
    refine rl_y (y_add rfl rfl rfl (wrap64_id (by omega))) rfl ?_
    refine ym rfl rfl ?_
    refine rl_end (ρ' := [(1, _), (2, _), (7, _), (10, _), (11, _), (12, _)]) ⟨rfl, rfl, rfl, rfl, rfl, rfl, trivial⟩ ?_
    refine q_thenK ?_
    refine ⟨m - 1, [(1, _), (2, _), (7, _), (10, _), (11, _), (12, _)], [(507, _), (1000, _)], by omega, ⟨rfl, rfl, rfl, rfl, rfl, rfl, trivial⟩, ⟨rfl, rfl, trivial⟩, i + 1, by omega, (by first | exact hle3.trans hlc7 | exact hle3), _, _, (by first | (rw [hbs, List.length_append]; rfl) | (rw [hbs])), (by first | rfl | simp), ?_⟩
    first
     | (refine ⟨?_, ?_⟩; rw [hbs]; exact (hacc.mono hlc7).append (BlksC.one hx7); exact hY7)
     | (refine ⟨?_, ?_⟩; rw [hbs]; exact hacc; rw [hes]; exact hYi)
   ·
    have h5 : kp (.mk k lv inf t d ti a line kids) = true := by simpa using hb5
    rw [if_pos h5] at hbs hes
    refine wc_skip ?_
    refine q_then ?_
    refine wc_cut (fun ρ σ uc7 => ∃ (w1 w2 : Value) (w3 : Option Addr) (w4 : Nat) (w5 : Option Addr) (w6 : Nat) (o7 : OO), VLe u' uc7 ∧ σ = [(9, (none, .box (blkV k lv inf t d ti a.id w1 w2 (.slice w3 (R.g line).length w4) (.slice w5 (rebB kp R.g kids).length w6)))), (507, (none, .row 59 11 (rebB kp R.g (xs.take i)).length acc)), (1000, (some b0, o7))] ∧ ρ = [(1, .v (.func (.func kf) #[] kc.toArray)), (2, .v (.func (.func f) #[] caps.toArray)), (7, .s 507), (9, .p 9 0), (10, .v (.slice ad xs.length cap)), (11, .v (.int .i64 xs.length)), (12, .v (.int .i64 i))] ∧ (BlkC uc7 (.mk k lv inf t d ti a (R.g line) (rebB kp R.g kids)) (blkV k lv inf t d ti a.id w1 w2 (.slice w3 (R.g line).length w4) (.slice w5 (rebB kp R.g kids).length w6)) ∧ Y uc7 (pre ++ evRB kp R.ev (xs.take (i + 1))) o7)) ?_ ?_
    ·
     refine wc_draw Tryz.mixed rfl [] trivial ?_
     refine ra_y (i := 0) rfl (by kernel_rfl) (by kernel_rfl) (by kernel_rfl) (np_then (np_block (np_then (np_then (np_block (np_then (np_finO))))))) (y_field_p rfl Tryz.f59' rfl (by decide) rfl) rfl ?_
     refine ra_y (i := 3) rfl (by kernel_rfl) (by kernel_rfl) (by kernel_rfl) (np_then (np_block (np_then (np_then (np_block (np_then (np_finO))))))) (y_field_p rfl Tryz.f59' rfl (by decide) rfl) rfl ?_
     refine ra_y (i := 5) rfl (by kernel_rfl) (by kernel_rfl) (by kernel_rfl) (np_then (np_block (np_then (np_then (np_block (np_then (np_finO))))))) (y_move rfl rfl) rfl ?_
     refine ra_y (i := 7) rfl (by kernel_rfl) (by kernel_rfl) (by kernel_rfl) (np_then (np_block (np_then (np_then (np_block (np_then (np_finO))))))) (y_field_p rfl Tryz.f59' rfl (by decide) rfl) rfl ?_
     refine ra_y (i := 9) rfl (by kernel_rfl) (by kernel_rfl) (by kernel_rfl) (np_then (np_block (np_then (np_then (np_block (np_then (np_finO))))))) (y_move rfl rfl) rfl ?_
     refine ra_y (i := 10) rfl (by kernel_rfl) (by kernel_rfl) (by kernel_rfl) (np_then (np_block (np_then (np_then (np_block (np_then (np_finO))))))) (y_move rfl rfl) rfl ?_
     refine ra_all (is := [1, 4, 8]) (by kernel_rfl) rfl ?_
     refine raall_cons rfl rfl ?_ ?_
     ·
      refine do_y (y_load_p rfl Tryz.k39 rfl rfl rfl (vs := [_, _, _]) rfl rfl rfl) rfl ?_
      refine ra_all (is := [2, 4, 8]) (by kernel_rfl) rfl ?_
      refine raall_cons rfl rfl ?_ ?_
      ·
       refine do_call (caps := []) trivial rfl rfl Tryz.c59 rfl (FnP.mono (labCopyAttr_fn a _ _ _ (by omega) (by omega) s1 s2) ?_)
       rintro v uA hle0 ⟨vc3, vp3, rfl, ⟨ad5, cap5, rfl, w1⟩, ⟨ad6, cap6, rfl, w2⟩⟩ hleA
       refine ra_all (is := [4, 8]) (by kernel_rfl) rfl ?_
       refine raall_cons rfl rfl ?_ ?_
       ·
        refine do_y (y_load_p rfl Tryz.k35 rfl rfl rfl (vs := [_]) rfl rfl rfl) rfl ?_
        refine ra_all (is := [6, 8]) (by kernel_rfl) rfl ?_
        refine raall_cons rfl rfl ?_ ?_
        ·
         refine do_call_o (caps := []) (ρ' := [(1, _), (2, _), (7, _), (9, _), (10, _), (11, _), (12, _), (22, _), (27, _), (29, _), (30, _)]) [1000] [] trivial rfl rfl rfl Tryz.c60 rfl rfl ⟨rfl, rfl, rfl, rfl, rfl, rfl, rfl, rfl, rfl, rfl, rfl, trivial⟩ rfl rfl rfl (FnO.mono (rebLine_fn R f caps b0 Y hM hcF (R.mm line) vl line _ oi uA (Nat.le_refl _) hgl (s3.mono hleA) ((hR.mono hle3).mono hleA) (hM _ _ _ _ hleA hYi)) ?_)
         rintro v uK l1 hleK ⟨⟨lcs, ⟨lad, lcap, rfl, hl1⟩, hl2⟩, oK, rfl, hYK⟩ -
         refine ⟨⟨fun _ h => h, trivial⟩, ?_⟩
         refine ra_do (i := 8) rfl rfl (by kernel_rfl) ?_
         refine do_y (y_load_p rfl Tryz.k23 rfl rfl rfl (vs := [_]) rfl rfl rfl) rfl ?_
         refine ra_y (i := 12) rfl (by kernel_rfl) (by kernel_rfl) (by kernel_rfl) (np_then (np_block (np_then (np_then (np_block (np_then (np_finO))))))) (y_field_p rfl Tryz.f59' rfl (by decide) rfl) rfl ?_
         refine ra_do (i := 11) rfl rfl (by kernel_rfl) ?_
         refine do_call_o (caps := []) (ρ' := [(1, _), (2, _), (7, _), (9, _), (10, _), (11, _), (12, _), (22, _), (26, _), (32, _)]) [1000] [] trivial rfl rfl rfl Tryz.c27 rfl rfl ⟨rfl, rfl, rfl, rfl, rfl, rfl, rfl, rfl, rfl, rfl, trivial⟩ rfl rfl rfl (FnO.mono (ih (szB kids) (by omega) vk kids _ oK uK (Nat.le_refl _) (by omega) hgk ((s4.mono hleA).mono hleK) (((hR.mono hle3).mono hleA).mono hleK) hYK) ?_)
         rintro v uQ l1 hleQ ⟨⟨kcs, ⟨kad, kcap, rfl, hk1⟩, hk2⟩, oQ, rfl, hYQ⟩ -
         refine ⟨⟨fun _ h => h, trivial⟩, ?_⟩
         refine ra_do (i := 13) rfl rfl (by kernel_rfl) ?_
         refine do_store_p trivial rfl Tryz.k39 rfl rfl rfl (vs := [_, _, _]) rfl rfl (by first | rfl | assumption | simp [Value.oneCell', str]) (Nat.le_of_ble_eq_true rfl) rfl ?_
         refine ra_y (i := 14) rfl (by kernel_rfl) (by kernel_rfl) (by kernel_rfl) (np_then (np_block (np_then (np_then (np_block (np_then (np_finO))))))) (y_field_p rfl Tryz.f59' rfl (by decide) rfl) rfl ?_
         refine ra_do (i := 15) rfl rfl (by kernel_rfl) ?_
         refine do_store_p trivial rfl Tryz.k35 rfl rfl rfl (vs := [_]) rfl rfl (by first | rfl | assumption | simp [Value.oneCell', str]) (Nat.le_of_ble_eq_true rfl) rfl ?_
         refine ra_y (i := 16) rfl (by kernel_rfl) (by kernel_rfl) (by kernel_rfl) (np_then (np_block (np_then (np_then (np_block (np_then (np_finO))))))) (y_field_p rfl Tryz.f59' rfl (by decide) rfl) rfl ?_
         refine ra_do (i := 17) rfl rfl (by kernel_rfl) ?_
         refine do_store_p trivial rfl Tryz.k23 rfl rfl rfl (vs := [_]) rfl rfl (by first | rfl | assumption | simp [Value.oneCell', str]) (Nat.le_of_ble_eq_true rfl) rfl ?_
         refine ra_end (by kernel_rfl) (ρ' := [(1, _), (2, _), (7, _), (9, _), (10, _), (11, _), (12, _)]) ⟨rfl, rfl, rfl, rfl, rfl, rfl, rfl, trivial⟩ ?_
         refine q_thenK ?_
         refine ⟨[(1, _), (2, _), (7, _), (9, _), (10, _), (11, _), (12, _)], [(9, _), (507, _), (1000, _)], ⟨rfl, rfl, rfl, rfl, rfl, rfl, rfl, trivial⟩, ⟨rfl, rfl, rfl, trivial⟩, _, _, lad, lcap, kad, kcap, oQ, (hleA.trans (hleK.trans hleQ)), (by first | rfl | simp), (by first | rfl | (simp only [List.cons.injEq, Prod.mk.injEq, SV.v.injEq, Value.int.injEq, true_and, and_true]; omega) | simp), ?_⟩
         refine ⟨BlkC.mk' (StrS.mono ⟨_, _, rfl, w1⟩ (hleK.trans hleQ)) (PrS.mono ⟨_, _, rfl, w2⟩ (hleK.trans hleQ)) (InlS.mono ⟨lcs, ⟨lad, lcap, rfl, hl1⟩, hl2⟩ hleQ) ⟨kcs, ⟨kad, kcap, rfl, hk1⟩, hk2⟩ (by obtain ⟨o1, o2, o3, o4, o5, o6, o7, o8, o9⟩ := hok; exact ⟨o1, o2, o3, o4, o5, o6, o7, by omega, by omega⟩), by rw [hes]; simpa [List.append_assoc] using hYQ⟩
        refine raall_cons rfl rfl ?_ ?_
        ·
         refine do_y (y_load_p rfl Tryz.k23 rfl rfl rfl (vs := [_]) rfl rfl rfl) rfl ?_
         refine ra_y (i := 12) rfl (by kernel_rfl) (by kernel_rfl) (by kernel_rfl) (np_then (np_block (np_then (np_then (np_block (np_then (np_finO))))))) (y_field_p rfl Tryz.f59' rfl (by decide) rfl) rfl ?_
         refine ra_do (i := 6) rfl rfl (by kernel_rfl) ?_
         refine do_call_o (caps := []) (ρ' := [(1, _), (2, _), (7, _), (9, _), (10, _), (11, _), (12, _), (22, _), (28, _), (29, _), (30, _), (32, _)]) [1000] [] trivial rfl rfl rfl Tryz.c60 rfl rfl ⟨rfl, rfl, rfl, rfl, rfl, rfl, rfl, rfl, rfl, rfl, rfl, rfl, trivial⟩ rfl rfl rfl (FnO.mono (rebLine_fn R f caps b0 Y hM hcF (R.mm line) vl line _ oi uA (Nat.le_refl _) hgl (s3.mono hleA) ((hR.mono hle3).mono hleA) (hM _ _ _ _ hleA hYi)) ?_)
         rintro v uK l1 hleK ⟨⟨lcs, ⟨lad, lcap, rfl, hl1⟩, hl2⟩, oK, rfl, hYK⟩ -
         refine ⟨⟨fun _ h => h, trivial⟩, ?_⟩
         refine ra_do (i := 11) rfl rfl (by kernel_rfl) ?_
         refine do_call_o (caps := []) (ρ' := [(1, _), (2, _), (7, _), (9, _), (10, _), (11, _), (12, _), (22, _), (26, _), (32, _)]) [1000] [] trivial rfl rfl rfl Tryz.c27 rfl rfl ⟨rfl, rfl, rfl, rfl, rfl, rfl, rfl, rfl, rfl, rfl, trivial⟩ rfl rfl rfl (FnO.mono (ih (szB kids) (by omega) vk kids _ oK uK (Nat.le_refl _) (by omega) hgk ((s4.mono hleA).mono hleK) (((hR.mono hle3).mono hleA).mono hleK) hYK) ?_)
         rintro v uQ l1 hleQ ⟨⟨kcs, ⟨kad, kcap, rfl, hk1⟩, hk2⟩, oQ, rfl, hYQ⟩ -
         refine ⟨⟨fun _ h => h, trivial⟩, ?_⟩
         refine ra_do (i := 13) rfl rfl (by kernel_rfl) ?_
         refine do_store_p trivial rfl Tryz.k39 rfl rfl rfl (vs := [_, _, _]) rfl rfl (by first | rfl | assumption | simp [Value.oneCell', str]) (Nat.le_of_ble_eq_true rfl) rfl ?_
         refine ra_y (i := 14) rfl (by kernel_rfl) (by kernel_rfl) (by kernel_rfl) (np_then (np_block (np_then (np_then (np_block (np_then (np_finO))))))) (y_field_p rfl Tryz.f59' rfl (by decide) rfl) rfl ?_
         refine ra_do (i := 15) rfl rfl (by kernel_rfl) ?_
         refine do_store_p trivial rfl Tryz.k35 rfl rfl rfl (vs := [_]) rfl rfl (by first | rfl | assumption | simp [Value.oneCell', str]) (Nat.le_of_ble_eq_true rfl) rfl ?_
         refine ra_y (i := 16) rfl (by kernel_rfl) (by kernel_rfl) (by kernel_rfl) (np_then (np_block (np_then (np_then (np_block (np_then (np_finO))))))) (y_field_p rfl Tryz.f59' rfl (by decide) rfl) rfl ?_
         refine ra_do (i := 17) rfl rfl (by kernel_rfl) ?_
         refine do_store_p trivial rfl Tryz.k23 rfl rfl rfl (vs := [_]) rfl rfl (by first | rfl | assumption | simp [Value.oneCell', str]) (Nat.le_of_ble_eq_true rfl) rfl ?_
         refine ra_end (by kernel_rfl) (ρ' := [(1, _), (2, _), (7, _), (9, _), (10, _), (11, _), (12, _)]) ⟨rfl, rfl, rfl, rfl, rfl, rfl, rfl, trivial⟩ ?_
         refine q_thenK ?_
         refine ⟨[(1, _), (2, _), (7, _), (9, _), (10, _), (11, _), (12, _)], [(9, _), (507, _), (1000, _)], ⟨rfl, rfl, rfl, rfl, rfl, rfl, rfl, trivial⟩, ⟨rfl, rfl, rfl, trivial⟩, _, _, lad, lcap, kad, kcap, oQ, (hleA.trans (hleK.trans hleQ)), (by first | rfl | simp), (by first | rfl | (simp only [List.cons.injEq, Prod.mk.injEq, SV.v.injEq, Value.int.injEq, true_and, and_true]; omega) | simp), ?_⟩
         refine ⟨BlkC.mk' (StrS.mono ⟨_, _, rfl, w1⟩ (hleK.trans hleQ)) (PrS.mono ⟨_, _, rfl, w2⟩ (hleK.trans hleQ)) (InlS.mono ⟨lcs, ⟨lad, lcap, rfl, hl1⟩, hl2⟩ hleQ) ⟨kcs, ⟨kad, kcap, rfl, hk1⟩, hk2⟩ (by obtain ⟨o1, o2, o3, o4, o5, o6, o7, o8, o9⟩ := hok; exact ⟨o1, o2, o3, o4, o5, o6, o7, by omega, by omega⟩), by rw [hes]; simpa [List.append_assoc] using hYQ⟩
        exact raall_nil
       refine raall_cons rfl rfl ?_ ?_
       ·
        refine do_y (y_load_p rfl Tryz.k23 rfl rfl rfl (vs := [_]) rfl rfl rfl) rfl ?_
        refine ra_do (i := 4) rfl rfl (by kernel_rfl) ?_
        refine do_y (y_load_p rfl Tryz.k35 rfl rfl rfl (vs := [_]) rfl rfl rfl) rfl ?_
        refine ra_y (i := 12) rfl (by kernel_rfl) (by kernel_rfl) (by kernel_rfl) (np_then (np_block (np_then (np_then (np_block (np_then (np_finO))))))) (y_field_p rfl Tryz.f59' rfl (by decide) rfl) rfl ?_
        refine ra_do (i := 6) rfl rfl (by kernel_rfl) ?_
        refine do_call_o (caps := []) (ρ' := [(1, _), (2, _), (7, _), (9, _), (10, _), (11, _), (12, _), (22, _), (28, _), (29, _), (30, _), (32, _)]) [1000] [] trivial rfl rfl rfl Tryz.c60 rfl rfl ⟨rfl, rfl, rfl, rfl, rfl, rfl, rfl, rfl, rfl, rfl, rfl, rfl, trivial⟩ rfl rfl rfl (FnO.mono (rebLine_fn R f caps b0 Y hM hcF (R.mm line) vl line _ oi uA (Nat.le_refl _) hgl (s3.mono hleA) ((hR.mono hle3).mono hleA) (hM _ _ _ _ hleA hYi)) ?_)
        rintro v uK l1 hleK ⟨⟨lcs, ⟨lad, lcap, rfl, hl1⟩, hl2⟩, oK, rfl, hYK⟩ -
        refine ⟨⟨fun _ h => h, trivial⟩, ?_⟩
        refine ra_do (i := 11) rfl rfl (by kernel_rfl) ?_
        refine do_call_o (caps := []) (ρ' := [(1, _), (2, _), (7, _), (9, _), (10, _), (11, _), (12, _), (22, _), (26, _), (32, _)]) [1000] [] trivial rfl rfl rfl Tryz.c27 rfl rfl ⟨rfl, rfl, rfl, rfl, rfl, rfl, rfl, rfl, rfl, rfl, trivial⟩ rfl rfl rfl (FnO.mono (ih (szB kids) (by omega) vk kids _ oK uK (Nat.le_refl _) (by omega) hgk ((s4.mono hleA).mono hleK) (((hR.mono hle3).mono hleA).mono hleK) hYK) ?_)
        rintro v uQ l1 hleQ ⟨⟨kcs, ⟨kad, kcap, rfl, hk1⟩, hk2⟩, oQ, rfl, hYQ⟩ -
        refine ⟨⟨fun _ h => h, trivial⟩, ?_⟩
        refine ra_do (i := 13) rfl rfl (by kernel_rfl) ?_
        refine do_store_p trivial rfl Tryz.k39 rfl rfl rfl (vs := [_, _, _]) rfl rfl (by first | rfl | assumption | simp [Value.oneCell', str]) (Nat.le_of_ble_eq_true rfl) rfl ?_
        refine ra_y (i := 14) rfl (by kernel_rfl) (by kernel_rfl) (by kernel_rfl) (np_then (np_block (np_then (np_then (np_block (np_then (np_finO))))))) (y_field_p rfl Tryz.f59' rfl (by decide) rfl) rfl ?_
        refine ra_do (i := 15) rfl rfl (by kernel_rfl) ?_
        refine do_store_p trivial rfl Tryz.k35 rfl rfl rfl (vs := [_]) rfl rfl (by first | rfl | assumption | simp [Value.oneCell', str]) (Nat.le_of_ble_eq_true rfl) rfl ?_
        refine ra_y (i := 16) rfl (by kernel_rfl) (by kernel_rfl) (by kernel_rfl) (np_then (np_block (np_then (np_then (np_block (np_then (np_finO))))))) (y_field_p rfl Tryz.f59' rfl (by decide) rfl) rfl ?_
        refine ra_do (i := 17) rfl rfl (by kernel_rfl) ?_
        refine do_store_p trivial rfl Tryz.k23 rfl rfl rfl (vs := [_]) rfl rfl (by first | rfl | assumption | simp [Value.oneCell', str]) (Nat.le_of_ble_eq_true rfl) rfl ?_
        refine ra_end (by kernel_rfl) (ρ' := [(1, _), (2, _), (7, _), (9, _), (10, _), (11, _), (12, _)]) ⟨rfl, rfl, rfl, rfl, rfl, rfl, rfl, trivial⟩ ?_
        refine q_thenK ?_
        refine ⟨[(1, _), (2, _), (7, _), (9, _), (10, _), (11, _), (12, _)], [(9, _), (507, _), (1000, _)], ⟨rfl, rfl, rfl, rfl, rfl, rfl, rfl, trivial⟩, ⟨rfl, rfl, rfl, trivial⟩, _, _, lad, lcap, kad, kcap, oQ, (hleA.trans (hleK.trans hleQ)), (by first | rfl | simp), (by first | rfl | (simp only [List.cons.injEq, Prod.mk.injEq, SV.v.injEq, Value.int.injEq, true_and, and_true]; omega) | simp), ?_⟩
        refine ⟨BlkC.mk' (StrS.mono ⟨_, _, rfl, w1⟩ (hleK.trans hleQ)) (PrS.mono ⟨_, _, rfl, w2⟩ (hleK.trans hleQ)) (InlS.mono ⟨lcs, ⟨lad, lcap, rfl, hl1⟩, hl2⟩ hleQ) ⟨kcs, ⟨kad, kcap, rfl, hk1⟩, hk2⟩ (by obtain ⟨o1, o2, o3, o4, o5, o6, o7, o8, o9⟩ := hok; exact ⟨o1, o2, o3, o4, o5, o6, o7, by omega, by omega⟩), by rw [hes]; simpa [List.append_assoc] using hYQ⟩
       exact raall_nil
      refine raall_cons rfl rfl ?_ ?_
      ·
       refine do_y (y_load_p rfl Tryz.k35 rfl rfl rfl (vs := [_]) rfl rfl rfl) rfl ?_
       refine ra_all (is := [2, 8]) (by kernel_rfl) rfl ?_
       refine raall_cons rfl rfl ?_ ?_
       ·
        refine do_call (caps := []) trivial rfl rfl Tryz.c59 rfl (FnP.mono (labCopyAttr_fn a _ _ _ (by omega) (by omega) s1 s2) ?_)
        rintro v uA hle0 ⟨vc3, vp3, rfl, ⟨ad5, cap5, rfl, w1⟩, ⟨ad6, cap6, rfl, w2⟩⟩ hleA
        refine ra_all (is := [6, 8]) (by kernel_rfl) rfl ?_
        refine raall_cons rfl rfl ?_ ?_
        ·
         refine do_call_o (caps := []) (ρ' := [(1, _), (2, _), (7, _), (9, _), (10, _), (11, _), (12, _), (22, _), (27, _), (29, _), (30, _)]) [1000] [] trivial rfl rfl rfl Tryz.c60 rfl rfl ⟨rfl, rfl, rfl, rfl, rfl, rfl, rfl, rfl, rfl, rfl, rfl, trivial⟩ rfl rfl rfl (FnO.mono (rebLine_fn R f caps b0 Y hM hcF (R.mm line) vl line _ oi uA (Nat.le_refl _) hgl (s3.mono hleA) ((hR.mono hle3).mono hleA) (hM _ _ _ _ hleA hYi)) ?_)
         rintro v uK l1 hleK ⟨⟨lcs, ⟨lad, lcap, rfl, hl1⟩, hl2⟩, oK, rfl, hYK⟩ -
         refine ⟨⟨fun _ h => h, trivial⟩, ?_⟩
         refine ra_do (i := 8) rfl rfl (by kernel_rfl) ?_
         refine do_y (y_load_p rfl Tryz.k23 rfl rfl rfl (vs := [_]) rfl rfl rfl) rfl ?_
         refine ra_y (i := 12) rfl (by kernel_rfl) (by kernel_rfl) (by kernel_rfl) (np_then (np_block (np_then (np_then (np_block (np_then (np_finO))))))) (y_field_p rfl Tryz.f59' rfl (by decide) rfl) rfl ?_
         refine ra_do (i := 11) rfl rfl (by kernel_rfl) ?_
         refine do_call_o (caps := []) (ρ' := [(1, _), (2, _), (7, _), (9, _), (10, _), (11, _), (12, _), (22, _), (26, _), (32, _)]) [1000] [] trivial rfl rfl rfl Tryz.c27 rfl rfl ⟨rfl, rfl, rfl, rfl, rfl, rfl, rfl, rfl, rfl, rfl, trivial⟩ rfl rfl rfl (FnO.mono (ih (szB kids) (by omega) vk kids _ oK uK (Nat.le_refl _) (by omega) hgk ((s4.mono hleA).mono hleK) (((hR.mono hle3).mono hleA).mono hleK) hYK) ?_)
         rintro v uQ l1 hleQ ⟨⟨kcs, ⟨kad, kcap, rfl, hk1⟩, hk2⟩, oQ, rfl, hYQ⟩ -
         refine ⟨⟨fun _ h => h, trivial⟩, ?_⟩
         refine ra_do (i := 13) rfl rfl (by kernel_rfl) ?_
         refine do_store_p trivial rfl Tryz.k39 rfl rfl rfl (vs := [_, _, _]) rfl rfl (by first | rfl | assumption | simp [Value.oneCell', str]) (Nat.le_of_ble_eq_true rfl) rfl ?_
         refine ra_y (i := 14) rfl (by kernel_rfl) (by kernel_rfl) (by kernel_rfl) (np_then (np_block (np_then (np_then (np_block (np_then (np_finO))))))) (y_field_p rfl Tryz.f59' rfl (by decide) rfl) rfl ?_
         refine ra_do (i := 15) rfl rfl (by kernel_rfl) ?_
         refine do_store_p trivial rfl Tryz.k35 rfl rfl rfl (vs := [_]) rfl rfl (by first | rfl | assumption | simp [Value.oneCell', str]) (Nat.le_of_ble_eq_true rfl) rfl ?_
         refine ra_y (i := 16) rfl (by kernel_rfl) (by kernel_rfl) (by kernel_rfl) (np_then (np_block (np_then (np_then (np_block (np_then (np_finO))))))) (y_field_p rfl Tryz.f59' rfl (by decide) rfl) rfl ?_
         refine ra_do (i := 17) rfl rfl (by kernel_rfl) ?_
         refine do_store_p trivial rfl Tryz.k23 rfl rfl rfl (vs := [_]) rfl rfl (by first | rfl | assumption | simp [Value.oneCell', str]) (Nat.le_of_ble_eq_true rfl) rfl ?_
         refine ra_end (by kernel_rfl) (ρ' := [(1, _), (2, _), (7, _), (9, _), (10, _), (11, _), (12, _)]) ⟨rfl, rfl, rfl, rfl, rfl, rfl, rfl, trivial⟩ ?_
         refine q_thenK ?_
         refine ⟨[(1, _), (2, _), (7, _), (9, _), (10, _), (11, _), (12, _)], [(9, _), (507, _), (1000, _)], ⟨rfl, rfl, rfl, rfl, rfl, rfl, rfl, trivial⟩, ⟨rfl, rfl, rfl, trivial⟩, _, _, lad, lcap, kad, kcap, oQ, (hleA.trans (hleK.trans hleQ)), (by first | rfl | simp), (by first | rfl | (simp only [List.cons.injEq, Prod.mk.injEq, SV.v.injEq, Value.int.injEq, true_and, and_true]; omega) | simp), ?_⟩
         refine ⟨BlkC.mk' (StrS.mono ⟨_, _, rfl, w1⟩ (hleK.trans hleQ)) (PrS.mono ⟨_, _, rfl, w2⟩ (hleK.trans hleQ)) (InlS.mono ⟨lcs, ⟨lad, lcap, rfl, hl1⟩, hl2⟩ hleQ) ⟨kcs, ⟨kad, kcap, rfl, hk1⟩, hk2⟩ (by obtain ⟨o1, o2, o3, o4, o5, o6, o7, o8, o9⟩ := hok; exact ⟨o1, o2, o3, o4, o5, o6, o7, by omega, by omega⟩), by rw [hes]; simpa [List.append_assoc] using hYQ⟩
        refine raall_cons rfl rfl ?_ ?_
        ·
         refine do_y (y_load_p rfl Tryz.k23 rfl rfl rfl (vs := [_]) rfl rfl rfl) rfl ?_
         refine ra_y (i := 12) rfl (by kernel_rfl) (by kernel_rfl) (by kernel_rfl) (np_then (np_block (np_then (np_then (np_block (np_then (np_finO))))))) (y_field_p rfl Tryz.f59' rfl (by decide) rfl) rfl ?_
         refine ra_do (i := 6) rfl rfl (by kernel_rfl) ?_
         refine do_call_o (caps := []) (ρ' := [(1, _), (2, _), (7, _), (9, _), (10, _), (11, _), (12, _), (22, _), (28, _), (29, _), (30, _), (32, _)]) [1000] [] trivial rfl rfl rfl Tryz.c60 rfl rfl ⟨rfl, rfl, rfl, rfl, rfl, rfl, rfl, rfl, rfl, rfl, rfl, rfl, trivial⟩ rfl rfl rfl (FnO.mono (rebLine_fn R f caps b0 Y hM hcF (R.mm line) vl line _ oi uA (Nat.le_refl _) hgl (s3.mono hleA) ((hR.mono hle3).mono hleA) (hM _ _ _ _ hleA hYi)) ?_)
         rintro v uK l1 hleK ⟨⟨lcs, ⟨lad, lcap, rfl, hl1⟩, hl2⟩, oK, rfl, hYK⟩ -
         refine ⟨⟨fun _ h => h, trivial⟩, ?_⟩
         refine ra_do (i := 11) rfl rfl (by kernel_rfl) ?_
         refine do_call_o (caps := []) (ρ' := [(1, _), (2, _), (7, _), (9, _), (10, _), (11, _), (12, _), (22, _), (26, _), (32, _)]) [1000] [] trivial rfl rfl rfl Tryz.c27 rfl rfl ⟨rfl, rfl, rfl, rfl, rfl, rfl, rfl, rfl, rfl, rfl, trivial⟩ rfl rfl rfl (FnO.mono (ih (szB kids) (by omega) vk kids _ oK uK (Nat.le_refl _) (by omega) hgk ((s4.mono hleA).mono hleK) (((hR.mono hle3).mono hleA).mono hleK) hYK) ?_)
         rintro v uQ l1 hleQ ⟨⟨kcs, ⟨kad, kcap, rfl, hk1⟩, hk2⟩, oQ, rfl, hYQ⟩ -
         refine ⟨⟨fun _ h => h, trivial⟩, ?_⟩
         refine ra_do (i := 13) rfl rfl (by kernel_rfl) ?_
         refine do_store_p trivial rfl Tryz.k39 rfl rfl rfl (vs := [_, _, _]) rfl rfl (by first | rfl | assumption | simp [Value.oneCell', str]) (Nat.le_of_ble_eq_true rfl) rfl ?_
         refine ra_y (i := 14) rfl (by kernel_rfl) (by kernel_rfl) (by kernel_rfl) (np_then (np_block (np_then (np_then (np_block (np_then (np_finO))))))) (y_field_p rfl Tryz.f59' rfl (by decide) rfl) rfl ?_
         refine ra_do (i := 15) rfl rfl (by kernel_rfl) ?_
         refine do_store_p trivial rfl Tryz.k35 rfl rfl rfl (vs := [_]) rfl rfl (by first | rfl | assumption | simp [Value.oneCell', str]) (Nat.le_of_ble_eq_true rfl) rfl ?_
         refine ra_y (i := 16) rfl (by kernel_rfl) (by kernel_rfl) (by kernel_rfl) (np_then (np_block (np_then (np_then (np_block (np_then (np_finO))))))) (y_field_p rfl Tryz.f59' rfl (by decide) rfl) rfl ?_
         refine ra_do (i := 17) rfl rfl (by kernel_rfl) ?_
         refine do_store_p trivial rfl Tryz.k23 rfl rfl rfl (vs := [_]) rfl rfl (by first | rfl | assumption | simp [Value.oneCell', str]) (Nat.le_of_ble_eq_true rfl) rfl ?_
         refine ra_end (by kernel_rfl) (ρ' := [(1, _), (2, _), (7, _), (9, _), (10, _), (11, _), (12, _)]) ⟨rfl, rfl, rfl, rfl, rfl, rfl, rfl, trivial⟩ ?_
         refine q_thenK ?_
         refine ⟨[(1, _), (2, _), (7, _), (9, _), (10, _), (11, _), (12, _)], [(9, _), (507, _), (1000, _)], ⟨rfl, rfl, rfl, rfl, rfl, rfl, rfl, trivial⟩, ⟨rfl, rfl, rfl, trivial⟩, _, _, lad, lcap, kad, kcap, oQ, (hleA.trans (hleK.trans hleQ)), (by first | rfl | simp), (by first | rfl | (simp only [List.cons.injEq, Prod.mk.injEq, SV.v.injEq, Value.int.injEq, true_and, and_true]; omega) | simp), ?_⟩
         refine ⟨BlkC.mk' (StrS.mono ⟨_, _, rfl, w1⟩ (hleK.trans hleQ)) (PrS.mono ⟨_, _, rfl, w2⟩ (hleK.trans hleQ)) (InlS.mono ⟨lcs, ⟨lad, lcap, rfl, hl1⟩, hl2⟩ hleQ) ⟨kcs, ⟨kad, kcap, rfl, hk1⟩, hk2⟩ (by obtain ⟨o1, o2, o3, o4, o5, o6, o7, o8, o9⟩ := hok; exact ⟨o1, o2, o3, o4, o5, o6, o7, by omega, by omega⟩), by rw [hes]; simpa [List.append_assoc] using hYQ⟩
        exact raall_nil
       refine raall_cons rfl rfl ?_ ?_
       ·
        refine do_y (y_load_p rfl Tryz.k23 rfl rfl rfl (vs := [_]) rfl rfl rfl) rfl ?_
        refine ra_do (i := 2) rfl rfl (by kernel_rfl) ?_
        refine do_call (caps := []) trivial rfl rfl Tryz.c59 rfl (FnP.mono (labCopyAttr_fn a _ _ _ (by omega) (by omega) s1 s2) ?_)
        rintro v uA hle0 ⟨vc3, vp3, rfl, ⟨ad5, cap5, rfl, w1⟩, ⟨ad6, cap6, rfl, w2⟩⟩ hleA
        refine ra_y (i := 12) rfl (by kernel_rfl) (by kernel_rfl) (by kernel_rfl) (np_then (np_block (np_then (np_then (np_block (np_then (np_finO))))))) (y_field_p rfl Tryz.f59' rfl (by decide) rfl) rfl ?_
        refine ra_do (i := 6) rfl rfl (by kernel_rfl) ?_
        refine do_call_o (caps := []) (ρ' := [(1, _), (2, _), (7, _), (9, _), (10, _), (11, _), (12, _), (22, _), (28, _), (29, _), (30, _), (32, _)]) [1000] [] trivial rfl rfl rfl Tryz.c60 rfl rfl ⟨rfl, rfl, rfl, rfl, rfl, rfl, rfl, rfl, rfl, rfl, rfl, rfl, trivial⟩ rfl rfl rfl (FnO.mono (rebLine_fn R f caps b0 Y hM hcF (R.mm line) vl line _ oi uA (Nat.le_refl _) hgl (s3.mono hleA) ((hR.mono hle3).mono hleA) (hM _ _ _ _ hleA hYi)) ?_)
        rintro v uK l1 hleK ⟨⟨lcs, ⟨lad, lcap, rfl, hl1⟩, hl2⟩, oK, rfl, hYK⟩ -
        refine ⟨⟨fun _ h => h, trivial⟩, ?_⟩
        refine ra_do (i := 11) rfl rfl (by kernel_rfl) ?_
        refine do_call_o (caps := []) (ρ' := [(1, _), (2, _), (7, _), (9, _), (10, _), (11, _), (12, _), (22, _), (26, _), (32, _)]) [1000] [] trivial rfl rfl rfl Tryz.c27 rfl rfl ⟨rfl, rfl, rfl, rfl, rfl, rfl, rfl, rfl, rfl, rfl, trivial⟩ rfl rfl rfl (FnO.mono (ih (szB kids) (by omega) vk kids _ oK uK (Nat.le_refl _) (by omega) hgk ((s4.mono hleA).mono hleK) (((hR.mono hle3).mono hleA).mono hleK) hYK) ?_)
        rintro v uQ l1 hleQ ⟨⟨kcs, ⟨kad, kcap, rfl, hk1⟩, hk2⟩, oQ, rfl, hYQ⟩ -
        refine ⟨⟨fun _ h => h, trivial⟩, ?_⟩
        refine ra_do (i := 13) rfl rfl (by kernel_rfl) ?_
        refine do_store_p trivial rfl Tryz.k39 rfl rfl rfl (vs := [_, _, _]) rfl rfl (by first | rfl | assumption | simp [Value.oneCell', str]) (Nat.le_of_ble_eq_true rfl) rfl ?_
        refine ra_y (i := 14) rfl (by kernel_rfl) (by kernel_rfl) (by kernel_rfl) (np_then (np_block (np_then (np_then (np_block (np_then (np_finO))))))) (y_field_p rfl Tryz.f59' rfl (by decide) rfl) rfl ?_
        refine ra_do (i := 15) rfl rfl (by kernel_rfl) ?_
        refine do_store_p trivial rfl Tryz.k35 rfl rfl rfl (vs := [_]) rfl rfl (by first | rfl | assumption | simp [Value.oneCell', str]) (Nat.le_of_ble_eq_true rfl) rfl ?_
        refine ra_y (i := 16) rfl (by kernel_rfl) (by kernel_rfl) (by kernel_rfl) (np_then (np_block (np_then (np_then (np_block (np_then (np_finO))))))) (y_field_p rfl Tryz.f59' rfl (by decide) rfl) rfl ?_
        refine ra_do (i := 17) rfl rfl (by kernel_rfl) ?_
        refine do_store_p trivial rfl Tryz.k23 rfl rfl rfl (vs := [_]) rfl rfl (by first | rfl | assumption | simp [Value.oneCell', str]) (Nat.le_of_ble_eq_true rfl) rfl ?_
        refine ra_end (by kernel_rfl) (ρ' := [(1, _), (2, _), (7, _), (9, _), (10, _), (11, _), (12, _)]) ⟨rfl, rfl, rfl, rfl, rfl, rfl, rfl, trivial⟩ ?_
        refine q_thenK ?_
        refine ⟨[(1, _), (2, _), (7, _), (9, _), (10, _), (11, _), (12, _)], [(9, _), (507, _), (1000, _)], ⟨rfl, rfl, rfl, rfl, rfl, rfl, rfl, trivial⟩, ⟨rfl, rfl, rfl, trivial⟩, _, _, lad, lcap, kad, kcap, oQ, (hleA.trans (hleK.trans hleQ)), (by first | rfl | simp), (by first | rfl | (simp only [List.cons.injEq, Prod.mk.injEq, SV.v.injEq, Value.int.injEq, true_and, and_true]; omega) | simp), ?_⟩
        refine ⟨BlkC.mk' (StrS.mono ⟨_, _, rfl, w1⟩ (hleK.trans hleQ)) (PrS.mono ⟨_, _, rfl, w2⟩ (hleK.trans hleQ)) (InlS.mono ⟨lcs, ⟨lad, lcap, rfl, hl1⟩, hl2⟩ hleQ) ⟨kcs, ⟨kad, kcap, rfl, hk1⟩, hk2⟩ (by obtain ⟨o1, o2, o3, o4, o5, o6, o7, o8, o9⟩ := hok; exact ⟨o1, o2, o3, o4, o5, o6, o7, by omega, by omega⟩), by rw [hes]; simpa [List.append_assoc] using hYQ⟩
       exact raall_nil
      refine raall_cons rfl rfl ?_ ?_
      ·
       refine do_y (y_load_p rfl Tryz.k23 rfl rfl rfl (vs := [_]) rfl rfl rfl) rfl ?_
       refine ra_all (is := [2, 4]) (by kernel_rfl) rfl ?_
       refine raall_cons rfl rfl ?_ ?_
       ·
        refine do_call (caps := []) trivial rfl rfl Tryz.c59 rfl (FnP.mono (labCopyAttr_fn a _ _ _ (by omega) (by omega) s1 s2) ?_)
        rintro v uA hle0 ⟨vc3, vp3, rfl, ⟨ad5, cap5, rfl, w1⟩, ⟨ad6, cap6, rfl, w2⟩⟩ hleA
        refine ra_do (i := 4) rfl rfl (by kernel_rfl) ?_
        refine do_y (y_load_p rfl Tryz.k35 rfl rfl rfl (vs := [_]) rfl rfl rfl) rfl ?_
        refine ra_y (i := 12) rfl (by kernel_rfl) (by kernel_rfl) (by kernel_rfl) (np_then (np_block (np_then (np_then (np_block (np_then (np_finO))))))) (y_field_p rfl Tryz.f59' rfl (by decide) rfl) rfl ?_
        refine ra_do (i := 6) rfl rfl (by kernel_rfl) ?_
        refine do_call_o (caps := []) (ρ' := [(1, _), (2, _), (7, _), (9, _), (10, _), (11, _), (12, _), (22, _), (28, _), (29, _), (30, _), (32, _)]) [1000] [] trivial rfl rfl rfl Tryz.c60 rfl rfl ⟨rfl, rfl, rfl, rfl, rfl, rfl, rfl, rfl, rfl, rfl, rfl, rfl, trivial⟩ rfl rfl rfl (FnO.mono (rebLine_fn R f caps b0 Y hM hcF (R.mm line) vl line _ oi uA (Nat.le_refl _) hgl (s3.mono hleA) ((hR.mono hle3).mono hleA) (hM _ _ _ _ hleA hYi)) ?_)
        rintro v uK l1 hleK ⟨⟨lcs, ⟨lad, lcap, rfl, hl1⟩, hl2⟩, oK, rfl, hYK⟩ -
        refine ⟨⟨fun _ h => h, trivial⟩, ?_⟩
        refine ra_do (i := 11) rfl rfl (by kernel_rfl) ?_
        refine do_call_o (caps := []) (ρ' := [(1, _), (2, _), (7, _), (9, _), (10, _), (11, _), (12, _), (22, _), (26, _), (32, _)]) [1000] [] trivial rfl rfl rfl Tryz.c27 rfl rfl ⟨rfl, rfl, rfl, rfl, rfl, rfl, rfl, rfl, rfl, rfl, trivial⟩ rfl rfl rfl (FnO.mono (ih (szB kids) (by omega) vk kids _ oK uK (Nat.le_refl _) (by omega) hgk ((s4.mono hleA).mono hleK) (((hR.mono hle3).mono hleA).mono hleK) hYK) ?_)
        rintro v uQ l1 hleQ ⟨⟨kcs, ⟨kad, kcap, rfl, hk1⟩, hk2⟩, oQ, rfl, hYQ⟩ -
        refine ⟨⟨fun _ h => h, trivial⟩, ?_⟩
        refine ra_do (i := 13) rfl rfl (by kernel_rfl) ?_
        refine do_store_p trivial rfl Tryz.k39 rfl rfl rfl (vs := [_, _, _]) rfl rfl (by first | rfl | assumption | simp [Value.oneCell', str]) (Nat.le_of_ble_eq_true rfl) rfl ?_
        refine ra_y (i := 14) rfl (by kernel_rfl) (by kernel_rfl) (by kernel_rfl) (np_then (np_block (np_then (np_then (np_block (np_then (np_finO))))))) (y_field_p rfl Tryz.f59' rfl (by decide) rfl) rfl ?_
        refine ra_do (i := 15) rfl rfl (by kernel_rfl) ?_
        refine do_store_p trivial rfl Tryz.k35 rfl rfl rfl (vs := [_]) rfl rfl (by first | rfl | assumption | simp [Value.oneCell', str]) (Nat.le_of_ble_eq_true rfl) rfl ?_
        refine ra_y (i := 16) rfl (by kernel_rfl) (by kernel_rfl) (by kernel_rfl) (np_then (np_block (np_then (np_then (np_block (np_then (np_finO))))))) (y_field_p rfl Tryz.f59' rfl (by decide) rfl) rfl ?_
        refine ra_do (i := 17) rfl rfl (by kernel_rfl) ?_
        refine do_store_p trivial rfl Tryz.k23 rfl rfl rfl (vs := [_]) rfl rfl (by first | rfl | assumption | simp [Value.oneCell', str]) (Nat.le_of_ble_eq_true rfl) rfl ?_
        refine ra_end (by kernel_rfl) (ρ' := [(1, _), (2, _), (7, _), (9, _), (10, _), (11, _), (12, _)]) ⟨rfl, rfl, rfl, rfl, rfl, rfl, rfl, trivial⟩ ?_
        refine q_thenK ?_
        refine ⟨[(1, _), (2, _), (7, _), (9, _), (10, _), (11, _), (12, _)], [(9, _), (507, _), (1000, _)], ⟨rfl, rfl, rfl, rfl, rfl, rfl, rfl, trivial⟩, ⟨rfl, rfl, rfl, trivial⟩, _, _, lad, lcap, kad, kcap, oQ, (hleA.trans (hleK.trans hleQ)), (by first | rfl | simp), (by first | rfl | (simp only [List.cons.injEq, Prod.mk.injEq, SV.v.injEq, Value.int.injEq, true_and, and_true]; omega) | simp), ?_⟩
        refine ⟨BlkC.mk' (StrS.mono ⟨_, _, rfl, w1⟩ (hleK.trans hleQ)) (PrS.mono ⟨_, _, rfl, w2⟩ (hleK.trans hleQ)) (InlS.mono ⟨lcs, ⟨lad, lcap, rfl, hl1⟩, hl2⟩ hleQ) ⟨kcs, ⟨kad, kcap, rfl, hk1⟩, hk2⟩ (by obtain ⟨o1, o2, o3, o4, o5, o6, o7, o8, o9⟩ := hok; exact ⟨o1, o2, o3, o4, o5, o6, o7, by omega, by omega⟩), by rw [hes]; simpa [List.append_assoc] using hYQ⟩
       refine raall_cons rfl rfl ?_ ?_
       ·
        refine do_y (y_load_p rfl Tryz.k35 rfl rfl rfl (vs := [_]) rfl rfl rfl) rfl ?_
        refine ra_do (i := 2) rfl rfl (by kernel_rfl) ?_
        refine do_call (caps := []) trivial rfl rfl Tryz.c59 rfl (FnP.mono (labCopyAttr_fn a _ _ _ (by omega) (by omega) s1 s2) ?_)
        rintro v uA hle0 ⟨vc3, vp3, rfl, ⟨ad5, cap5, rfl, w1⟩, ⟨ad6, cap6, rfl, w2⟩⟩ hleA
        refine ra_y (i := 12) rfl (by kernel_rfl) (by kernel_rfl) (by kernel_rfl) (np_then (np_block (np_then (np_then (np_block (np_then (np_finO))))))) (y_field_p rfl Tryz.f59' rfl (by decide) rfl) rfl ?_
        refine ra_do (i := 6) rfl rfl (by kernel_rfl) ?_
        refine do_call_o (caps := []) (ρ' := [(1, _), (2, _), (7, _), (9, _), (10, _), (11, _), (12, _), (22, _), (28, _), (29, _), (30, _), (32, _)]) [1000] [] trivial rfl rfl rfl Tryz.c60 rfl rfl ⟨rfl, rfl, rfl, rfl, rfl, rfl, rfl, rfl, rfl, rfl, rfl, rfl, trivial⟩ rfl rfl rfl (FnO.mono (rebLine_fn R f caps b0 Y hM hcF (R.mm line) vl line _ oi uA (Nat.le_refl _) hgl (s3.mono hleA) ((hR.mono hle3).mono hleA) (hM _ _ _ _ hleA hYi)) ?_)
        rintro v uK l1 hleK ⟨⟨lcs, ⟨lad, lcap, rfl, hl1⟩, hl2⟩, oK, rfl, hYK⟩ -
        refine ⟨⟨fun _ h => h, trivial⟩, ?_⟩
        refine ra_do (i := 11) rfl rfl (by kernel_rfl) ?_
        refine do_call_o (caps := []) (ρ' := [(1, _), (2, _), (7, _), (9, _), (10, _), (11, _), (12, _), (22, _), (26, _), (32, _)]) [1000] [] trivial rfl rfl rfl Tryz.c27 rfl rfl ⟨rfl, rfl, rfl, rfl, rfl, rfl, rfl, rfl, rfl, rfl, trivial⟩ rfl rfl rfl (FnO.mono (ih (szB kids) (by omega) vk kids _ oK uK (Nat.le_refl _) (by omega) hgk ((s4.mono hleA).mono hleK) (((hR.mono hle3).mono hleA).mono hleK) hYK) ?_)
        rintro v uQ l1 hleQ ⟨⟨kcs, ⟨kad, kcap, rfl, hk1⟩, hk2⟩, oQ, rfl, hYQ⟩ -
        refine ⟨⟨fun _ h => h, trivial⟩, ?_⟩
        refine ra_do (i := 13) rfl rfl (by kernel_rfl) ?_
        refine do_store_p trivial rfl Tryz.k39 rfl rfl rfl (vs := [_, _, _]) rfl rfl (by first | rfl | assumption | simp [Value.oneCell', str]) (Nat.le_of_ble_eq_true rfl) rfl ?_
        refine ra_y (i := 14) rfl (by kernel_rfl) (by kernel_rfl) (by kernel_rfl) (np_then (np_block (np_then (np_then (np_block (np_then (np_finO))))))) (y_field_p rfl Tryz.f59' rfl (by decide) rfl) rfl ?_
        refine ra_do (i := 15) rfl rfl (by kernel_rfl) ?_
        refine do_store_p trivial rfl Tryz.k35 rfl rfl rfl (vs := [_]) rfl rfl (by first | rfl | assumption | simp [Value.oneCell', str]) (Nat.le_of_ble_eq_true rfl) rfl ?_
        refine ra_y (i := 16) rfl (by kernel_rfl) (by kernel_rfl) (by kernel_rfl) (np_then (np_block (np_then (np_then (np_block (np_then (np_finO))))))) (y_field_p rfl Tryz.f59' rfl (by decide) rfl) rfl ?_
        refine ra_do (i := 17) rfl rfl (by kernel_rfl) ?_
        refine do_store_p trivial rfl Tryz.k23 rfl rfl rfl (vs := [_]) rfl rfl (by first | rfl | assumption | simp [Value.oneCell', str]) (Nat.le_of_ble_eq_true rfl) rfl ?_
        refine ra_end (by kernel_rfl) (ρ' := [(1, _), (2, _), (7, _), (9, _), (10, _), (11, _), (12, _)]) ⟨rfl, rfl, rfl, rfl, rfl, rfl, rfl, trivial⟩ ?_
        refine q_thenK ?_
        refine ⟨[(1, _), (2, _), (7, _), (9, _), (10, _), (11, _), (12, _)], [(9, _), (507, _), (1000, _)], ⟨rfl, rfl, rfl, rfl, rfl, rfl, rfl, trivial⟩, ⟨rfl, rfl, rfl, trivial⟩, _, _, lad, lcap, kad, kcap, oQ, (hleA.trans (hleK.trans hleQ)), (by first | rfl | simp), (by first | rfl | (simp only [List.cons.injEq, Prod.mk.injEq, SV.v.injEq, Value.int.injEq, true_and, and_true]; omega) | simp), ?_⟩
        refine ⟨BlkC.mk' (StrS.mono ⟨_, _, rfl, w1⟩ (hleK.trans hleQ)) (PrS.mono ⟨_, _, rfl, w2⟩ (hleK.trans hleQ)) (InlS.mono ⟨lcs, ⟨lad, lcap, rfl, hl1⟩, hl2⟩ hleQ) ⟨kcs, ⟨kad, kcap, rfl, hk1⟩, hk2⟩ (by obtain ⟨o1, o2, o3, o4, o5, o6, o7, o8, o9⟩ := hok; exact ⟨o1, o2, o3, o4, o5, o6, o7, by omega, by omega⟩), by rw [hes]; simpa [List.append_assoc] using hYQ⟩
       exact raall_nil
      exact raall_nil
     refine raall_cons rfl rfl ?_ ?_
     ·
      refine do_y (y_load_p rfl Tryz.k35 rfl rfl rfl (vs := [_]) rfl rfl rfl) rfl ?_
      refine ra_all (is := [1, 8]) (by kernel_rfl) rfl ?_
      refine raall_cons rfl rfl ?_ ?_
      ·
       refine do_y (y_load_p rfl Tryz.k39 rfl rfl rfl (vs := [_, _, _]) rfl rfl rfl) rfl ?_
       refine ra_all (is := [2, 8]) (by kernel_rfl) rfl ?_
       refine raall_cons rfl rfl ?_ ?_
       ·
        refine do_call (caps := []) trivial rfl rfl Tryz.c59 rfl (FnP.mono (labCopyAttr_fn a _ _ _ (by omega) (by omega) s1 s2) ?_)
        rintro v uA hle0 ⟨vc3, vp3, rfl, ⟨ad5, cap5, rfl, w1⟩, ⟨ad6, cap6, rfl, w2⟩⟩ hleA
        refine ra_all (is := [6, 8]) (by kernel_rfl) rfl ?_
        refine raall_cons rfl rfl ?_ ?_
        ·
         refine do_call_o (caps := []) (ρ' := [(1, _), (2, _), (7, _), (9, _), (10, _), (11, _), (12, _), (22, _), (27, _), (29, _), (30, _)]) [1000] [] trivial rfl rfl rfl Tryz.c60 rfl rfl ⟨rfl, rfl, rfl, rfl, rfl, rfl, rfl, rfl, rfl, rfl, rfl, trivial⟩ rfl rfl rfl (FnO.mono (rebLine_fn R f caps b0 Y hM hcF (R.mm line) vl line _ oi uA (Nat.le_refl _) hgl (s3.mono hleA) ((hR.mono hle3).mono hleA) (hM _ _ _ _ hleA hYi)) ?_)
         rintro v uK l1 hleK ⟨⟨lcs, ⟨lad, lcap, rfl, hl1⟩, hl2⟩, oK, rfl, hYK⟩ -
         refine ⟨⟨fun _ h => h, trivial⟩, ?_⟩
         refine ra_do (i := 8) rfl rfl (by kernel_rfl) ?_
         refine do_y (y_load_p rfl Tryz.k23 rfl rfl rfl (vs := [_]) rfl rfl rfl) rfl ?_
         refine ra_y (i := 12) rfl (by kernel_rfl) (by kernel_rfl) (by kernel_rfl) (np_then (np_block (np_then (np_then (np_block (np_then (np_finO))))))) (y_field_p rfl Tryz.f59' rfl (by decide) rfl) rfl ?_
         refine ra_do (i := 11) rfl rfl (by kernel_rfl) ?_
         refine do_call_o (caps := []) (ρ' := [(1, _), (2, _), (7, _), (9, _), (10, _), (11, _), (12, _), (22, _), (26, _), (32, _)]) [1000] [] trivial rfl rfl rfl Tryz.c27 rfl rfl ⟨rfl, rfl, rfl, rfl, rfl, rfl, rfl, rfl, rfl, rfl, trivial⟩ rfl rfl rfl (FnO.mono (ih (szB kids) (by omega) vk kids _ oK uK (Nat.le_refl _) (by omega) hgk ((s4.mono hleA).mono hleK) (((hR.mono hle3).mono hleA).mono hleK) hYK) ?_)
         rintro v uQ l1 hleQ ⟨⟨kcs, ⟨kad, kcap, rfl, hk1⟩, hk2⟩, oQ, rfl, hYQ⟩ -
         refine ⟨⟨fun _ h => h, trivial⟩, ?_⟩
         refine ra_do (i := 13) rfl rfl (by kernel_rfl) ?_
         refine do_store_p trivial rfl Tryz.k39 rfl rfl rfl (vs := [_, _, _]) rfl rfl (by first | rfl | assumption | simp [Value.oneCell', str]) (Nat.le_of_ble_eq_true rfl) rfl ?_
         refine ra_y (i := 14) rfl (by kernel_rfl) (by kernel_rfl) (by kernel_rfl) (np_then (np_block (np_then (np_then (np_block (np_then (np_finO))))))) (y_field_p rfl Tryz.f59' rfl (by decide) rfl) rfl ?_
         refine ra_do (i := 15) rfl rfl (by kernel_rfl) ?_
         refine do_store_p trivial rfl Tryz.k35 rfl rfl rfl (vs := [_]) rfl rfl (by first | rfl | assumption | simp [Value.oneCell', str]) (Nat.le_of_ble_eq_true rfl) rfl ?_
         refine ra_y (i := 16) rfl (by kernel_rfl) (by kernel_rfl) (by kernel_rfl) (np_then (np_block (np_then (np_then (np_block (np_then (np_finO))))))) (y_field_p rfl Tryz.f59' rfl (by decide) rfl) rfl ?_
         refine ra_do (i := 17) rfl rfl (by kernel_rfl) ?_
         refine do_store_p trivial rfl Tryz.k23 rfl rfl rfl (vs := [_]) rfl rfl (by first | rfl | assumption | simp [Value.oneCell', str]) (Nat.le_of_ble_eq_true rfl) rfl ?_
         refine ra_end (by kernel_rfl) (ρ' := [(1, _), (2, _), (7, _), (9, _), (10, _), (11, _), (12, _)]) ⟨rfl, rfl, rfl, rfl, rfl, rfl, rfl, trivial⟩ ?_
         refine q_thenK ?_
         refine ⟨[(1, _), (2, _), (7, _), (9, _), (10, _), (11, _), (12, _)], [(9, _), (507, _), (1000, _)], ⟨rfl, rfl, rfl, rfl, rfl, rfl, rfl, trivial⟩, ⟨rfl, rfl, rfl, trivial⟩, _, _, lad, lcap, kad, kcap, oQ, (hleA.trans (hleK.trans hleQ)), (by first | rfl | simp), (by first | rfl | (simp only [List.cons.injEq, Prod.mk.injEq, SV.v.injEq, Value.int.injEq, true_and, and_true]; omega) | simp), ?_⟩
         refine ⟨BlkC.mk' (StrS.mono ⟨_, _, rfl, w1⟩ (hleK.trans hleQ)) (PrS.mono ⟨_, _, rfl, w2⟩ (hleK.trans hleQ)) (InlS.mono ⟨lcs, ⟨lad, lcap, rfl, hl1⟩, hl2⟩ hleQ) ⟨kcs, ⟨kad, kcap, rfl, hk1⟩, hk2⟩ (by obtain ⟨o1, o2, o3, o4, o5, o6, o7, o8, o9⟩ := hok; exact ⟨o1, o2, o3, o4, o5, o6, o7, by omega, by omega⟩), by rw [hes]; simpa [List.append_assoc] using hYQ⟩
        refine raall_cons rfl rfl ?_ ?_
        ·
         refine do_y (y_load_p rfl Tryz.k23 rfl rfl rfl (vs := [_]) rfl rfl rfl) rfl ?_
         refine ra_y (i := 12) rfl (by kernel_rfl) (by kernel_rfl) (by kernel_rfl) (np_then (np_block (np_then (np_then (np_block (np_then (np_finO))))))) (y_field_p rfl Tryz.f59' rfl (by decide) rfl) rfl ?_
         refine ra_do (i := 6) rfl rfl (by kernel_rfl) ?_
         refine do_call_o (caps := []) (ρ' := [(1, _), (2, _), (7, _), (9, _), (10, _), (11, _), (12, _), (22, _), (28, _), (29, _), (30, _), (32, _)]) [1000] [] trivial rfl rfl rfl Tryz.c60 rfl rfl ⟨rfl, rfl, rfl, rfl, rfl, rfl, rfl, rfl, rfl, rfl, rfl, rfl, trivial⟩ rfl rfl rfl (FnO.mono (rebLine_fn R f caps b0 Y hM hcF (R.mm line) vl line _ oi uA (Nat.le_refl _) hgl (s3.mono hleA) ((hR.mono hle3).mono hleA) (hM _ _ _ _ hleA hYi)) ?_)
         rintro v uK l1 hleK ⟨⟨lcs, ⟨lad, lcap, rfl, hl1⟩, hl2⟩, oK, rfl, hYK⟩ -
         refine ⟨⟨fun _ h => h, trivial⟩, ?_⟩
         refine ra_do (i := 11) rfl rfl (by kernel_rfl) ?_
         refine do_call_o (caps := []) (ρ' := [(1, _), (2, _), (7, _), (9, _), (10, _), (11, _), (12, _), (22, _), (26, _), (32, _)]) [1000] [] trivial rfl rfl rfl Tryz.c27 rfl rfl ⟨rfl, rfl, rfl, rfl, rfl, rfl, rfl, rfl, rfl, rfl, trivial⟩ rfl rfl rfl (FnO.mono (ih (szB kids) (by omega) vk kids _ oK uK (Nat.le_refl _) (by omega) hgk ((s4.mono hleA).mono hleK) (((hR.mono hle3).mono hleA).mono hleK) hYK) ?_)
         rintro v uQ l1 hleQ ⟨⟨kcs, ⟨kad, kcap, rfl, hk1⟩, hk2⟩, oQ, rfl, hYQ⟩ -
         refine ⟨⟨fun _ h => h, trivial⟩, ?_⟩
         refine ra_do (i := 13) rfl rfl (by kernel_rfl) ?_
         refine do_store_p trivial rfl Tryz.k39 rfl rfl rfl (vs := [_, _, _]) rfl rfl (by first | rfl | assumption | simp [Value.oneCell', str]) (Nat.le_of_ble_eq_true rfl) rfl ?_
         refine ra_y (i := 14) rfl (by kernel_rfl) (by kernel_rfl) (by kernel_rfl) (np_then (np_block (np_then (np_then (np_block (np_then (np_finO))))))) (y_field_p rfl Tryz.f59' rfl (by decide) rfl) rfl ?_
         refine ra_do (i := 15) rfl rfl (by kernel_rfl) ?_
         refine do_store_p trivial rfl Tryz.k35 rfl rfl rfl (vs := [_]) rfl rfl (by first | rfl | assumption | simp [Value.oneCell', str]) (Nat.le_of_ble_eq_true rfl) rfl ?_
         refine ra_y (i := 16) rfl (by kernel_rfl) (by kernel_rfl) (by kernel_rfl) (np_then (np_block (np_then (np_then (np_block (np_then (np_finO))))))) (y_field_p rfl Tryz.f59' rfl (by decide) rfl) rfl ?_
         refine ra_do (i := 17) rfl rfl (by kernel_rfl) ?_
         refine do_store_p trivial rfl Tryz.k23 rfl rfl rfl (vs := [_]) rfl rfl (by first | rfl | assumption | simp [Value.oneCell', str]) (Nat.le_of_ble_eq_true rfl) rfl ?_
         refine ra_end (by kernel_rfl) (ρ' := [(1, _), (2, _), (7, _), (9, _), (10, _), (11, _), (12, _)]) ⟨rfl, rfl, rfl, rfl, rfl, rfl, rfl, trivial⟩ ?_
         refine q_thenK ?_
         refine ⟨[(1, _), (2, _), (7, _), (9, _), (10, _), (11, _), (12, _)], [(9, _), (507, _), (1000, _)], ⟨rfl, rfl, rfl, rfl, rfl, rfl, rfl, trivial⟩, ⟨rfl, rfl, rfl, trivial⟩, _, _, lad, lcap, kad, kcap, oQ, (hleA.trans (hleK.trans hleQ)), (by first | rfl | simp), (by first | rfl | (simp only [List.cons.injEq, Prod.mk.injEq, SV.v.injEq, Value.int.injEq, true_and, and_true]; omega) | simp), ?_⟩
         refine ⟨BlkC.mk' (StrS.mono ⟨_, _, rfl, w1⟩ (hleK.trans hleQ)) (PrS.mono ⟨_, _, rfl, w2⟩ (hleK.trans hleQ)) (InlS.mono ⟨lcs, ⟨lad, lcap, rfl, hl1⟩, hl2⟩ hleQ) ⟨kcs, ⟨kad, kcap, rfl, hk1⟩, hk2⟩ (by obtain ⟨o1, o2, o3, o4, o5, o6, o7, o8, o9⟩ := hok; exact ⟨o1, o2, o3, o4, o5, o6, o7, by omega, by omega⟩), by rw [hes]; simpa [List.append_assoc] using hYQ⟩
        exact raall_nil
       refine raall_cons rfl rfl ?_ ?_
       ·
        refine do_y (y_load_p rfl Tryz.k23 rfl rfl rfl (vs := [_]) rfl rfl rfl) rfl ?_
        refine ra_do (i := 2) rfl rfl (by kernel_rfl) ?_
        refine do_call (caps := []) trivial rfl rfl Tryz.c59 rfl (FnP.mono (labCopyAttr_fn a _ _ _ (by omega) (by omega) s1 s2) ?_)
        rintro v uA hle0 ⟨vc3, vp3, rfl, ⟨ad5, cap5, rfl, w1⟩, ⟨ad6, cap6, rfl, w2⟩⟩ hleA
        refine ra_y (i := 12) rfl (by kernel_rfl) (by kernel_rfl) (by kernel_rfl) (np_then (np_block (np_then (np_then (np_block (np_then (np_finO))))))) (y_field_p rfl Tryz.f59' rfl (by decide) rfl) rfl ?_
        refine ra_do (i := 6) rfl rfl (by kernel_rfl) ?_
        refine do_call_o (caps := []) (ρ' := [(1, _), (2, _), (7, _), (9, _), (10, _), (11, _), (12, _), (22, _), (28, _), (29, _), (30, _), (32, _)]) [1000] [] trivial rfl rfl rfl Tryz.c60 rfl rfl ⟨rfl, rfl, rfl, rfl, rfl, rfl, rfl, rfl, rfl, rfl, rfl, rfl, trivial⟩ rfl rfl rfl (FnO.mono (rebLine_fn R f caps b0 Y hM hcF (R.mm line) vl line _ oi uA (Nat.le_refl _) hgl (s3.mono hleA) ((hR.mono hle3).mono hleA) (hM _ _ _ _ hleA hYi)) ?_)
        rintro v uK l1 hleK ⟨⟨lcs, ⟨lad, lcap, rfl, hl1⟩, hl2⟩, oK, rfl, hYK⟩ -
        refine ⟨⟨fun _ h => h, trivial⟩, ?_⟩
        refine ra_do (i := 11) rfl rfl (by kernel_rfl) ?_
        refine do_call_o (caps := []) (ρ' := [(1, _), (2, _), (7, _), (9, _), (10, _), (11, _), (12, _), (22, _), (26, _), (32, _)]) [1000] [] trivial rfl rfl rfl Tryz.c27 rfl rfl ⟨rfl, rfl, rfl, rfl, rfl, rfl, rfl, rfl, rfl, rfl, trivial⟩ rfl rfl rfl (FnO.mono (ih (szB kids) (by omega) vk kids _ oK uK (Nat.le_refl _) (by omega) hgk ((s4.mono hleA).mono hleK) (((hR.mono hle3).mono hleA).mono hleK) hYK) ?_)
        rintro v uQ l1 hleQ ⟨⟨kcs, ⟨kad, kcap, rfl, hk1⟩, hk2⟩, oQ, rfl, hYQ⟩ -
        refine ⟨⟨fun _ h => h, trivial⟩, ?_⟩
        refine ra_do (i := 13) rfl rfl (by kernel_rfl) ?_
        refine do_store_p trivial rfl Tryz.k39 rfl rfl rfl (vs := [_, _, _]) rfl rfl (by first | rfl | assumption | simp [Value.oneCell', str]) (Nat.le_of_ble_eq_true rfl) rfl ?_
        refine ra_y (i := 14) rfl (by kernel_rfl) (by kernel_rfl) (by kernel_rfl) (np_then (np_block (np_then (np_then (np_block (np_then (np_finO))))))) (y_field_p rfl Tryz.f59' rfl (by decide) rfl) rfl ?_
        refine ra_do (i := 15) rfl rfl (by kernel_rfl) ?_
        refine do_store_p trivial rfl Tryz.k35 rfl rfl rfl (vs := [_]) rfl rfl (by first | rfl | assumption | simp [Value.oneCell', str]) (Nat.le_of_ble_eq_true rfl) rfl ?_
        refine ra_y (i := 16) rfl (by kernel_rfl) (by kernel_rfl) (by kernel_rfl) (np_then (np_block (np_then (np_then (np_block (np_then (np_finO))))))) (y_field_p rfl Tryz.f59' rfl (by decide) rfl) rfl ?_
        refine ra_do (i := 17) rfl rfl (by kernel_rfl) ?_
        refine do_store_p trivial rfl Tryz.k23 rfl rfl rfl (vs := [_]) rfl rfl (by first | rfl | assumption | simp [Value.oneCell', str]) (Nat.le_of_ble_eq_true rfl) rfl ?_
        refine ra_end (by kernel_rfl) (ρ' := [(1, _), (2, _), (7, _), (9, _), (10, _), (11, _), (12, _)]) ⟨rfl, rfl, rfl, rfl, rfl, rfl, rfl, trivial⟩ ?_
        refine q_thenK ?_
        refine ⟨[(1, _), (2, _), (7, _), (9, _), (10, _), (11, _), (12, _)], [(9, _), (507, _), (1000, _)], ⟨rfl, rfl, rfl, rfl, rfl, rfl, rfl, trivial⟩, ⟨rfl, rfl, rfl, trivial⟩, _, _, lad, lcap, kad, kcap, oQ, (hleA.trans (hleK.trans hleQ)), (by first | rfl | simp), (by first | rfl | (simp only [List.cons.injEq, Prod.mk.injEq, SV.v.injEq, Value.int.injEq, true_and, and_true]; omega) | simp), ?_⟩
        refine ⟨BlkC.mk' (StrS.mono ⟨_, _, rfl, w1⟩ (hleK.trans hleQ)) (PrS.mono ⟨_, _, rfl, w2⟩ (hleK.trans hleQ)) (InlS.mono ⟨lcs, ⟨lad, lcap, rfl, hl1⟩, hl2⟩ hleQ) ⟨kcs, ⟨kad, kcap, rfl, hk1⟩, hk2⟩ (by obtain ⟨o1, o2, o3, o4, o5, o6, o7, o8, o9⟩ := hok; exact ⟨o1, o2, o3, o4, o5, o6, o7, by omega, by omega⟩), by rw [hes]; simpa [List.append_assoc] using hYQ⟩
       exact raall_nil
      refine raall_cons rfl rfl ?_ ?_
      ·
       refine do_y (y_load_p rfl Tryz.k23 rfl rfl rfl (vs := [_]) rfl rfl rfl) rfl ?_
       refine ra_do (i := 1) rfl rfl (by kernel_rfl) ?_
       refine do_y (y_load_p rfl Tryz.k39 rfl rfl rfl (vs := [_, _, _]) rfl rfl rfl) rfl ?_
       refine ra_do (i := 2) rfl rfl (by kernel_rfl) ?_
       refine do_call (caps := []) trivial rfl rfl Tryz.c59 rfl (FnP.mono (labCopyAttr_fn a _ _ _ (by omega) (by omega) s1 s2) ?_)
       rintro v uA hle0 ⟨vc3, vp3, rfl, ⟨ad5, cap5, rfl, w1⟩, ⟨ad6, cap6, rfl, w2⟩⟩ hleA
       refine ra_y (i := 12) rfl (by kernel_rfl) (by kernel_rfl) (by kernel_rfl) (np_then (np_block (np_then (np_then (np_block (np_then (np_finO))))))) (y_field_p rfl Tryz.f59' rfl (by decide) rfl) rfl ?_
       refine ra_do (i := 6) rfl rfl (by kernel_rfl) ?_
       refine do_call_o (caps := []) (ρ' := [(1, _), (2, _), (7, _), (9, _), (10, _), (11, _), (12, _), (22, _), (28, _), (29, _), (30, _), (32, _)]) [1000] [] trivial rfl rfl rfl Tryz.c60 rfl rfl ⟨rfl, rfl, rfl, rfl, rfl, rfl, rfl, rfl, rfl, rfl, rfl, rfl, trivial⟩ rfl rfl rfl (FnO.mono (rebLine_fn R f caps b0 Y hM hcF (R.mm line) vl line _ oi uA (Nat.le_refl _) hgl (s3.mono hleA) ((hR.mono hle3).mono hleA) (hM _ _ _ _ hleA hYi)) ?_)
       rintro v uK l1 hleK ⟨⟨lcs, ⟨lad, lcap, rfl, hl1⟩, hl2⟩, oK, rfl, hYK⟩ -
       refine ⟨⟨fun _ h => h, trivial⟩, ?_⟩
       refine ra_do (i := 11) rfl rfl (by kernel_rfl) ?_
       refine do_call_o (caps := []) (ρ' := [(1, _), (2, _), (7, _), (9, _), (10, _), (11, _), (12, _), (22, _), (26, _), (32, _)]) [1000] [] trivial rfl rfl rfl Tryz.c27 rfl rfl ⟨rfl, rfl, rfl, rfl, rfl, rfl, rfl, rfl, rfl, rfl, trivial⟩ rfl rfl rfl (FnO.mono (ih (szB kids) (by omega) vk kids _ oK uK (Nat.le_refl _) (by omega) hgk ((s4.mono hleA).mono hleK) (((hR.mono hle3).mono hleA).mono hleK) hYK) ?_)
       rintro v uQ l1 hleQ ⟨⟨kcs, ⟨kad, kcap, rfl, hk1⟩, hk2⟩, oQ, rfl, hYQ⟩ -
       refine ⟨⟨fun _ h => h, trivial⟩, ?_⟩
       refine ra_do (i := 13) rfl rfl (by kernel_rfl) ?_
       refine do_store_p trivial rfl Tryz.k39 rfl rfl rfl (vs := [_, _, _]) rfl rfl (by first | rfl | assumption | simp [Value.oneCell', str]) (Nat.le_of_ble_eq_true rfl) rfl ?_
       refine ra_y (i := 14) rfl (by kernel_rfl) (by kernel_rfl) (by kernel_rfl) (np_then (np_block (np_then (np_then (np_block (np_then (np_finO))))))) (y_field_p rfl Tryz.f59' rfl (by decide) rfl) rfl ?_
       refine ra_do (i := 15) rfl rfl (by kernel_rfl) ?_
       refine do_store_p trivial rfl Tryz.k35 rfl rfl rfl (vs := [_]) rfl rfl (by first | rfl | assumption | simp [Value.oneCell', str]) (Nat.le_of_ble_eq_true rfl) rfl ?_
       refine ra_y (i := 16) rfl (by kernel_rfl) (by kernel_rfl) (by kernel_rfl) (np_then (np_block (np_then (np_then (np_block (np_then (np_finO))))))) (y_field_p rfl Tryz.f59' rfl (by decide) rfl) rfl ?_
       refine ra_do (i := 17) rfl rfl (by kernel_rfl) ?_
       refine do_store_p trivial rfl Tryz.k23 rfl rfl rfl (vs := [_]) rfl rfl (by first | rfl | assumption | simp [Value.oneCell', str]) (Nat.le_of_ble_eq_true rfl) rfl ?_
       refine ra_end (by kernel_rfl) (ρ' := [(1, _), (2, _), (7, _), (9, _), (10, _), (11, _), (12, _)]) ⟨rfl, rfl, rfl, rfl, rfl, rfl, rfl, trivial⟩ ?_
       refine q_thenK ?_
       refine ⟨[(1, _), (2, _), (7, _), (9, _), (10, _), (11, _), (12, _)], [(9, _), (507, _), (1000, _)], ⟨rfl, rfl, rfl, rfl, rfl, rfl, rfl, trivial⟩, ⟨rfl, rfl, rfl, trivial⟩, _, _, lad, lcap, kad, kcap, oQ, (hleA.trans (hleK.trans hleQ)), (by first | rfl | simp), (by first | rfl | (simp only [List.cons.injEq, Prod.mk.injEq, SV.v.injEq, Value.int.injEq, true_and, and_true]; omega) | simp), ?_⟩
       refine ⟨BlkC.mk' (StrS.mono ⟨_, _, rfl, w1⟩ (hleK.trans hleQ)) (PrS.mono ⟨_, _, rfl, w2⟩ (hleK.trans hleQ)) (InlS.mono ⟨lcs, ⟨lad, lcap, rfl, hl1⟩, hl2⟩ hleQ) ⟨kcs, ⟨kad, kcap, rfl, hk1⟩, hk2⟩ (by obtain ⟨o1, o2, o3, o4, o5, o6, o7, o8, o9⟩ := hok; exact ⟨o1, o2, o3, o4, o5, o6, o7, by omega, by omega⟩), by rw [hes]; simpa [List.append_assoc] using hYQ⟩
      exact raall_nil
     refine raall_cons rfl rfl ?_ ?_
     ·
      refine do_y (y_load_p rfl Tryz.k23 rfl rfl rfl (vs := [_]) rfl rfl rfl) rfl ?_
      refine ra_all (is := [1, 4]) (by kernel_rfl) rfl ?_
      refine raall_cons rfl rfl ?_ ?_
      ·
       refine do_y (y_load_p rfl Tryz.k39 rfl rfl rfl (vs := [_, _, _]) rfl rfl rfl) rfl ?_
       refine ra_all (is := [2, 4]) (by kernel_rfl) rfl ?_
       refine raall_cons rfl rfl ?_ ?_
       ·
        refine do_call (caps := []) trivial rfl rfl Tryz.c59 rfl (FnP.mono (labCopyAttr_fn a _ _ _ (by omega) (by omega) s1 s2) ?_)
        rintro v uA hle0 ⟨vc3, vp3, rfl, ⟨ad5, cap5, rfl, w1⟩, ⟨ad6, cap6, rfl, w2⟩⟩ hleA
        refine ra_do (i := 4) rfl rfl (by kernel_rfl) ?_
        refine do_y (y_load_p rfl Tryz.k35 rfl rfl rfl (vs := [_]) rfl rfl rfl) rfl ?_
        refine ra_y (i := 12) rfl (by kernel_rfl) (by kernel_rfl) (by kernel_rfl) (np_then (np_block (np_then (np_then (np_block (np_then (np_finO))))))) (y_field_p rfl Tryz.f59' rfl (by decide) rfl) rfl ?_
        refine ra_do (i := 6) rfl rfl (by kernel_rfl) ?_
        refine do_call_o (caps := []) (ρ' := [(1, _), (2, _), (7, _), (9, _), (10, _), (11, _), (12, _), (22, _), (28, _), (29, _), (30, _), (32, _)]) [1000] [] trivial rfl rfl rfl Tryz.c60 rfl rfl ⟨rfl, rfl, rfl, rfl, rfl, rfl, rfl, rfl, rfl, rfl, rfl, rfl, trivial⟩ rfl rfl rfl (FnO.mono (rebLine_fn R f caps b0 Y hM hcF (R.mm line) vl line _ oi uA (Nat.le_refl _) hgl (s3.mono hleA) ((hR.mono hle3).mono hleA) (hM _ _ _ _ hleA hYi)) ?_)
        rintro v uK l1 hleK ⟨⟨lcs, ⟨lad, lcap, rfl, hl1⟩, hl2⟩, oK, rfl, hYK⟩ -
        refine ⟨⟨fun _ h => h, trivial⟩, ?_⟩
        refine ra_do (i := 11) rfl rfl (by kernel_rfl) ?_
        refine do_call_o (caps := []) (ρ' := [(1, _), (2, _), (7, _), (9, _), (10, _), (11, _), (12, _), (22, _), (26, _), (32, _)]) [1000] [] trivial rfl rfl rfl Tryz.c27 rfl rfl ⟨rfl, rfl, rfl, rfl, rfl, rfl, rfl, rfl, rfl, rfl, trivial⟩ rfl rfl rfl (FnO.mono (ih (szB kids) (by omega) vk kids _ oK uK (Nat.le_refl _) (by omega) hgk ((s4.mono hleA).mono hleK) (((hR.mono hle3).mono hleA).mono hleK) hYK) ?_)
        rintro v uQ l1 hleQ ⟨⟨kcs, ⟨kad, kcap, rfl, hk1⟩, hk2⟩, oQ, rfl, hYQ⟩ -
        refine ⟨⟨fun _ h => h, trivial⟩, ?_⟩
        refine ra_do (i := 13) rfl rfl (by kernel_rfl) ?_
        refine do_store_p trivial rfl Tryz.k39 rfl rfl rfl (vs := [_, _, _]) rfl rfl (by first | rfl | assumption | simp [Value.oneCell', str]) (Nat.le_of_ble_eq_true rfl) rfl ?_
        refine ra_y (i := 14) rfl (by kernel_rfl) (by kernel_rfl) (by kernel_rfl) (np_then (np_block (np_then (np_then (np_block (np_then (np_finO))))))) (y_field_p rfl Tryz.f59' rfl (by decide) rfl) rfl ?_
        refine ra_do (i := 15) rfl rfl (by kernel_rfl) ?_
        refine do_store_p trivial rfl Tryz.k35 rfl rfl rfl (vs := [_]) rfl rfl (by first | rfl | assumption | simp [Value.oneCell', str]) (Nat.le_of_ble_eq_true rfl) rfl ?_
        refine ra_y (i := 16) rfl (by kernel_rfl) (by kernel_rfl) (by kernel_rfl) (np_then (np_block (np_then (np_then (np_block (np_then (np_finO))))))) (y_field_p rfl Tryz.f59' rfl (by decide) rfl) rfl ?_
        refine ra_do (i := 17) rfl rfl (by kernel_rfl) ?_
        refine do_store_p trivial rfl Tryz.k23 rfl rfl rfl (vs := [_]) rfl rfl (by first | rfl | assumption | simp [Value.oneCell', str]) (Nat.le_of_ble_eq_true rfl) rfl ?_
        refine ra_end (by kernel_rfl) (ρ' := [(1, _), (2, _), (7, _), (9, _), (10, _), (11, _), (12, _)]) ⟨rfl, rfl, rfl, rfl, rfl, rfl, rfl, trivial⟩ ?_
        refine q_thenK ?_
        refine ⟨[(1, _), (2, _), (7, _), (9, _), (10, _), (11, _), (12, _)], [(9, _), (507, _), (1000, _)], ⟨rfl, rfl, rfl, rfl, rfl, rfl, rfl, trivial⟩, ⟨rfl, rfl, rfl, trivial⟩, _, _, lad, lcap, kad, kcap, oQ, (hleA.trans (hleK.trans hleQ)), (by first | rfl | simp), (by first | rfl | (simp only [List.cons.injEq, Prod.mk.injEq, SV.v.injEq, Value.int.injEq, true_and, and_true]; omega) | simp), ?_⟩
        refine ⟨BlkC.mk' (StrS.mono ⟨_, _, rfl, w1⟩ (hleK.trans hleQ)) (PrS.mono ⟨_, _, rfl, w2⟩ (hleK.trans hleQ)) (InlS.mono ⟨lcs, ⟨lad, lcap, rfl, hl1⟩, hl2⟩ hleQ) ⟨kcs, ⟨kad, kcap, rfl, hk1⟩, hk2⟩ (by obtain ⟨o1, o2, o3, o4, o5, o6, o7, o8, o9⟩ := hok; exact ⟨o1, o2, o3, o4, o5, o6, o7, by omega, by omega⟩), by rw [hes]; simpa [List.append_assoc] using hYQ⟩
       refine raall_cons rfl rfl ?_ ?_
       ·
        refine do_y (y_load_p rfl Tryz.k35 rfl rfl rfl (vs := [_]) rfl rfl rfl) rfl ?_
        refine ra_do (i := 2) rfl rfl (by kernel_rfl) ?_
        refine do_call (caps := []) trivial rfl rfl Tryz.c59 rfl (FnP.mono (labCopyAttr_fn a _ _ _ (by omega) (by omega) s1 s2) ?_)
        rintro v uA hle0 ⟨vc3, vp3, rfl, ⟨ad5, cap5, rfl, w1⟩, ⟨ad6, cap6, rfl, w2⟩⟩ hleA
        refine ra_y (i := 12) rfl (by kernel_rfl) (by kernel_rfl) (by kernel_rfl) (np_then (np_block (np_then (np_then (np_block (np_then (np_finO))))))) (y_field_p rfl Tryz.f59' rfl (by decide) rfl) rfl ?_
        refine ra_do (i := 6) rfl rfl (by kernel_rfl) ?_
        refine do_call_o (caps := []) (ρ' := [(1, _), (2, _), (7, _), (9, _), (10, _), (11, _), (12, _), (22, _), (28, _), (29, _), (30, _), (32, _)]) [1000] [] trivial rfl rfl rfl Tryz.c60 rfl rfl ⟨rfl, rfl, rfl, rfl, rfl, rfl, rfl, rfl, rfl, rfl, rfl, rfl, trivial⟩ rfl rfl rfl (FnO.mono (rebLine_fn R f caps b0 Y hM hcF (R.mm line) vl line _ oi uA (Nat.le_refl _) hgl (s3.mono hleA) ((hR.mono hle3).mono hleA) (hM _ _ _ _ hleA hYi)) ?_)
        rintro v uK l1 hleK ⟨⟨lcs, ⟨lad, lcap, rfl, hl1⟩, hl2⟩, oK, rfl, hYK⟩ -
        refine ⟨⟨fun _ h => h, trivial⟩, ?_⟩
        refine ra_do (i := 11) rfl rfl (by kernel_rfl) ?_
        refine do_call_o (caps := []) (ρ' := [(1, _), (2, _), (7, _), (9, _), (10, _), (11, _), (12, _), (22, _), (26, _), (32, _)]) [1000] [] trivial rfl rfl rfl Tryz.c27 rfl rfl ⟨rfl, rfl, rfl, rfl, rfl, rfl, rfl, rfl, rfl, rfl, trivial⟩ rfl rfl rfl (FnO.mono (ih (szB kids) (by omega) vk kids _ oK uK (Nat.le_refl _) (by omega) hgk ((s4.mono hleA).mono hleK) (((hR.mono hle3).mono hleA).mono hleK) hYK) ?_)
        rintro v uQ l1 hleQ ⟨⟨kcs, ⟨kad, kcap, rfl, hk1⟩, hk2⟩, oQ, rfl, hYQ⟩ -
        refine ⟨⟨fun _ h => h, trivial⟩, ?_⟩
        refine ra_do (i := 13) rfl rfl (by kernel_rfl) ?_
        refine do_store_p trivial rfl Tryz.k39 rfl rfl rfl (vs := [_, _, _]) rfl rfl (by first | rfl | assumption | simp [Value.oneCell', str]) (Nat.le_of_ble_eq_true rfl) rfl ?_
        refine ra_y (i := 14) rfl (by kernel_rfl) (by kernel_rfl) (by kernel_rfl) (np_then (np_block (np_then (np_then (np_block (np_then (np_finO))))))) (y_field_p rfl Tryz.f59' rfl (by decide) rfl) rfl ?_
        refine ra_do (i := 15) rfl rfl (by kernel_rfl) ?_
        refine do_store_p trivial rfl Tryz.k35 rfl rfl rfl (vs := [_]) rfl rfl (by first | rfl | assumption | simp [Value.oneCell', str]) (Nat.le_of_ble_eq_true rfl) rfl ?_
        refine ra_y (i := 16) rfl (by kernel_rfl) (by kernel_rfl) (by kernel_rfl) (np_then (np_block (np_then (np_then (np_block (np_then (np_finO))))))) (y_field_p rfl Tryz.f59' rfl (by decide) rfl) rfl ?_
        refine ra_do (i := 17) rfl rfl (by kernel_rfl) ?_
        refine do_store_p trivial rfl Tryz.k23 rfl rfl rfl (vs := [_]) rfl rfl (by first | rfl | assumption | simp [Value.oneCell', str]) (Nat.le_of_ble_eq_true rfl) rfl ?_
        refine ra_end (by kernel_rfl) (ρ' := [(1, _), (2, _), (7, _), (9, _), (10, _), (11, _), (12, _)]) ⟨rfl, rfl, rfl, rfl, rfl, rfl, rfl, trivial⟩ ?_
        refine q_thenK ?_
        refine ⟨[(1, _), (2, _), (7, _), (9, _), (10, _), (11, _), (12, _)], [(9, _), (507, _), (1000, _)], ⟨rfl, rfl, rfl, rfl, rfl, rfl, rfl, trivial⟩, ⟨rfl, rfl, rfl, trivial⟩, _, _, lad, lcap, kad, kcap, oQ, (hleA.trans (hleK.trans hleQ)), (by first | rfl | simp), (by first | rfl | (simp only [List.cons.injEq, Prod.mk.injEq, SV.v.injEq, Value.int.injEq, true_and, and_true]; omega) | simp), ?_⟩
        refine ⟨BlkC.mk' (StrS.mono ⟨_, _, rfl, w1⟩ (hleK.trans hleQ)) (PrS.mono ⟨_, _, rfl, w2⟩ (hleK.trans hleQ)) (InlS.mono ⟨lcs, ⟨lad, lcap, rfl, hl1⟩, hl2⟩ hleQ) ⟨kcs, ⟨kad, kcap, rfl, hk1⟩, hk2⟩ (by obtain ⟨o1, o2, o3, o4, o5, o6, o7, o8, o9⟩ := hok; exact ⟨o1, o2, o3, o4, o5, o6, o7, by omega, by omega⟩), by rw [hes]; simpa [List.append_assoc] using hYQ⟩
       exact raall_nil
      refine raall_cons rfl rfl ?_ ?_
      ·
       refine do_y (y_load_p rfl Tryz.k35 rfl rfl rfl (vs := [_]) rfl rfl rfl) rfl ?_
       refine ra_do (i := 1) rfl rfl (by kernel_rfl) ?_
       refine do_y (y_load_p rfl Tryz.k39 rfl rfl rfl (vs := [_, _, _]) rfl rfl rfl) rfl ?_
       refine ra_do (i := 2) rfl rfl (by kernel_rfl) ?_
       refine do_call (caps := []) trivial rfl rfl Tryz.c59 rfl (FnP.mono (labCopyAttr_fn a _ _ _ (by omega) (by omega) s1 s2) ?_)
       rintro v uA hle0 ⟨vc3, vp3, rfl, ⟨ad5, cap5, rfl, w1⟩, ⟨ad6, cap6, rfl, w2⟩⟩ hleA
       refine ra_y (i := 12) rfl (by kernel_rfl) (by kernel_rfl) (by kernel_rfl) (np_then (np_block (np_then (np_then (np_block (np_then (np_finO))))))) (y_field_p rfl Tryz.f59' rfl (by decide) rfl) rfl ?_
       refine ra_do (i := 6) rfl rfl (by kernel_rfl) ?_
       refine do_call_o (caps := []) (ρ' := [(1, _), (2, _), (7, _), (9, _), (10, _), (11, _), (12, _), (22, _), (28, _), (29, _), (30, _), (32, _)]) [1000] [] trivial rfl rfl rfl Tryz.c60 rfl rfl ⟨rfl, rfl, rfl, rfl, rfl, rfl, rfl, rfl, rfl, rfl, rfl, rfl, trivial⟩ rfl rfl rfl (FnO.mono (rebLine_fn R f caps b0 Y hM hcF (R.mm line) vl line _ oi uA (Nat.le_refl _) hgl (s3.mono hleA) ((hR.mono hle3).mono hleA) (hM _ _ _ _ hleA hYi)) ?_)
       rintro v uK l1 hleK ⟨⟨lcs, ⟨lad, lcap, rfl, hl1⟩, hl2⟩, oK, rfl, hYK⟩ -
       refine ⟨⟨fun _ h => h, trivial⟩, ?_⟩
       refine ra_do (i := 11) rfl rfl (by kernel_rfl) ?_
       refine do_call_o (caps := []) (ρ' := [(1, _), (2, _), (7, _), (9, _), (10, _), (11, _), (12, _), (22, _), (26, _), (32, _)]) [1000] [] trivial rfl rfl rfl Tryz.c27 rfl rfl ⟨rfl, rfl, rfl, rfl, rfl, rfl, rfl, rfl, rfl, rfl, trivial⟩ rfl rfl rfl (FnO.mono (ih (szB kids) (by omega) vk kids _ oK uK (Nat.le_refl _) (by omega) hgk ((s4.mono hleA).mono hleK) (((hR.mono hle3).mono hleA).mono hleK) hYK) ?_)
       rintro v uQ l1 hleQ ⟨⟨kcs, ⟨kad, kcap, rfl, hk1⟩, hk2⟩, oQ, rfl, hYQ⟩ -
       refine ⟨⟨fun _ h => h, trivial⟩, ?_⟩
       refine ra_do (i := 13) rfl rfl (by kernel_rfl) ?_
       refine do_store_p trivial rfl Tryz.k39 rfl rfl rfl (vs := [_, _, _]) rfl rfl (by first | rfl | assumption | simp [Value.oneCell', str]) (Nat.le_of_ble_eq_true rfl) rfl ?_
       refine ra_y (i := 14) rfl (by kernel_rfl) (by kernel_rfl) (by kernel_rfl) (np_then (np_block (np_then (np_then (np_block (np_then (np_finO))))))) (y_field_p rfl Tryz.f59' rfl (by decide) rfl) rfl ?_
       refine ra_do (i := 15) rfl rfl (by kernel_rfl) ?_
       refine do_store_p trivial rfl Tryz.k35 rfl rfl rfl (vs := [_]) rfl rfl (by first | rfl | assumption | simp [Value.oneCell', str]) (Nat.le_of_ble_eq_true rfl) rfl ?_
       refine ra_y (i := 16) rfl (by kernel_rfl) (by kernel_rfl) (by kernel_rfl) (np_then (np_block (np_then (np_then (np_block (np_then (np_finO))))))) (y_field_p rfl Tryz.f59' rfl (by decide) rfl) rfl ?_
       refine ra_do (i := 17) rfl rfl (by kernel_rfl) ?_
       refine do_store_p trivial rfl Tryz.k23 rfl rfl rfl (vs := [_]) rfl rfl (by first | rfl | assumption | simp [Value.oneCell', str]) (Nat.le_of_ble_eq_true rfl) rfl ?_
       refine ra_end (by kernel_rfl) (ρ' := [(1, _), (2, _), (7, _), (9, _), (10, _), (11, _), (12, _)]) ⟨rfl, rfl, rfl, rfl, rfl, rfl, rfl, trivial⟩ ?_
       refine q_thenK ?_
       refine ⟨[(1, _), (2, _), (7, _), (9, _), (10, _), (11, _), (12, _)], [(9, _), (507, _), (1000, _)], ⟨rfl, rfl, rfl, rfl, rfl, rfl, rfl, trivial⟩, ⟨rfl, rfl, rfl, trivial⟩, _, _, lad, lcap, kad, kcap, oQ, (hleA.trans (hleK.trans hleQ)), (by first | rfl | simp), (by first | rfl | (simp only [List.cons.injEq, Prod.mk.injEq, SV.v.injEq, Value.int.injEq, true_and, and_true]; omega) | simp), ?_⟩
       refine ⟨BlkC.mk' (StrS.mono ⟨_, _, rfl, w1⟩ (hleK.trans hleQ)) (PrS.mono ⟨_, _, rfl, w2⟩ (hleK.trans hleQ)) (InlS.mono ⟨lcs, ⟨lad, lcap, rfl, hl1⟩, hl2⟩ hleQ) ⟨kcs, ⟨kad, kcap, rfl, hk1⟩, hk2⟩ (by obtain ⟨o1, o2, o3, o4, o5, o6, o7, o8, o9⟩ := hok; exact ⟨o1, o2, o3, o4, o5, o6, o7, by omega, by omega⟩), by rw [hes]; simpa [List.append_assoc] using hYQ⟩
      exact raall_nil
     exact raall_nil
    ·
     rintro ρ σ uc7 ⟨w1, w2, w3, w4, w5, w6, o7, hlc7, rfl, rfl, ⟨hx7, hY7⟩⟩
     have oneAll7 := hx7.one
     refine wc_region ?_
     refine ym rfl rfl ?_
     refine rl_y (y_load_p rfl Tryz.k59 rfl rfl rfl (vs := [_, _, _, _, _, _, _, _, _, _, _]) rfl rfl rfl) rfl ?_
     refine rl_do rfl rfl ?_
     refine do_buildSlice trivial Tryz.s23 Tryz.z59 (ps := [(_, _)]) rfl (xs := [_, _, _, _, _, _, _, _, _, _, _]) rfl rfl rfl rfl rfl rfl rfl ?_
     refine rl_do rfl rfl ?_
     refine do_append_s trivial rfl rfl Tryz.s23 Tryz.z59 rfl rfl rfl rfl rfl rfl oneAll7 (by omega) (by omega) (ρ' := [(1, _), (2, _), (10, _), (11, _), (12, _)]) ⟨rfl, rfl, rfl, rfl, rfl, trivial⟩ rfl rfl rfl ?_
     refine ya rfl rfl ?_
     refine rl_ren 38 507 rfl rfl rfl ?_
     refine rl_end (ρ' := [(1, _), (2, _), (7, _), (10, _), (11, _), (12, _)]) ⟨rfl, rfl, rfl, rfl, rfl, rfl, trivial⟩ ?_
     refine q_block ?_
     refine q_then ?_
     refine wc_region ?_
     refine rl_y (y_add rfl rfl rfl (wrap64_id (by omega))) rfl ?_
     refine ym rfl rfl ?_
     refine rl_end (ρ' := [(1, _), (2, _), (7, _), (10, _), (11, _), (12, _)]) ⟨rfl, rfl, rfl, rfl, rfl, rfl, trivial⟩ ?_
     refine q_thenK ?_
     refine ⟨m - 1, [(1, _), (2, _), (7, _), (10, _), (11, _), (12, _)], [(507, _), (1000, _)], by omega, ⟨rfl, rfl, rfl, rfl, rfl, rfl, trivial⟩, ⟨rfl, rfl, trivial⟩, i + 1, by omega, (by first | exact hle3.trans hlc7 | exact hle3), _, _, (by first | (rw [hbs, List.length_append]; rfl) | (rw [hbs])), (by first | rfl | simp), ?_⟩
     first
      | (refine ⟨?_, ?_⟩; rw [hbs]; exact (hacc.mono hlc7).append (BlksC.one hx7); exact hY7)
      | (refine ⟨?_, ?_⟩; rw [hbs]; exact hacc; rw [hes]; exact hYi)
  ·
   have hge := of_decide_eq_false hb3
   refine wc_exit ?_
   refine q_then_exit ?_
   refine q_then_exit ?_
   refine q_block_hit ?_
   refine q_then ?_
   refine wc_seq ?_
   refine wc_region ?_
   refine ym rfl rfl ?_
   refine rl_freeze 507 rfl ?_
   intro ad507 cap507 u507 hle507z hsl507
   refine ya rfl rfl ?_
   refine rl_end (ρ' := [(6, _)]) ⟨rfl, trivial⟩ ?_
   refine q_then ?_
   refine wc_ret ?_
   refine finO1 [1000] (.tmp rfl) rfl rfl ?_
   rw [List.take_of_length_le (by omega)] at hacc hYi hsl507
   exact ⟨⟨_, ⟨_, _, by rw [List.take_of_length_le (by omega)], hsl507⟩, hacc.mono hle507z⟩, oi, rfl, hM _ _ _ _ hle507z hYi⟩
theorem strS_of' {u : View} {ad : Option Addr} {cap n : Nat} {xs : List Bs} (hn : n = xs.length) (h : SlC u ad n cap 1 (strsC xs)) : StrS u (.slice ad n cap) xs := by
 subst hn
 exact ⟨ad, cap, rfl, h⟩
abbrev txtO (l : List Bs) : OO := .rb 9 1 l.length (strsC l)
theorem add_fn (b0 : Nat) (l : List Bs) (id : Bs) (hl : l.length ≤ 1000000) (u : View) :
  FnO Tryz.prog 41 [str id, .pointer (some ⟨b0, 0, none⟩)] u [(some b0, txtO l)] fun r u' l' => r = .tuple #[] ∧ l' = [(some b0, txtO (l ++ nz id))] := by
 refine FnO.intro [] Tryz.func41 rfl rfl rfl ?_
 intro w0 D hw0
 refine wc_pin 1 1000 _ 0 rfl rfl ?_
 refine wc_seq ?_
 refine wc_region ?_
 refine ym rfl rfl ?_
 refine rl_y (y_str_neq rfl rfl rfl) rfl ?_
 refine rl_end (ρ' := [(0, _), (1, _), (4, _)]) ⟨rfl, rfl, rfl, trivial⟩ ?_
 refine q_then ?_
 refine wc_cond rfl (fun hb0 => ?_) (fun hb0 => ?_)
 ·
  have h0 := of_decide_eq_true hb0; have hz : nz id = [id] := if_neg h0
  refine wc_region ?_
  refine rl_y (y_load_rb rfl Tryz.k37 rfl rfl rfl) rfl ?_
  refine ym rfl rfl ?_
  refine rl_do rfl rfl ?_
  refine do_buildSlice trivial Tryz.s37 Tryz.z9 (ps := [(_, _)]) rfl (xs := [_]) rfl rfl rfl rfl rfl rfl rfl ?_
  refine rl_do rfl rfl ?_
  refine do_append_rb_s trivial rfl rfl Tryz.s37 Tryz.z9 rfl rfl rfl rfl rfl rfl (by first | rfl | assumption | simp [Value.oneCell', str]) (by omega) (by omega) (ρ' := [(1, _)]) ⟨rfl, trivial⟩ rfl rfl rfl rfl ?_
  refine rl_do rfl rfl ?_
  refine do_store_rb (ρ' := []) trivial rfl Tryz.k37 rfl rfl rfl rfl trivial rfl rfl rfl ?_
  refine rl_end (ρ' := []) trivial ?_
  refine finO0n [1000]  rfl rfl ?_
  rw [hz]
  first
   | (refine ⟨rfl, ?_⟩; simp [txtO, strsC]; done)
   | (refine ⟨rfl, ?_⟩; rfl)
 ·
  have h0 := of_decide_eq_false hb0; have hz : nz id = [] := if_pos (Decidable.of_not_not h0)
  refine wc_skip ?_
  refine finO0n [1000]  rfl rfl ?_
  rw [hz]
  first
   | (refine ⟨rfl, ?_⟩; simp [txtO, strsC]; done)
   | (refine ⟨rfl, ?_⟩; rfl)
def namesY (b0 : Nat) : Ys := fun _ pre o => o = txtO (namesE pre)
theorem namesB_fn (ba b0 : Nat) (u : View) (T : TypeId) (fr : Nat × Nat) (hba : u ba = some (.cells [.func (.func 41) #[] #[.pointer (some ⟨b0, 0, none⟩)]].toArray T fr)) (pre : List Ev) (o : OO) (u' : View) (p : Value) (x : Blk) (hle : VLe u u') (hl : pre.length ≤ 200000) (hY : namesY b0 u' pre o) (hp : PtrB u' p x) :
  FnO Tryz.prog 42 [p, .pointer (some ⟨ba, 0, none⟩)] u' [(some b0, o)] fun r u'' l' => r = .tuple #[] ∧ ∃ o', l' = [(some b0, o')] ∧ namesY b0 u'' (pre ++ [Sum.inl x]) o' := by
 obtain ⟨b, off, c, Tp, frp, rfl, hu1, hc⟩ := hp
 obtain ⟨k, lv, inf, t, d, ti, a, line, kids⟩ := x
 obtain ⟨vc, vp, vl, vk, hP, _⟩ := hc.cells
 have hba := hle _ _ hba
 have hln := namesE_len pre
 subst hY
 refine FnO.intro [] Tryz.func42 rfl rfl rfl ?_
 intro w0 D hw0
 refine wc_draw Tryz.mixed rfl [] trivial ?_
 refine ra_y (i := 0) rfl (by kernel_rfl) (by kernel_rfl) (by kernel_rfl) (np_finO) (y_load_v rfl Tryz.k76 rfl (by assumption) (vs := [_]) (by first | rfl | exact hP | exact cut_at hP rfl (Nat.le_of_ble_eq_true rfl) rfl) rfl rfl) rfl ?_
 refine ra_y (i := 1) rfl (by kernel_rfl) (by kernel_rfl) (by kernel_rfl) (np_finO) (y_move rfl rfl) rfl ?_
 refine ra_y (i := 2) rfl (by kernel_rfl) (by kernel_rfl) (by kernel_rfl) (np_finO) (y_nilCheck_v rfl rfl) rfl ?_
 refine ra_y (i := 3) rfl (by kernel_rfl) (by kernel_rfl) (by kernel_rfl) (np_finO) (y_field_v rfl Tryz.f59' rfl (by decide) rfl) rfl ?_
 refine ra_y (i := 4) rfl (by kernel_rfl) (by kernel_rfl) (by kernel_rfl) (np_finO) (y_field_v rfl Tryz.f39' rfl (by decide) rfl) rfl ?_
 refine ra_y (i := 5) rfl (by kernel_rfl) (by kernel_rfl) (by kernel_rfl) (np_finO) (y_load_v rfl Tryz.k9 rfl (by assumption) (vs := [_]) (by first | rfl | exact hP | exact cut_at hP rfl (Nat.le_of_ble_eq_true rfl) rfl) rfl rfl) rfl ?_
 refine ra_do (i := 6) rfl rfl (by kernel_rfl) ?_
 refine do_call_o (caps := [.pointer (some ⟨b0, 0, none⟩)]) (ρ' := []) [1000] [] trivial rfl rfl rfl Tryz.c41 rfl rfl trivial rfl rfl rfl (FnO.mono (add_fn b0 (namesE pre) a.id (by omega) u') ?_)
 rintro v u1 l1 hle1 ⟨rfl, rfl⟩ -
 refine ⟨⟨fun _ h => h, trivial⟩, ?_⟩
 refine ra_end (by kernel_rfl) (ρ' := []) trivial ?_
 refine finO0n [1000]  rfl rfl ?_
 exact ⟨rfl, _, rfl, by unfold namesY; rw [namesE_append]; simp [namesE, evId, idB]⟩
theorem namesI_fn (ba b0 : Nat) (u : View) (T : TypeId) (fr : Nat × Nat) (hba : u ba = some (.cells [.func (.func 41) #[] #[.pointer (some ⟨b0, 0, none⟩)]].toArray T fr)) (pre : List Ev) (o : OO) (u' : View) (p : Value) (x : Inl) (hle : VLe u u') (hl : pre.length ≤ 200000) (hY : namesY b0 u' pre o) (hp : PtrI u' p x) :
  FnO Tryz.prog 43 [p, .pointer (some ⟨ba, 0, none⟩)] u' [(some b0, o)] fun r u'' l' => r = .tuple #[] ∧ ∃ o', l' = [(some b0, o')] ∧ namesY b0 u'' (pre ++ [Sum.inr x]) o' := by
 obtain ⟨b, off, c, Tp, frp, rfl, hu1, hc⟩ := hp
 obtain ⟨k, t, d, ti, a, args, cites, kids⟩ := x
 obtain ⟨vc, vp, va, vt, vk, hP, _⟩ := hc.cells
 have hba := hle _ _ hba
 have hln := namesE_len pre
 subst hY
 refine FnO.intro [] Tryz.func43 rfl rfl rfl ?_
 intro w0 D hw0
 refine wc_draw Tryz.mixed rfl [] trivial ?_
 refine ra_y (i := 0) rfl (by kernel_rfl) (by kernel_rfl) (by kernel_rfl) (np_finO) (y_load_v rfl Tryz.k76 rfl (by assumption) (vs := [_]) (by first | rfl | exact hP | exact cut_at hP rfl (Nat.le_of_ble_eq_true rfl) rfl) rfl rfl) rfl ?_
 refine ra_y (i := 1) rfl (by kernel_rfl) (by kernel_rfl) (by kernel_rfl) (np_finO) (y_move rfl rfl) rfl ?_
 refine ra_y (i := 2) rfl (by kernel_rfl) (by kernel_rfl) (by kernel_rfl) (np_finO) (y_nilCheck_v rfl rfl) rfl ?_
 refine ra_y (i := 3) rfl (by kernel_rfl) (by kernel_rfl) (by kernel_rfl) (np_finO) (y_field_v rfl Tryz.f42' rfl (by decide) rfl) rfl ?_
 refine ra_y (i := 4) rfl (by kernel_rfl) (by kernel_rfl) (by kernel_rfl) (np_finO) (y_field_v rfl Tryz.f39' rfl (by decide) rfl) rfl ?_
 refine ra_y (i := 5) rfl (by kernel_rfl) (by kernel_rfl) (by kernel_rfl) (np_finO) (y_load_v rfl Tryz.k9 rfl (by assumption) (vs := [_]) (by first | rfl | exact hP | exact cut_at hP rfl (Nat.le_of_ble_eq_true rfl) rfl) rfl rfl) rfl ?_
 refine ra_do (i := 6) rfl rfl (by kernel_rfl) ?_
 refine do_call_o (caps := [.pointer (some ⟨b0, 0, none⟩)]) (ρ' := []) [1000] [] trivial rfl rfl rfl Tryz.c41 rfl rfl trivial rfl rfl rfl (FnO.mono (add_fn b0 (namesE pre) a.id (by omega) u') ?_)
 rintro v u1 l1 hle1 ⟨rfl, rfl⟩ -
 refine ⟨⟨fun _ h => h, trivial⟩, ?_⟩
 refine ra_end (by kernel_rfl) (ρ' := []) trivial ?_
 refine finO0n [1000]  rfl rfl ?_
 exact ⟨rfl, _, rfl, by unfold namesY; rw [namesE_append]; simp [namesE, evId, idI]⟩
theorem labNames_fn (vm vb : Value) (bs : List Blk) (u : View) (hbig : szB bs ≤ 100000) (ha : BlkS u vb bs) :
  FnP Tryz.prog 16 [.agg #[vm, vb]] u fun r u' => StrS u' r (namesOf bs) := by
 have ha2 := ha
 obtain ⟨cs, ⟨ad, cap, rfl, h1⟩, hc1⟩ := ha2
 refine FnP.intro [.tmp 2] Tryz.func16 rfl rfl rfl ?_
 intro w0 D hw0
 refine wc_seq ?_
 refine wc_region ?_
 refine rl_do rfl rfl ?_
 refine do_box trivial rfl (cs := [_, _]) rfl rfl rfl rfl ?_
 refine ya rfl rfl ?_
 refine rl_end (ρ' := [(1, _)]) ⟨rfl, trivial⟩ ?_
 refine q_then ?_
 refine wc_seq ?_
 refine wc_region ?_
 refine rl_do rfl rfl ?_
 refine do_alloc_rb 9 1 trivial Tryz.z37 rfl rfl rfl ?_
 refine rl_end (ρ' := [(1, _), (3, _)]) ⟨rfl, rfl, trivial⟩ ?_
 refine q_then ?_
 refine wc_seq ?_
 refine wc_region ?_
 refine rl_name 3 rfl ⟨3, _, .inl rfl⟩ ?_
 intro b3
 refine rl_y (y_makeFunc rfl rfl rfl) rfl ?_
 refine rl_do rfl rfl ?_
 refine do_alloc trivial Tryz.z76 rfl rfl rfl ?_
 refine rl_do rfl rfl ?_
 refine do_store_p trivial rfl Tryz.k76 rfl rfl rfl (vs := [_]) rfl rfl (by first | rfl | assumption | simp [Value.oneCell', str]) (Nat.le_of_ble_eq_true rfl) rfl ?_
 refine rl_reveal 4 rfl ?_
 intro b4 T4 u4 hle4z hu4 hpn4
 refine rl_end (ρ' := [(1, _), (3, _), (4, _)]) ⟨rfl, rfl, rfl, trivial⟩ ?_
 refine q_then ?_
 refine wc_seq ?_
 refine wc_region ?_
 refine rl_y (y_makeFunc rfl rfl rfl) rfl ?_
 refine rl_y (y_makeFunc rfl rfl rfl) rfl ?_
 refine rl_y (y_build rfl Tryz.f82' Tryz.z82 (ps := [(_, _), (_, _)]) rfl (vs := [_, _]) rfl) rfl ?_
 refine rl_y (y_field_p rfl Tryz.f25' rfl (by decide) rfl) rfl ?_
 refine rl_y (y_load_p rfl Tryz.k23 rfl rfl rfl (vs := [_]) rfl rfl rfl) rfl ?_
 refine rl_do rfl rfl ?_
 refine do_call_o (caps := []) (ρ' := [(3, _)]) [3] [] trivial rfl rfl rfl Tryz.c44 rfl rfl ⟨rfl, trivial⟩ rfl rfl rfl (FnO.mono (vBlk_fn _ _ b3 (namesY b3) (fun _ _ _ _ _ h ↦ h) (szB bs) _ bs [] _ u4 (Nat.le_refl _) (by simp; omega) (ha.mono hle4z) (.inr ⟨42, [.pointer (some ⟨b4, 0, none⟩)], rfl, Tryz.c42, fun pre o u' p x hle hl hY hp ↦ namesB_fn b4 b3 u4 _ _ hu4 pre o u' p x hle hl hY hp⟩) (.inr ⟨43, [.pointer (some ⟨b4, 0, none⟩)], rfl, Tryz.c43, fun pre o u' p x hle hl hY hp ↦ namesI_fn b4 b3 u4 _ _ hu4 pre o u' p x hle hl hY hp⟩) rfl) ?_)
 rintro v uV l1 hleV ⟨rfl, o3, rfl, rfl⟩ -
 refine ⟨⟨fun _ h => h, trivial⟩, ?_⟩
 refine rl_end (ρ' := [(3, _)]) ⟨rfl, trivial⟩ ?_
 refine q_then ?_
 refine wc_seq ?_
 refine wc_region ?_
 refine rl_y (y_load_rb rfl Tryz.k37 rfl rfl rfl) rfl ?_
 refine rl_freeze_rb 3 rfl ?_
 intro ad3 cap3 u3 hle3z hsl3
 refine ya rfl rfl ?_
 refine rl_end (ρ' := [(2, _)]) ⟨rfl, trivial⟩ ?_
 refine q_then ?_
 refine wc_ret ?_
 refine fin1 (.tmp rfl) ?_
 exact strS_of' rfl (by simpa [namesOf] using hsl3)
end Go.Proofs.Ythkgcakpjknlbaa
namespace Go.Eng
open Go Go.RowKit
set_option linter.unusedSimpArgs false
set_option linter.unusedVariables false
theorem keyB_str (a b : List UInt8) : keyB (str a) (str b) = decide (a = b) := by
 have h : keyB (str a) (str b) = ((⟨a.toArray⟩ : ByteArray) == ⟨b.toArray⟩) := rfl
 have h2 : ((⟨a.toArray⟩ : ByteArray) == ⟨b.toArray⟩) = (a.toArray == b.toArray) := rfl
 rw [h, h2]
 by_cases e : a = b
 ·
  subst e; simp
 ·
  rw [decide_eq_false e]; simpa using e
theorem fnd_shift (k : Value) : ∀ (l : List (Value × Value)) (i j : Nat), (fnd k l i).map (·.2) = (fnd k l j).map (·.2)
 | [], i, j => rfl
 | p :: r, i, j => by
  simp only [fnd]
  cases keyB k p.1 with
  | true => rfl
  | false => exact fnd_shift k r (i + 1) (j + 1)
theorem mget_nil (k : Value) : mget [] k = none := rfl
theorem mget_cons (p : Value × Value) (r : List (Value × Value)) (k : Value) : mget (p :: r) k = if keyB k p.1 = true then some p.2 else mget r k := by
 unfold mget
 simp only [fnd]
 cases keyB k p.1 with
 | true => simp
 | false => simpa using fnd_shift k r 1 0
def SKeys (kvs : List (Value × Value)) : Prop := kvs.all (fun p => isKey .string p.1) = true
theorem isKey_str {v : Value} (h : isKey .string v = true) : ∃ s, v = str s := by
 cases v with
 | string b => exact ⟨b.data.toList, by cases b; simp [str]⟩
 | _ => simp [isKey] at h
theorem mget_mset : ∀ (kvs : List (Value × Value)) (a b : List UInt8) (v : Value), SKeys kvs → mget (mset kvs (str a) v) (str b) = if b = a then some v else mget kvs (str b)
 | [], a, b, v, _ => by
  simp only [mset, mget_cons, mget_nil, keyB_str]
  by_cases h : b = a <;> simp [h]
 | p :: r, a, b, v, h => by
  have h0 : isKey .string p.1 = true := by have := List.all_eq_true.1 h p (by simp); exact this
  have hr : SKeys r := List.all_eq_true.2 fun x hx => List.all_eq_true.1 h x (by simp [hx])
  obtain ⟨s, hs⟩ := isKey_str h0
  obtain ⟨p1, p2⟩ := p
  simp only at hs
  subst hs
  simp only [mset, keyB_str]
  by_cases hs : a = s
  ·
   subst hs
   simp only [decide_true, mget_cons, keyB_str]
   by_cases h : b = a <;> simp [h]
  ·
   rw [decide_eq_false hs]
   simp only [mget_cons, keyB_str, mget_mset r a b v hr]
   by_cases h : b = a
   ·
    subst h; simp [hs]
   ·
    simp [h]
theorem SKeys.mset {a : List UInt8} {v : Value} : ∀ {kvs : List (Value × Value)}, SKeys kvs → SKeys (Eng.mset kvs (str a) v)
 | [], _ => by simp [Eng.mset, SKeys, isKey, str]
 | p :: r, h => by
  have h0 : isKey .string p.1 = true := by have := List.all_eq_true.1 h p (by simp); exact this
  have hr : SKeys r := List.all_eq_true.2 fun x hx => List.all_eq_true.1 h x (by simp [hx])
  simp only [Eng.mset]
  cases keyB (str a) p.1 with
  | true =>
   refine List.all_eq_true.2 fun x hx => ?_
   rcases List.mem_cons.1 hx with rfl | hx
   ·
    simp [isKey, str]
   ·
    exact List.all_eq_true.1 hr x hx
  | false =>
   refine List.all_eq_true.2 fun x hx => ?_
   rcases List.mem_cons.1 hx with rfl | hx
   ·
    exact h0
   ·
    exact List.all_eq_true.1 (SKeys.mset (a := a) (v := v) hr) x hx
end Go.Eng
namespace Go.Proofs.Ythkgcakpjknlbaa
open Go Go.Eng
set_option linter.unusedSimpArgs false
set_option linter.unusedVariables false
set_option maxRecDepth 4000
def SetM (kvs : List (Value × Value)) (Dn : List Bs) : Prop := kvs.all (fun p => isKey .string p.1) = true ∧ ∀ s, (mget kvs (str s)).getD (.bool false) = .bool (decide (s ∈ Dn))
theorem SetM.nil : SetM [] [] := ⟨rfl, fun s => by simp [mget_nil]⟩
theorem SetM.add {kvs : List (Value × Value)} {Dn : List Bs} (h : SetM kvs Dn) (t : Bs) : SetM (mset kvs (str t) (.bool true)) (Dn ++ [t]) := by
 refine ⟨SKeys.mset h.1, fun s => ?_⟩
 rw [mget_mset _ _ _ _ h.1]
 by_cases e : s = t
 ·
  subst e; simp
 ·
  rw [if_neg e, h.2 s]; simp [e]
theorem SetM.congr {kvs : List (Value × Value)} {Dn E : List Bs} (h : SetM kvs Dn) (e : ∀ s, s ∈ Dn ↔ s ∈ E) : SetM kvs E := ⟨h.1, fun s => by rw [h.2 s]; simp [e s]⟩
theorem u8_35 (c : UInt8) : decide ((c.toNat : Int) = 35) = decide (c = 35) := by
 refine decide_eq_decide.2 ⟨fun h => ?_, fun h => by rw [h]; rfl⟩
 have : c.toNat = 35 := by omega
 exact UInt8.toNat_inj.1 this
theorem tail_take (d : Bs) : (d.drop 1).take (d.length - 1) = d.tail := by
 cases d with
 | nil => rfl
 | cons c d => simp
theorem chk_fn (b0 bm : Nat) (kvs : List (Value × Value)) (Dn : List Bs) (l : List Bs) (name : Bs) (hl : l.length ≤ 1000000) (u : View) (hm : MapV u bm kvs) (hs : SetM kvs Dn) :
  FnO Tryz.prog 76 [str name, .map (some bm), .pointer (some ⟨b0, 0, none⟩)] u [(some b0, txtO l)] fun r u' l' => r = .tuple #[] ∧ l' = [(some b0, txtO (l ++ if name ∈ Dn then [] else [name]))] := by
 refine FnO.intro [] Tryz.func76 rfl rfl rfl ?_
 intro w0 D hw0
 refine wc_pin 2 1000 _ 0 rfl rfl ?_
 refine wc_seq ?_
 refine wc_region ?_
 refine ym rfl rfl ?_
 refine ym rfl rfl ?_
 refine rl_y (y_lookup_v rfl Tryz.m75 Tryz.str9 Tryz.v4 rfl hm rfl rfl hs.1) rfl ?_
 rw [hs.2 name]
 refine rl_y (y_not rfl rfl) rfl ?_
 refine rl_end (ρ' := [(0, _), (2, _), (8, _)]) ⟨rfl, rfl, rfl, trivial⟩ ?_
 refine q_then ?_
 refine wc_cond rfl (fun hb0 => ?_) (fun hb0 => ?_)
 ·
  have h0 : name ∉ Dn := (by simpa using hb0)
  refine wc_region ?_
  refine rl_y (y_load_rb rfl Tryz.k37 rfl rfl rfl) rfl ?_
  refine ym rfl rfl ?_
  refine rl_do rfl rfl ?_
  refine do_buildSlice trivial Tryz.s37 Tryz.z9 (ps := [(_, _)]) rfl (xs := [_]) rfl rfl rfl rfl rfl rfl rfl ?_
  refine rl_do rfl rfl ?_
  refine do_append_rb_s trivial rfl rfl Tryz.s37 Tryz.z9 rfl rfl rfl rfl rfl rfl (by first | rfl | assumption | simp [Value.oneCell', str]) (by omega) (by omega) (ρ' := [(2, _)]) ⟨rfl, trivial⟩ rfl rfl rfl rfl ?_
  refine rl_do rfl rfl ?_
  refine do_store_rb (ρ' := []) trivial rfl Tryz.k37 rfl rfl rfl rfl trivial rfl rfl rfl ?_
  refine rl_end (ρ' := []) trivial ?_
  refine finO0n [1000]  rfl rfl ?_
  first
   | (rw [if_neg h0]; refine ⟨rfl, ?_⟩; simp [txtO, strsC]; done)
   | (rw [if_pos h0, List.append_nil]; exact ⟨rfl, rfl⟩)
 ·
  have h0 : name ∈ Dn := (by simpa using hb0)
  refine wc_skip ?_
  refine finO0n [1000]  rfl rfl ?_
  first
   | (rw [if_neg h0]; refine ⟨rfl, ?_⟩; simp [txtO, strsC]; done)
   | (rw [if_pos h0, List.append_nil]; exact ⟨rfl, rfl⟩)
def notesY : Ys := fun _ pre o => ∃ kvs, o = .mp kvs ∧ SetM kvs (pre.flatMap evNote)
theorem missN_fn (bx bm : Nat) (u : View) (T : TypeId) (fr : Nat × Nat) (hbx : u bx = some (.cells [.map (some bm)].toArray T fr)) (pre : List Ev) (o : OO) (u' : View) (p : Value) (x : Blk) (hle : VLe u u') (hl : pre.length ≤ 200000) (hY : notesY u' pre o) (hp : PtrB u' p x) :
  FnO Tryz.prog 75 [p, .pointer (some ⟨bx, 0, none⟩)] u' [(some bm, o)] fun r u'' l' => r = .tuple #[] ∧ ∃ o', l' = [(some bm, o')] ∧ notesY u'' (pre ++ [Sum.inl x]) o' := by
 obtain ⟨b, off, c, Tp, frp, rfl, hu1, hc⟩ := hp
 obtain ⟨k, lv, inf, t, d, ti, a, line, kids⟩ := x
 obtain ⟨vc, vp, vl, vk, hP, _⟩ := hc.cells
 have hbx := hle _ _ hbx
 obtain ⟨kvs, rfl, hs⟩ := hY
 have hk := hs.1
 refine FnO.intro [] Tryz.func75 rfl rfl rfl ?_
 intro w0 D hw0
 refine wc_seq ?_
 refine wc_region ?_
 refine ym rfl rfl ?_
 refine rl_y (y_nilCheck_v rfl rfl) rfl ?_
 refine rl_y (y_field_v rfl Tryz.f59' rfl (by decide) rfl) rfl ?_
 refine rl_y (y_load_v rfl Tryz.k3 rfl (by assumption) (vs := [_]) (by first | rfl | exact hP | exact cut_at hP rfl (Nat.le_of_ble_eq_true rfl) rfl) rfl rfl) rfl ?_
 refine rl_y (y_eql rfl rfl rfl) rfl ?_
 refine rl_end (ρ' := [(0, _), (1, _), (7, _)]) ⟨rfl, rfl, rfl, trivial⟩ ?_
 refine q_then ?_
 refine wc_cond rfl (fun hb0 => ?_) (fun hb0 => ?_)
 ·
  have h0 := of_decide_eq_true hb0
  refine wc_draw Tryz.mixed rfl [] trivial ?_
  refine ra_y (i := 0) rfl (by kernel_rfl) (by kernel_rfl) (by kernel_rfl) (np_finO) (y_load_v rfl Tryz.k75 rfl (by assumption) (vs := [_]) (by first | rfl | exact hP | exact cut_at hP rfl (Nat.le_of_ble_eq_true rfl) rfl) rfl rfl) rfl ?_
  refine ra_pinSM 8 1000 bm rfl rfl ?_
  refine ra_y (i := 1) rfl (by kernel_rfl) (by kernel_rfl) (by kernel_rfl) (np_finO) (y_move rfl rfl) rfl ?_
  refine ra_y (i := 2) rfl (by kernel_rfl) (by kernel_rfl) (by kernel_rfl) (np_finO) (y_nilCheck_v rfl rfl) rfl ?_
  refine ra_y (i := 3) rfl (by kernel_rfl) (by kernel_rfl) (by kernel_rfl) (np_finO) (y_field_v rfl Tryz.f59' rfl (by decide) rfl) rfl ?_
  refine ra_y (i := 4) rfl (by kernel_rfl) (by kernel_rfl) (by kernel_rfl) (np_finO) (y_load_v rfl Tryz.k9 rfl (by assumption) (vs := [_]) (by first | rfl | exact hP | exact cut_at hP rfl (Nat.le_of_ble_eq_true rfl) rfl) rfl rfl) rfl ?_
  refine ra_do (i := 5) rfl rfl (by kernel_rfl) ?_
  refine do_mapUpdate trivial rfl Tryz.m75 Tryz.str9 rfl rfl rfl rfl rfl (by assumption) ?_
  refine ra_end (by kernel_rfl) (ρ' := []) trivial ?_
  refine finO0n [1000]  rfl rfl ?_
  refine ⟨rfl, _, rfl, ?_⟩
  first
   | exact ⟨_, rfl, by simpa [evNote, noteName, h0] using hs.add inf⟩
   | exact ⟨_, rfl, by simpa [evNote, noteName, h0] using hs⟩
 ·
  have h0 := of_decide_eq_false hb0
  refine wc_skip ?_
  refine finO0n [1000]  rfl rfl ?_
  refine ⟨rfl, _, rfl, ?_⟩
  first
   | exact ⟨_, rfl, by simpa [evNote, noteName, h0] using hs.add inf⟩
   | exact ⟨_, rfl, by simpa [evNote, noteName, h0] using hs⟩
def missY (Dn N : List Bs) : Ys := fun _ pre o => o = txtO (missE Dn N pre)
set_option maxHeartbeats 1000000 in
theorem missI_fn (bc bi bn b0 mi mn : Nat) (ki kn : List (Value × Value)) (Dn N : List Bs) (u : View) (T1 T2 T3 : TypeId) (f1 f2 f3 : Nat × Nat) (hbc : u bc = some (.cells [.func (.func 76) #[] #[.pointer (some ⟨b0, 0, none⟩)]].toArray T1 f1))
  (hbi : u bi = some (.cells [.map (some mi)].toArray T2 f2)) (hbn : u bn = some (.cells [.map (some mn)].toArray T3 f3)) (hmi : MapV u mi ki) (hmn : MapV u mn kn) (hsi : SetM ki Dn) (hsn : SetM kn N)
  (pre : List Ev) (o : OO) (u' : View) (p : Value) (x : Inl) (hle : VLe u u') (hl : pre.length ≤ 200000) (hY : missY Dn N u' pre o) (hp : PtrI u' p x) :
  FnO Tryz.prog 77 [p, .pointer (some ⟨bc, 0, none⟩), .pointer (some ⟨bi, 0, none⟩), .pointer (some ⟨bn, 0, none⟩)] u' [(some b0, o)] fun r u'' l' => r = .tuple #[] ∧ ∃ o', l' = [(some b0, o')] ∧ missY Dn N u'' (pre ++ [Sum.inr x]) o' := by
 obtain ⟨b, off, c, Tp, frp, rfl, hu1, hc⟩ := hp
 obtain ⟨k, t, d, ti, a, args, cites, kids⟩ := x
 obtain ⟨vc, vp, va, vt, vk, hP, _, _, _, _, _, hok⟩ := hc.cells
 obtain ⟨_, okt, okd, _⟩ := hok
 have hbc := hle _ _ hbc
 have hbi := hle _ _ hbi
 have hbn := hle _ _ hbn
 have hmi := hmi.mono hle
 have hmn := hmn.mono hle
 have hln := missE_len Dn N pre
 have hst : missE Dn N (pre ++ [Sum.inr (.mk k t d ti a args cites kids)]) = missE Dn N pre ++ (if k = 14 then (if t ∈ Dn then [] else [t]) else if k = 12 then (if t ∈ N then [] else [t]) else if k = 9 ∧ t = [] ∧ d.head? = some 35 then (if d.tail ∈ Dn then [] else [d.tail]) else []) := by simp [missE, missEv]
 subst hY
 refine FnO.intro [] Tryz.func77 rfl rfl rfl ?_
 intro w0 D hw0
 refine wc_seq ?_
 refine wc_region ?_
 refine ym rfl rfl ?_
 refine rl_y (y_nilCheck_v rfl rfl) rfl ?_
 refine rl_y (y_field_v rfl Tryz.f42' rfl (by decide) rfl) rfl ?_
 refine rl_y (y_load_v rfl Tryz.k3 rfl (by assumption) (vs := [_]) (by first | rfl | exact hP | exact cut_at hP rfl (Nat.le_of_ble_eq_true rfl) rfl) rfl rfl) rfl ?_
 refine rl_end (ρ' := [(0, _), (1, _), (2, _), (3, _), (8, _)]) ⟨rfl, rfl, rfl, rfl, rfl, trivial⟩ ?_
 refine q_then ?_
 refine wc_block ?_
 refine wc_seq ?_
 refine wc_region ?_
 refine rl_y (y_eql rfl rfl rfl) rfl ?_
 refine ya rfl rfl ?_
 refine rl_end (ρ' := [(0, _), (1, _), (2, _), (3, _), (8, _), (9, _)]) ⟨rfl, rfl, rfl, rfl, rfl, rfl, trivial⟩ ?_
 refine q_then ?_
 refine wc_cond rfl (fun hb1 => ?_) (fun hb1 => ?_)
 ·
  have h1 := of_decide_eq_true hb1
  refine wc_draw Tryz.mixed rfl [] trivial ?_
  refine ra_y (i := 0) rfl (by kernel_rfl) (by kernel_rfl) (by kernel_rfl) (np_block (np_finO)) (y_load_v rfl Tryz.k116 rfl (by assumption) (vs := [_]) (by first | rfl | exact hP | exact cut_at hP rfl (Nat.le_of_ble_eq_true rfl) rfl) rfl rfl) rfl ?_
  refine ra_y (i := 1) rfl (by kernel_rfl) (by kernel_rfl) (by kernel_rfl) (np_block (np_finO)) (y_move rfl rfl) rfl ?_
  refine ra_y (i := 2) rfl (by kernel_rfl) (by kernel_rfl) (by kernel_rfl) (np_block (np_finO)) (y_nilCheck_v rfl rfl) rfl ?_
  refine ra_y (i := 3) rfl (by kernel_rfl) (by kernel_rfl) (by kernel_rfl) (np_block (np_finO)) (y_field_v rfl Tryz.f42' rfl (by decide) rfl) rfl ?_
  refine ra_y (i := 4) rfl (by kernel_rfl) (by kernel_rfl) (by kernel_rfl) (np_block (np_finO)) (y_load_v rfl Tryz.k9 rfl (by assumption) (vs := [_]) (by first | rfl | exact hP | exact cut_at hP rfl (Nat.le_of_ble_eq_true rfl) rfl) rfl rfl) rfl ?_
  refine ra_y (i := 5) rfl (by kernel_rfl) (by kernel_rfl) (by kernel_rfl) (np_block (np_finO)) (y_load_v rfl Tryz.k75 rfl (by assumption) (vs := [_]) (by first | rfl | exact hP | exact cut_at hP rfl (Nat.le_of_ble_eq_true rfl) rfl) rfl rfl) rfl ?_
  refine ra_do (i := 6) rfl rfl (by kernel_rfl) ?_
  refine do_call_o (caps := [.pointer (some ⟨b0, 0, none⟩)]) (ρ' := []) [1000] [] trivial rfl rfl rfl Tryz.c76 rfl rfl trivial rfl rfl rfl (FnO.mono (chk_fn b0 mi ki Dn (missE Dn N pre) t (by omega) u' hmi hsi) ?_)
  rintro v u1 l1 hle1 ⟨rfl, rfl⟩ -
  refine ⟨⟨fun _ h => h, trivial⟩, ?_⟩
  refine ra_end (by kernel_rfl) (ρ' := []) trivial ?_
  refine q_block ?_
  refine finO0n [1000]  rfl rfl ?_
  refine ⟨rfl, _, rfl, ?_⟩
  unfold missY
  rw [hst, if_pos h1]
 ·
  have h1 := of_decide_eq_false hb1
  refine wc_seq ?_
  refine wc_region ?_
  refine rl_y (y_eql rfl rfl rfl) rfl ?_
  refine ya rfl rfl ?_
  refine rl_end (ρ' := [(0, _), (1, _), (2, _), (3, _), (8, _), (18, _)]) ⟨rfl, rfl, rfl, rfl, rfl, rfl, trivial⟩ ?_
  refine q_then ?_
  refine wc_cond rfl (fun hb3 => ?_) (fun hb3 => ?_)
  ·
   have h3 := of_decide_eq_true hb3
   refine wc_draw Tryz.mixed rfl [] trivial ?_
   refine ra_y (i := 0) rfl (by kernel_rfl) (by kernel_rfl) (by kernel_rfl) (np_block (np_finO)) (y_load_v rfl Tryz.k116 rfl (by assumption) (vs := [_]) (by first | rfl | exact hP | exact cut_at hP rfl (Nat.le_of_ble_eq_true rfl) rfl) rfl rfl) rfl ?_
   refine ra_y (i := 1) rfl (by kernel_rfl) (by kernel_rfl) (by kernel_rfl) (np_block (np_finO)) (y_move rfl rfl) rfl ?_
   refine ra_y (i := 2) rfl (by kernel_rfl) (by kernel_rfl) (by kernel_rfl) (np_block (np_finO)) (y_nilCheck_v rfl rfl) rfl ?_
   refine ra_y (i := 3) rfl (by kernel_rfl) (by kernel_rfl) (by kernel_rfl) (np_block (np_finO)) (y_field_v rfl Tryz.f42' rfl (by decide) rfl) rfl ?_
   refine ra_y (i := 4) rfl (by kernel_rfl) (by kernel_rfl) (by kernel_rfl) (np_block (np_finO)) (y_load_v rfl Tryz.k9 rfl (by assumption) (vs := [_]) (by first | rfl | exact hP | exact cut_at hP rfl (Nat.le_of_ble_eq_true rfl) rfl) rfl rfl) rfl ?_
   refine ra_y (i := 5) rfl (by kernel_rfl) (by kernel_rfl) (by kernel_rfl) (np_block (np_finO)) (y_load_v rfl Tryz.k75 rfl (by assumption) (vs := [_]) (by first | rfl | exact hP | exact cut_at hP rfl (Nat.le_of_ble_eq_true rfl) rfl) rfl rfl) rfl ?_
   refine ra_do (i := 6) rfl rfl (by kernel_rfl) ?_
   refine do_call_o (caps := [.pointer (some ⟨b0, 0, none⟩)]) (ρ' := []) [1000] [] trivial rfl rfl rfl Tryz.c76 rfl rfl trivial rfl rfl rfl (FnO.mono (chk_fn b0 mn kn N (missE Dn N pre) t (by omega) u' hmn hsn) ?_)
   rintro v u1 l1 hle1 ⟨rfl, rfl⟩ -
   refine ⟨⟨fun _ h => h, trivial⟩, ?_⟩
   refine ra_end (by kernel_rfl) (ρ' := []) trivial ?_
   refine q_block ?_
   refine finO0n [1000]  rfl rfl ?_
   refine ⟨rfl, _, rfl, ?_⟩
   unfold missY
   rw [hst, if_neg h1, if_pos h3]
  ·
   have h3 := of_decide_eq_false hb3
   refine wc_seq ?_
   refine wc_region ?_
   refine rl_y (y_eql rfl rfl rfl) rfl ?_
   refine ya rfl rfl ?_
   refine rl_end (ρ' := [(0, _), (1, _), (2, _), (27, _)]) ⟨rfl, rfl, rfl, rfl, trivial⟩ ?_
   refine q_then ?_
   refine wc_cond rfl (fun hb5 => ?_) (fun hb5 => ?_)
   ·
    have h5 := of_decide_eq_true hb5
    refine wc_seq ?_
    refine wc_cutB 48 (decide (t = [] ∧ d.head? = some 35)) (ρk := [(0, _), (1, _), (2, _)]) ⟨rfl, rfl, rfl, trivial⟩ ?_ ?_
    ·
     refine wc_region ?_
     refine ym rfl rfl ?_
     refine rl_y (y_nilCheck_v rfl rfl) rfl ?_
     refine rl_y (y_field_v rfl Tryz.f42' rfl (by decide) rfl) rfl ?_
     refine rl_y (y_load_v rfl Tryz.k9 rfl (by assumption) (vs := [_]) (by first | rfl | exact hP | exact cut_at hP rfl (Nat.le_of_ble_eq_true rfl) rfl) rfl rfl) rfl ?_
     refine rl_y (y_str_eql rfl rfl rfl) rfl ?_
     refine ym rfl rfl ?_
     rcases Bool.eq_false_or_eq_true (decide (t = [])) with hg6_5 | hg6_5
     ·
      simp only [hg6_5]
      refine rl_on rfl rfl ?_
      refine ym rfl rfl ?_
      refine rl_on rfl rfl ?_
      refine rl_y (y_nilCheck_v rfl rfl) rfl ?_
      refine rl_on rfl rfl ?_
      refine rl_y (y_field_v rfl Tryz.f42' rfl (by decide) rfl) rfl ?_
      refine rl_on rfl rfl ?_
      refine rl_y (y_load_v rfl Tryz.k9 rfl (by assumption) (vs := [_]) (by first | rfl | exact hP | exact cut_at hP rfl (Nat.le_of_ble_eq_true rfl) rfl) rfl rfl) rfl ?_
      refine rl_on rfl rfl ?_
      refine rl_y (y_str_neq rfl rfl rfl) rfl ?_
      refine rl_y (y_pick_t rfl rfl rfl) rfl ?_
      refine ym rfl rfl ?_
      rcases Bool.eq_false_or_eq_true (decide (d ≠ [])) with hg6_12 | hg6_12
      ·
       simp only [hg6_12]
       refine rl_on rfl rfl ?_
       refine ym rfl rfl ?_
       refine rl_on rfl rfl ?_
       refine rl_y (y_nilCheck_v rfl rfl) rfl ?_
       refine rl_on rfl rfl ?_
       refine rl_y (y_field_v rfl Tryz.f42' rfl (by decide) rfl) rfl ?_
       refine rl_on rfl rfl ?_
       refine rl_y (y_load_v rfl Tryz.k9 rfl (by assumption) (vs := [_]) (by first | rfl | exact hP | exact cut_at hP rfl (Nat.le_of_ble_eq_true rfl) rfl) rfl rfl) rfl ?_
       obtain ⟨c0, hc0⟩ : ∃ c0, d[0]? = some c0 := by
        cases d with
        | nil => simp at hg6_12
        | cons x d => exact ⟨x, rfl⟩
       have hd0 : d.head? = some c0 := by rw [← hc0]; cases d <;> rfl
       refine rl_on rfl rfl ?_
       refine rl_y (y_index_str rfl Tryz.str9 rfl rfl (by first | rfl | omega) (by assumption)) rfl ?_
       refine rl_on rfl rfl ?_
       refine rl_y (y_eql rfl rfl rfl) rfl ?_
       rw [u8_35]
       refine rl_y (y_pick_t rfl rfl rfl) rfl ?_
       exact cutB_end rfl ⟨rfl, rfl, rfl, trivial⟩ (by first | (cases d <;> simp_all; done) | simp_all)
      ·
       simp only [hg6_12]
       refine rl_off rfl rfl rfl rfl ?_
       refine rl_off rfl rfl rfl rfl ?_
       refine rl_off rfl rfl rfl rfl ?_
       refine rl_off rfl rfl rfl rfl ?_
       refine rl_off rfl rfl rfl rfl ?_
       refine rl_off rfl rfl rfl rfl ?_
       refine rl_y (y_pick_f rfl rfl rfl) rfl ?_
       exact cutB_end rfl ⟨rfl, rfl, rfl, trivial⟩ (by first | (cases d <;> simp_all; done) | simp_all)
     ·
      simp only [hg6_5]
      refine rl_off rfl rfl rfl rfl ?_
      refine rl_off rfl rfl rfl rfl ?_
      refine rl_off rfl rfl rfl rfl ?_
      refine rl_off rfl rfl rfl rfl ?_
      refine rl_off rfl rfl rfl rfl ?_
      refine rl_y (y_pick_f rfl rfl rfl) rfl ?_
      refine ym rfl rfl ?_
      refine rl_off rfl rfl rfl rfl ?_
      refine rl_off rfl rfl rfl rfl ?_
      refine rl_off rfl rfl rfl rfl ?_
      refine rl_off rfl rfl rfl rfl ?_
      refine rl_off rfl rfl rfl rfl ?_
      refine rl_off rfl rfl rfl rfl ?_
      refine rl_y (y_pick_f rfl rfl rfl) rfl ?_
      exact cutB_end rfl ⟨rfl, rfl, rfl, trivial⟩ (by first | (cases d <;> simp_all; done) | simp_all)
    refine q_then ?_
    refine wc_cond rfl (fun hb6 => ?_) (fun hb6 => ?_)
    ·
     have h6 := of_decide_eq_true hb6; have hdl : 1 ≤ d.length := (by cases d with | nil => simp at h6 | cons x d => simp)
     refine wc_draw Tryz.mixed rfl [] trivial ?_
     refine ra_y (i := 0) rfl (by kernel_rfl) (by kernel_rfl) (by kernel_rfl) (np_block (np_finO)) (y_load_v rfl Tryz.k116 rfl (by assumption) (vs := [_]) (by first | rfl | exact hP | exact cut_at hP rfl (Nat.le_of_ble_eq_true rfl) rfl) rfl rfl) rfl ?_
     refine ra_y (i := 1) rfl (by kernel_rfl) (by kernel_rfl) (by kernel_rfl) (np_block (np_finO)) (y_move rfl rfl) rfl ?_
     refine ra_y (i := 2) rfl (by kernel_rfl) (by kernel_rfl) (by kernel_rfl) (np_block (np_finO)) (y_nilCheck_v rfl rfl) rfl ?_
     refine ra_y (i := 3) rfl (by kernel_rfl) (by kernel_rfl) (by kernel_rfl) (np_block (np_finO)) (y_field_v rfl Tryz.f42' rfl (by decide) rfl) rfl ?_
     refine ra_y (i := 4) rfl (by kernel_rfl) (by kernel_rfl) (by kernel_rfl) (np_block (np_finO)) (y_load_v rfl Tryz.k9 rfl (by assumption) (vs := [_]) (by first | rfl | exact hP | exact cut_at hP rfl (Nat.le_of_ble_eq_true rfl) rfl) rfl rfl) rfl ?_
     refine ra_y (i := 5) rfl (by kernel_rfl) (by kernel_rfl) (by kernel_rfl) (np_block (np_finO)) (y_slice_str (i := 1) (j := d.length) (k' := .i64) rfl Tryz.str9 rfl rfl rfl hdl (Nat.le_refl _)) rfl ?_
     rw [tail_take]
     refine ra_y (i := 6) rfl (by kernel_rfl) (by kernel_rfl) (by kernel_rfl) (np_block (np_finO)) (y_load_v rfl Tryz.k75 rfl (by assumption) (vs := [_]) (by first | rfl | exact hP | exact cut_at hP rfl (Nat.le_of_ble_eq_true rfl) rfl) rfl rfl) rfl ?_
     refine ra_do (i := 7) rfl rfl (by kernel_rfl) ?_
     refine do_call_o (caps := [.pointer (some ⟨b0, 0, none⟩)]) (ρ' := []) [1000] [] trivial rfl rfl rfl Tryz.c76 rfl rfl trivial rfl rfl rfl (FnO.mono (chk_fn b0 mi ki Dn (missE Dn N pre) d.tail (by omega) u' hmi hsi) ?_)
     rintro v u1 l1 hle1 ⟨rfl, rfl⟩ -
     refine ⟨⟨fun _ h => h, trivial⟩, ?_⟩
     refine ra_end (by kernel_rfl) (ρ' := []) trivial ?_
     refine q_block ?_
     refine finO0n [1000]  rfl rfl ?_
     refine ⟨rfl, _, rfl, ?_⟩
     unfold missY
     rw [hst, if_neg h1, if_neg h3, if_pos (c := k = 9 ∧ t = [] ∧ d.head? = some 35) ⟨h5, h6⟩]
    ·
     have h6 := of_decide_eq_false hb6
     refine wc_skip ?_
     refine q_block ?_
     refine finO0n [1000]  rfl rfl ?_
     refine ⟨rfl, _, rfl, ?_⟩
     unfold missY
     rw [hst, if_neg h1, if_neg h3, if_neg (fun h => h6 h.2), List.append_nil]
   ·
    have h5 := of_decide_eq_false hb5
    refine wc_skip ?_
    refine q_block ?_
    refine finO0n [1000]  rfl rfl ?_
    refine ⟨rfl, _, rfl, ?_⟩
    unfold missY
    rw [hst, if_neg h1, if_neg h3, if_neg (fun h => h5 h.1), List.append_nil]
set_option maxHeartbeats 1000000 in
theorem missing_fn (vm vb : Value) (bs : List Blk) (u : View) (hbig : szB bs ≤ 100000) (ha : BlkS u vb bs) :
  FnP Tryz.prog 40 [.agg #[vm, vb]] u fun r u' => StrS u' r (missOf bs) := by
 have hnl := namesE_len (evB bs)
 rw [evB_len] at hnl
 have hnl : (namesOf bs).length ≤ szB bs := hnl
 refine FnP.intro [.tmp 2] Tryz.func40 rfl rfl rfl ?_
 intro w0 D hw0
 refine wc_seq ?_
 refine wc_region ?_
 refine rl_do rfl rfl ?_
 refine do_box trivial rfl (cs := [_, _]) rfl rfl rfl rfl ?_
 refine ya rfl rfl ?_
 refine rl_end (ρ' := [(1, _)]) ⟨rfl, trivial⟩ ?_
 refine q_then ?_
 refine wc_seq ?_
 refine wc_region ?_
 refine rl_do rfl rfl ?_
 refine do_makeMap trivial rfl rfl rfl ?_
 refine rl_do rfl rfl ?_
 refine do_makeMap trivial rfl rfl rfl ?_
 refine rl_do rfl rfl ?_
 refine do_alloc trivial Tryz.z75 rfl rfl rfl ?_
 refine rl_do rfl rfl ?_
 refine do_alloc trivial Tryz.z75 rfl rfl rfl ?_
 refine rl_name 9 rfl ⟨9, 0, .inr rfl⟩ ?_
 intro b9
 refine rl_do rfl rfl ?_
 refine do_store_p trivial rfl Tryz.k75 rfl rfl rfl (vs := [_]) rfl rfl (by first | rfl | assumption | simp [Value.oneCell', str]) (Nat.le_of_ble_eq_true rfl) rfl ?_
 refine rl_name 10 rfl ⟨10, 0, .inr rfl⟩ ?_
 intro b10
 refine rl_do rfl rfl ?_
 refine do_store_p trivial rfl Tryz.k75 rfl rfl rfl (vs := [_]) rfl rfl (by first | rfl | assumption | simp [Value.oneCell', str]) (Nat.le_of_ble_eq_true rfl) rfl ?_
 refine rl_reveal 4 rfl ?_
 intro b4 T4 u4 hle4z hu4 hpn4
 refine rl_end (ρ' := [(1, _), (3, _), (4, _)]) ⟨rfl, rfl, rfl, trivial⟩ ?_
 refine q_then ?_
 refine wc_seq ?_
 refine wc_seq ?_
 refine wc_region ?_
 refine rl_y (y_load_p rfl Tryz.k25 rfl rfl rfl (vs := [_, _]) rfl rfl rfl) rfl ?_
 refine rl_do rfl rfl ?_
 refine do_call (caps := []) trivial rfl rfl Tryz.c16 rfl (FnP.mono (labNames_fn vm vb bs _ hbig (ha.mono hle4z)) ?_)
 rintro v uN hle0 ⟨adn, capn, rfl, hn⟩ hleN
 refine rl_y (y_len_v rfl rfl Tryz.s37 rfl) rfl ?_
 refine ym rfl rfl ?_
 refine rl_end (ρ' := [(1, _), (3, _), (4, _), (12, _), (13, _), (14, _)]) ⟨rfl, rfl, rfl, rfl, rfl, rfl, trivial⟩ ?_
 refine q_then ?_
 refine wc_block ?_
 refine wc_loop (fun m ρ σ u' => ∃ i : Nat, i + m = (namesOf bs).length ∧ VLe uN u' ∧ ∃ (ki : List (Value × Value)), σ = [(1, (none, .box [vm, vb])), (3, (none, .box [.map (some b9)])), (9, (some b9, .mp ki)), (10, (some b10, .mp []))] ∧ ρ = [(1, .p 1 0), (3, .p 3 0), (4, .v (.pointer (some ⟨b4, 0, none⟩))), (12, .v (.slice adn (namesOf bs).length capn)), (13, .v (.int .i64 (namesOf bs).length)), (14, .v (.int .i64 i))] ∧ (uN = u' ∧ SetM ki ((namesOf bs).take i))) ((namesOf bs).length) ?_ ?_
 ·
  refine ⟨[(1, _), (3, _), (4, _), (12, _), (13, _), (14, _)], [(1, _), (3, _), (9, _), (10, _)], ⟨rfl, rfl, rfl, rfl, rfl, rfl, trivial⟩, ⟨rfl, rfl, rfl, rfl, trivial⟩, 0, by omega, VLe.refl _, [], rfl, rfl, ?_⟩
  exact ⟨rfl, SetM.nil⟩
 ·
  rintro m ρ σ u' ⟨i, hi3, hle3, ki, rfl, rfl, ⟨rfl, hSi⟩⟩
  refine wc_seq ?_
  refine wc_region ?_
  refine rl_y (y_lss rfl rfl rfl) rfl ?_
  refine rl_end (ρ' := [(1, _), (3, _), (4, _), (12, _), (13, _), (14, _), (15, _)]) ⟨rfl, rfl, rfl, rfl, rfl, rfl, rfl, trivial⟩ ?_
  refine q_then ?_
  refine wc_seq ?_
  refine wc_cond rfl (fun hb3 => ?_) (fun hb3 => ?_)
  ·
   have hlt : i < (namesOf bs).length := (by have := of_decide_eq_true hb3; omega); have hg := List.getElem?_eq_getElem hlt; have hcut := cut_strsC hg; have hk := hSi.1
   refine wc_skip ?_
   refine q_then ?_
   refine wc_seq ?_
   refine wc_block ?_
   refine wc_seq ?_
   refine wc_region ?_
   refine rl_y (y_index_e rfl Tryz.s37 rfl rfl (by assumption) (by first | rfl | omega) (by omega)) rfl ?_
   refine rl_y (y_load_el rfl Tryz.k9 rfl (by assumption) (by omega) (by assumption) (vs := [_]) rfl rfl rfl rfl) rfl ?_
   refine ya rfl rfl ?_
   refine rl_end (ρ' := [(1, _), (3, _), (4, _), (6, _), (12, _), (13, _), (14, _)]) ⟨rfl, rfl, rfl, rfl, rfl, rfl, rfl, trivial⟩ ?_
   refine q_then ?_
   refine wc_region ?_
   refine rl_y (y_load_bm (id2 := 9) rfl Tryz.k75 rfl rfl rfl rfl rfl) rfl ?_
   refine ym rfl rfl ?_
   refine rl_do rfl rfl ?_
   refine do_mapUpdate trivial rfl Tryz.m75 Tryz.str9 rfl rfl rfl rfl rfl (by assumption) ?_
   refine rl_end (ρ' := [(1, _), (3, _), (4, _), (12, _), (13, _), (14, _)]) ⟨rfl, rfl, rfl, rfl, rfl, rfl, trivial⟩ ?_
   refine q_block ?_
   refine q_then ?_
   refine wc_region ?_
   refine rl_y (y_add rfl rfl rfl (wrap64_id (by omega))) rfl ?_
   refine ym rfl rfl ?_
   refine rl_end (ρ' := [(1, _), (3, _), (4, _), (12, _), (13, _), (14, _)]) ⟨rfl, rfl, rfl, rfl, rfl, rfl, trivial⟩ ?_
   refine q_thenK ?_
   refine ⟨m - 1, [(1, _), (3, _), (4, _), (12, _), (13, _), (14, _)], [(1, _), (3, _), (9, _), (10, _)], by omega, ⟨rfl, rfl, rfl, rfl, rfl, rfl, trivial⟩, ⟨rfl, rfl, rfl, rfl, trivial⟩, i + 1, by omega, hle3, _, (by first | rfl | simp), (by first | rfl | (simp only [List.cons.injEq, Prod.mk.injEq, SV.v.injEq, Value.int.injEq, true_and, and_true]; omega) | simp), ?_⟩
   exact ⟨rfl, by rw [List.take_succ_eq_append_getElem hlt]; exact hSi.add _⟩
  ·
   have hge := of_decide_eq_false hb3; rw [List.take_of_length_le (by omega)] at hSi
   refine wc_exit ?_
   refine q_then_exit ?_
   refine q_then_exit ?_
   refine q_block_hit ?_
   refine q_then ?_
   refine wc_seq ?_
   have hu4 := hleN _ _ hu4
   refine wc_region ?_
   refine rl_y (y_makeFunc rfl rfl rfl) rfl ?_
   refine rl_y (y_build rfl Tryz.f82' Tryz.z82 (ps := [(_, _)]) rfl (vs := [_, _]) rfl) rfl ?_
   refine rl_y (y_field_p rfl Tryz.f25' rfl (by decide) rfl) rfl ?_
   refine rl_y (y_load_p rfl Tryz.k23 rfl rfl rfl (vs := [_]) rfl rfl rfl) rfl ?_
   refine rl_do rfl rfl ?_
   refine do_call_o (caps := []) (ρ' := [(1, _), (3, _), (4, _)]) [10] [] trivial rfl rfl rfl Tryz.c44 rfl rfl ⟨rfl, rfl, rfl, trivial⟩ rfl rfl rfl (FnO.mono (vBlk_fn _ _ b10 notesY (fun _ _ _ _ _ h ↦ h) (szB bs) _ bs [] _ uN (Nat.le_refl _) (by simp; omega) ((ha.mono hle4z).mono hleN) (.inr ⟨75, [.pointer (some ⟨b4, 0, none⟩)], rfl, Tryz.c75, fun pre o u' p x hle hl hY hp ↦ missN_fn b4 b10 uN _ _ hu4 pre o u' p x hle hl hY hp⟩) (.inl ⟨rfl, fun u' pre o x ⟨kvs, h1, h2⟩ ↦ ⟨kvs, h1, by simpa [evNote] using h2⟩⟩) ⟨[], rfl, SetM.nil⟩) ?_)
   rintro v uV l1 hleV ⟨rfl, oV, rfl, ⟨kn, rfl, hkn⟩⟩ -
   refine ⟨⟨fun _ h => h, trivial⟩, ?_⟩
   refine rl_end (ρ' := [(1, _), (3, _), (4, _)]) ⟨rfl, rfl, rfl, trivial⟩ ?_
   refine q_then ?_
   refine wc_seq ?_
   refine wc_region ?_
   refine rl_do rfl rfl ?_
   refine do_alloc_rb 9 1 trivial Tryz.z37 rfl rfl rfl ?_
   refine rl_reveal 3 rfl ?_
   intro b3 T3 u3 hle3z hu3 hpn3
   refine rl_freezeM 9 rfl ?_
   intro b9 u9 hle9z hm9 hpn9
   refine rl_freezeM 10 rfl ?_
   intro b10 u10 hle10z hm10 hpn10
   obtain rfl := hpn9 _ rfl
   obtain rfl := hpn10 _ rfl
   have hSN : SetM kn (noteNames (listB bs)) := by rw [← evNote_all]; simpa using hkn
   have ha2 := ((((((ha.mono hle4z).mono hleN).mono hleV).mono hle3z).mono hle9z).mono hle10z)
   have hu4 := hle10z _ _ (hle9z _ _ (hle3z _ _ (hleV _ _ hu4)))
   have hu3 := hle10z _ _ (hle9z _ _ hu3)
   have hm9 := hm9.mono hle10z
   refine rl_end (ρ' := [(1, _), (3, _), (4, _), (7, _)]) ⟨rfl, rfl, rfl, rfl, trivial⟩ ?_
   refine q_then ?_
   refine wc_seq ?_
   refine wc_region ?_
   refine rl_name 7 rfl ⟨7, _, .inl rfl⟩ ?_
   intro b7
   refine rl_y (y_makeFunc rfl rfl rfl) rfl ?_
   refine rl_do rfl rfl ?_
   refine do_alloc trivial Tryz.z116 rfl rfl rfl ?_
   refine rl_do rfl rfl ?_
   refine do_store_p trivial rfl Tryz.k116 rfl rfl rfl (vs := [_]) rfl rfl (by first | rfl | assumption | simp [Value.oneCell', str]) (Nat.le_of_ble_eq_true rfl) rfl ?_
   refine rl_reveal 8 rfl ?_
   intro b8 T8 u8 hle8z hu8 hpn8
   have ha2 := ha2.mono hle8z
   have hu4 := hle8z _ _ hu4
   have hu3 := hle8z _ _ hu3
   have hm9 := hm9.mono hle8z
   have hm10 := hm10.mono hle8z
   refine rl_end (ρ' := [(1, _), (3, _), (4, _), (7, _), (8, _)]) ⟨rfl, rfl, rfl, rfl, rfl, trivial⟩ ?_
   refine q_then ?_
   refine wc_seq ?_
   refine wc_region ?_
   refine rl_y (y_makeFunc rfl rfl rfl) rfl ?_
   refine rl_y (y_build rfl Tryz.f82' Tryz.z82 (ps := [(_, _)]) rfl (vs := [_, _]) rfl) rfl ?_
   refine rl_y (y_field_p rfl Tryz.f25' rfl (by decide) rfl) rfl ?_
   refine rl_y (y_load_p rfl Tryz.k23 rfl rfl rfl (vs := [_]) rfl rfl rfl) rfl ?_
   refine rl_do rfl rfl ?_
   refine do_call_o (caps := []) (ρ' := [(7, _)]) [7] [] trivial rfl rfl rfl Tryz.c44 rfl rfl ⟨rfl, trivial⟩ rfl rfl rfl (FnO.mono (vBlk_fn _ _ b7 (missY (namesOf bs) (noteNames (listB bs))) (fun _ _ _ _ _ h ↦ h) (szB bs) _ bs [] _ u8 (Nat.le_refl _) (by simp; omega) ha2 (.inl ⟨rfl, fun u' pre o x h ↦ by unfold missY at h ⊢; rw [h]; simp [missE, missEv]⟩) (.inr ⟨77, [.pointer (some ⟨b8, 0, none⟩), .pointer (some ⟨b3, 0, none⟩), .pointer (some ⟨b4, 0, none⟩)], rfl, Tryz.c77, fun pre o u' p x hle hl hY hp ↦ missI_fn b8 b3 b4 b7 _ _ ki kn (namesOf bs) (noteNames (listB bs)) u8 _ _ _ _ _ _ hu8 hu3 hu4 hm9 hm10 hSi hSN pre o u' p x hle hl hY hp⟩) rfl) ?_)
   rintro v uW l1 hleW ⟨rfl, oW, rfl, rfl⟩ -
   refine ⟨⟨fun _ h => h, trivial⟩, ?_⟩
   refine rl_end (ρ' := [(7, _)]) ⟨rfl, trivial⟩ ?_
   refine q_then ?_
   refine wc_seq ?_
   refine wc_region ?_
   refine rl_y (y_load_rb rfl Tryz.k37 rfl rfl rfl) rfl ?_
   refine rl_freeze_rb 7 rfl ?_
   intro ad7 cap7 u7 hle7z hsl7
   refine ya rfl rfl ?_
   refine rl_end (ρ' := [(2, _)]) ⟨rfl, trivial⟩ ?_
   refine q_then ?_
   refine wc_ret ?_
   refine fin1 (.tmp rfl) ?_
   exact strS_of' rfl (by simpa [missOf] using hsl7)
theorem smB_mem : ∀ (n : Nat) (bs : List Blk), szB bs ≤ n → smB bs → ∀ x ∈ listB bs, smB1 x ∧ szI (lineOf x) ≤ szB bs := by
 intro n
 induction n with
 | zero =>
  intro bs hn _ x hx
  cases bs with
  | nil => simp [listB] at hx
  | cons y ys => cases y; simp [szB, szb] at hn
 | succ n ih =>
  intro bs hn hs x hx
  cases bs with
  | nil => simp [listB] at hx
  | cons y ys =>
   unfold smB at hs
   have h0 := hs.1
   obtain ⟨k, lv, inf, t, d, ti, a, line, kids⟩ := y
   simp only [szB, szb] at hn ⊢
   rw [listB, listb, List.cons_append] at hx
   rcases List.mem_cons.1 hx with rfl | hx
   ·
    exact ⟨h0, by simp only [lineOf]; omega⟩
   ·
    have h1 := h0
    unfold smB1 at h1
    rcases List.mem_append.1 hx with hx | hx
    ·
     obtain ⟨q1, q2⟩ := ih kids (by omega) h1.2.2.2.2.2 x hx
     exact ⟨q1, by omega⟩
    ·
     obtain ⟨q1, q2⟩ := ih ys (by omega) hs.2 x hx
     exact ⟨q1, by omega⟩
theorem gdB_of (R : RepI) (kp : Blk → Bool) (bs : List Blk) (hs : smB bs) (hbig : szB bs ≤ 100000) (hR : ∀ xs, smI xs → szI xs ≤ 100000 → R.Gd xs) : GdB R kp bs := by
 intro x hx
 obtain ⟨h1, h2⟩ := smB_mem _ bs (Nat.le_refl _) hs x hx
 obtain ⟨k, lv, inf, t, d, ti, a, line, kids⟩ := x
 unfold smB1 at h1
 exact ⟨hR _ h1.2.2.2.2.1 (by simp only [lineOf] at h2 ⊢; omega), by omega, by omega⟩
def DefM (u : View) (kvs : List (Value × Value)) (L : List Blk) : Prop := kvs.all (fun p => isKey .string p.1) = true ∧ ∀ s, match defOf L s with
 | none => mget kvs (str s) = none
 | some b => ∃ cs, mget kvs (str s) = some (.agg cs.toArray) ∧ BlkC u b cs
theorem DefM.mono {u u' : View} {kvs : List (Value × Value)} {L : List Blk} (h : DefM u kvs L) (hu : VLe u u') : DefM u' kvs L := by
 refine ⟨h.1, fun s => ?_⟩
 have := h.2 s
 cases hd : defOf L s with
 | none => rw [hd] at this; exact this
 | some b => rw [hd] at this; obtain ⟨cs, h1, h2⟩ := this; exact ⟨cs, h1, h2.mono hu⟩
abbrev zeroB : List Value := [.int .i64 0, .int .i64 0, str [], str [], str [], str [], str [], .slice none 0 0, .slice none 0 0, .slice none 0 0, .slice none 0 0]
theorem DefM.val {u : View} {kvs : List (Value × Value)} {L : List Blk} (h : DefM u kvs L) (s : Bs) : ∃ k lv inf t d ti id vc vp vl vk, (mget kvs (str s)).getD (.agg zeroB.toArray) = .agg (blkV k lv inf t d ti id vc vp vl vk).toArray ∧ (mget kvs (str s)).isSome = (defOf L s).isSome ∧ d = destO (defOf L s) ∧ ti = titleO (defOf L s) ∧ d.length ≤ 140737488351232 ∧ ti.length ≤ 140737488351232 ∧ (blkV k lv inf t d ti id vc vp vl vk).all Value.oneCell' = true := by
 have := h.2 s
 cases hd : defOf L s with
 | none =>
  rw [hd] at this
  rw [this]
  exact ⟨_, _, _, _, _, _, _, _, _, _, _, rfl, rfl, rfl, rfl, by simp, by simp, rfl⟩
 | some b =>
  rw [hd] at this
  obtain ⟨cs, h1, h2⟩ := this
  rw [h1]
  obtain ⟨k, lv, inf, t, d, ti, a, line, kids⟩ := b
  have one := h2.one
  obtain ⟨vc, vp, vl, vk, rfl, _, _, _, _, hok⟩ := h2.cells
  obtain ⟨_, _, _, _, o5, o6, _⟩ := hok
  exact ⟨k, lv, inf, t, d, ti, a.id, vc, vp, vl, vk, rfl, rfl, rfl, rfl, o5, o6, one⟩
abbrev bldL (b : Nat) (q : Option Addr) (ad : Option Addr) (cap : Nat) (l : Bs) : List PO := [(some b, .bt 143 [.pointer q, .slice ad l.length cap]), (none, .rwv (.slice ad l.length cap) 5 1 l.length (bytesC l))]
abbrev selfQ (b : Nat) : Option Addr := some ⟨b, 0, none⟩
def QOk (b : Nat) (q : Option Addr) : Prop := q = none ∨ q = selfQ b
theorem copyCheck0_fn (b : Nat) (v : Value) (hv : Value.oneCell' v = true) (u : View) :
  FnO Tryz.prog 128 [.pointer (some ⟨b, 0, none⟩)] u [(some b, .bt 143 [.pointer none, v])] fun r u' l' => r = .tuple #[] ∧ l' = [(some b, .bt 143 [.pointer (selfQ b), v])] := by
 refine FnO.intro [] Tryz.func128 rfl rfl rfl ?_
 intro w0 D hw0
 refine wc_pin 0 1000 _ 0 rfl rfl ?_
 refine wc_seq ?_
 refine wc_region ?_
 refine ym rfl rfl ?_
 refine rl_y (y_nilCheck_p rfl rfl) rfl ?_
 refine rl_y (y_field_p rfl Tryz.f143' rfl (by decide) rfl) rfl ?_
 refine rl_y (y_load_t rfl Tryz.k140 rfl rfl rfl (vs := [_]) rfl rfl rfl) rfl ?_
 refine rl_y (y_ptr_eql_nil (e := 143) rfl (by kernel_rfl) rfl rfl) rfl ?_
 refine rl_end (ρ' := [(0, _), (6, _)]) ⟨rfl, rfl, trivial⟩ ?_
 refine q_then ?_
 refine wc_cond_t rfl (rfl) ?_
 refine wc_region ?_
 refine ym rfl rfl ?_
 refine ym rfl rfl ?_
 refine rl_y (y_to_unsafe (t := 143) rfl (by kernel_rfl) (by kernel_rfl) Tryz.k143 rfl rfl rfl rfl rfl) rfl ?_
 refine rl_y (y_noEscape rfl ⟨_, Tryz.func151, by kernel_rfl, by kernel_rfl, by kernel_rfl, by kernel_rfl⟩ rfl) rfl ?_
 refine rl_y (y_from_unsafe (t := 143) rfl (by kernel_rfl) (by kernel_rfl) Tryz.k143 rfl rfl rfl (by kernel_rfl)) rfl ?_
 refine rl_y (y_nilCheck_p rfl rfl) rfl ?_
 refine rl_y (y_field_p rfl Tryz.f143' rfl (by decide) rfl) rfl ?_
 refine rl_do rfl rfl ?_
 refine do_store_t trivial rfl Tryz.k140 rfl rfl rfl (vs := [_]) rfl rfl rfl (Nat.le_of_ble_eq_true rfl) rfl ?_
 refine rl_end (ρ' := []) trivial ?_
 refine finO0n [1000]  rfl rfl ?_
 exact ⟨rfl, rfl⟩
theorem copyCheck1_fn (b : Nat) (v : Value) (u : View) :
  FnO Tryz.prog 128 [.pointer (some ⟨b, 0, none⟩)] u [(some b, .bt 143 [.pointer (selfQ b), v])] fun r u' l' => r = .tuple #[] ∧ l' = [(some b, .bt 143 [.pointer (selfQ b), v])] := by
 refine FnO.intro [] Tryz.func128 rfl rfl rfl ?_
 intro w0 D hw0
 refine wc_pin 0 1000 _ 0 rfl rfl ?_
 refine wc_seq ?_
 refine wc_region ?_
 refine ym rfl rfl ?_
 refine rl_y (y_nilCheck_p rfl rfl) rfl ?_
 refine rl_y (y_field_p rfl Tryz.f143' rfl (by decide) rfl) rfl ?_
 refine rl_y (y_load_t rfl Tryz.k140 rfl rfl rfl (vs := [_]) rfl rfl rfl) rfl ?_
 refine rl_y (y_ptr_eql_nil (e := 143) rfl (by kernel_rfl) rfl rfl) rfl ?_
 refine rl_end (ρ' := [(0, _), (6, _)]) ⟨rfl, rfl, trivial⟩ ?_
 refine q_then ?_
 refine wc_cond_f rfl (rfl) ?_
 refine wc_seq ?_
 refine wc_region ?_
 refine ym rfl rfl ?_
 refine rl_y (y_nilCheck_p rfl rfl) rfl ?_
 refine rl_y (y_field_p rfl Tryz.f143' rfl (by decide) rfl) rfl ?_
 refine rl_y (y_load_t rfl Tryz.k140 rfl rfl rfl (vs := [_]) rfl rfl rfl) rfl ?_
 refine ym rfl rfl ?_
 refine rl_y (y_ptr_neq_self (e := 143) rfl (by kernel_rfl) Tryz.k143 rfl rfl) rfl ?_
 refine rl_end (ρ' := [(19, _)]) ⟨rfl, trivial⟩ ?_
 refine q_then ?_
 refine wc_cond_f rfl (rfl) ?_
 refine wc_skip ?_
 refine finO0n [1000]  rfl rfl ?_
 exact ⟨rfl, rfl⟩
theorem copyCheck_fn (b : Nat) (q : Option Addr) (hq : QOk b q) (v : Value) (hv : Value.oneCell' v = true) (u : View) :
  FnO Tryz.prog 128 [.pointer (some ⟨b, 0, none⟩)] u [(some b, .bt 143 [.pointer q, v])] fun r u' l' => r = .tuple #[] ∧ l' = [(some b, .bt 143 [.pointer (selfQ b), v])] := by
 rcases hq with rfl | rfl
 ·
  exact copyCheck0_fn b v hv u
 ·
  exact copyCheck1_fn b v u
theorem writeString_fn (b : Nat) (q : Option Addr) (hq : QOk b q) (ad : Option Addr) (cap : Nat) (l s : Bs) (hl : l.length + s.length ≤ 1000000000) (u : View) :
  FnO Tryz.prog 102 [.pointer (some ⟨b, 0, none⟩), str s] u (bldL b q ad cap l) fun r u' l' => r = .tuple #[.int .i64 s.length, .nilIface] ∧ ∃ ad' cap', l' = bldL b (selfQ b) ad' cap' (l ++ s) := by
 refine FnO.intro [.tmp 4, .tmp 5] Tryz.func102 rfl rfl rfl ?_
 intro w0 D hw0
 refine wc_pin 0 1000 _ 0 rfl rfl ?_
 refine wc_seq ?_
 refine wc_region ?_
 refine ya rfl rfl ?_
 refine ya rfl rfl ?_
 refine rl_end (ρ' := [(0, _), (1, _)]) ⟨rfl, rfl, trivial⟩ ?_
 refine q_then ?_
 refine wc_seq ?_
 refine wc_region ?_
 refine ym rfl rfl ?_
 refine rl_do rfl rfl ?_
 refine do_call_o (caps := []) (ρ' := [(0, _), (1, _)]) [1000] [] trivial rfl rfl rfl Tryz.c128 rfl rfl ⟨rfl, rfl, trivial⟩ rfl rfl rfl (FnO.mono (copyCheck_fn b q hq (.slice ad l.length cap) rfl u) ?_)
 rintro v u1 l1 hle1 ⟨rfl, rfl⟩ -
 refine ⟨⟨fun _ h => h, trivial⟩, ?_⟩
 refine rl_end (ρ' := [(0, _), (1, _)]) ⟨rfl, rfl, trivial⟩ ?_
 refine q_then ?_
 refine wc_seq ?_
 refine wc_region ?_
 refine ym rfl rfl ?_
 refine ym rfl rfl ?_
 refine rl_y (y_nilCheck_p rfl rfl) rfl ?_
 refine rl_y (y_field_p rfl Tryz.f143' rfl (by decide) rfl) rfl ?_
 refine rl_y (y_load_t rfl Tryz.k141 rfl rfl rfl (vs := [_]) rfl rfl rfl) rfl ?_
 refine ym rfl rfl ?_
 refine rl_do rfl rfl ?_
 refine do_append_str 1001 trivial rfl rfl Tryz.s141 (by kernel_rfl) rfl (by kernel_rfl) rfl rfl rfl rfl rfl (by omega) ?_
 intro ad' cap'
 refine rl_y (y_nilCheck_p rfl rfl) rfl ?_
 refine rl_y (y_field_p rfl Tryz.f143' rfl (by decide) rfl) rfl ?_
 refine rl_do rfl rfl ?_
 refine do_store_t trivial rfl Tryz.k141 rfl rfl rfl (vs := [_]) rfl rfl rfl (Nat.le_of_ble_eq_true rfl) rfl ?_
 refine rl_end (ρ' := [(1, _)]) ⟨rfl, trivial⟩ ?_
 refine q_then ?_
 refine wc_seq ?_
 refine wc_region ?_
 refine ym rfl rfl ?_
 refine rl_y (y_len_str rfl rfl Tryz.str9 rfl) rfl ?_
 refine ya rfl rfl ?_
 refine ya rfl rfl ?_
 refine rl_end (ρ' := [(4, _), (5, _)]) ⟨rfl, rfl, trivial⟩ ?_
 refine q_then ?_
 refine wc_ret ?_
 refine finO2 [1000, 1001] (.tmp rfl) (.tmp rfl) rfl rfl ?_
 exact ⟨rfl, ad', cap', by simp [bldL, bytesC_append]; rfl⟩
theorem writeByte_fn (b : Nat) (q : Option Addr) (hq : QOk b q) (ad : Option Addr) (cap : Nat) (l : Bs) (c : UInt8) (hl : l.length + 1 ≤ 1000000000) (u : View) :
  FnO Tryz.prog 131 [.pointer (some ⟨b, 0, none⟩), .int .u8 c.toNat] u (bldL b q ad cap l) fun r u' l' => r = .nilIface ∧ ∃ ad' cap', l' = bldL b (selfQ b) ad' cap' (l ++ [c]) := by
 refine FnO.intro [.tmp 4] Tryz.func131 rfl rfl rfl ?_
 intro w0 D hw0
 refine wc_pin 0 1000 _ 0 rfl rfl ?_
 refine wc_seq ?_
 refine wc_region ?_
 refine ya rfl rfl ?_
 refine rl_end (ρ' := [(0, _), (1, _)]) ⟨rfl, rfl, trivial⟩ ?_
 refine q_then ?_
 refine wc_seq ?_
 refine wc_region ?_
 refine ym rfl rfl ?_
 refine rl_do rfl rfl ?_
 refine do_call_o (caps := []) (ρ' := [(0, _), (1, _)]) [1000] [] trivial rfl rfl rfl Tryz.c128 rfl rfl ⟨rfl, rfl, trivial⟩ rfl rfl rfl (FnO.mono (copyCheck_fn b q hq (.slice ad l.length cap) rfl u) ?_)
 rintro v u1 l1 hle1 ⟨rfl, rfl⟩ -
 refine ⟨⟨fun _ h => h, trivial⟩, ?_⟩
 refine rl_end (ρ' := [(0, _), (1, _)]) ⟨rfl, rfl, trivial⟩ ?_
 refine q_then ?_
 refine wc_seq ?_
 refine wc_region ?_
 refine ym rfl rfl ?_
 refine ym rfl rfl ?_
 refine rl_y (y_nilCheck_p rfl rfl) rfl ?_
 refine rl_y (y_field_p rfl Tryz.f143' rfl (by decide) rfl) rfl ?_
 refine rl_y (y_load_t rfl Tryz.k141 rfl rfl rfl (vs := [_]) rfl rfl rfl) rfl ?_
 refine ym rfl rfl ?_
 refine rl_do rfl rfl ?_
 refine do_buildSlice trivial Tryz.s141 Tryz.z5 (ps := [(_, _)]) rfl (xs := [_]) rfl rfl rfl rfl rfl rfl rfl ?_
 refine rl_do rfl rfl ?_
 refine do_append_w_s 1001 trivial rfl rfl Tryz.s141 Tryz.z5 rfl rfl rfl rfl rfl rfl rfl (by omega) (by omega) rfl rfl ?_
 intro ad' cap'
 refine rl_y (y_nilCheck_p rfl rfl) rfl ?_
 refine rl_y (y_field_p rfl Tryz.f143' rfl (by decide) rfl) rfl ?_
 refine rl_do rfl rfl ?_
 refine do_store_t trivial rfl Tryz.k141 rfl rfl rfl (vs := [_]) rfl rfl rfl (Nat.le_of_ble_eq_true rfl) rfl ?_
 refine rl_end (ρ' := []) trivial ?_
 refine q_then ?_
 refine wc_seq ?_
 refine wc_region ?_
 refine ya rfl rfl ?_
 refine rl_end (ρ' := [(4, _)]) ⟨rfl, trivial⟩ ?_
 refine q_then ?_
 refine wc_ret ?_
 refine finO1 [1000, 1001] (.tmp rfl) rfl rfl ?_
 exact ⟨rfl, ad', cap', by simp [bldL, bytesC_append]; exact ⟨rfl, rfl⟩⟩
theorem bldString_fn (b : Nat) (q : Option Addr) (ad : Option Addr) (cap : Nat) (l : Bs) (hl : l.length ≤ 1000000000) (u : View) :
  FnO Tryz.prog 103 [.pointer (some ⟨b, 0, none⟩)] u (bldL b q ad cap l) fun r u' l' => r = str l ∧ ∃ o2, l' = [(some b, .bt 143 [.pointer q, .slice ad l.length cap]), (none, o2)] := by
 refine FnO.intro [.tmp 2] Tryz.func103 rfl rfl rfl ?_
 intro w0 D hw0
 refine wc_pin 0 1000 _ 0 rfl rfl ?_
 refine wc_seq ?_
 refine wc_region ?_
 refine ya rfl rfl ?_
 refine rl_end (ρ' := [(0, _)]) ⟨rfl, trivial⟩ ?_
 refine q_then ?_
 refine wc_seq ?_
 refine wc_draw Tryz.mixed rfl [(1000, _)] ⟨rfl, trivial⟩ ?_
 refine ra_y (i := 0) rfl (by kernel_rfl) (by kernel_rfl) (by kernel_rfl) (np_then (np_finO)) (y_move rfl rfl) rfl ?_
 refine ra_y (i := 1) rfl (by kernel_rfl) (by kernel_rfl) (by kernel_rfl) (np_then (np_finO)) (y_nilCheck_p rfl rfl) rfl ?_
 refine ra_y (i := 2) rfl (by kernel_rfl) (by kernel_rfl) (by kernel_rfl) (np_then (np_finO)) (y_field_p rfl Tryz.f143' rfl (by decide) rfl) rfl ?_
 refine ra_y (i := 3) rfl (by kernel_rfl) (by kernel_rfl) (by kernel_rfl) (np_then (np_finO)) (y_load_t rfl Tryz.k141 rfl rfl rfl (vs := [_]) rfl rfl rfl) rfl ?_
 refine ra_y (i := 5) rfl (by kernel_rfl) (by kernel_rfl) (by kernel_rfl) (np_then (np_finO)) (y_move rfl rfl) rfl ?_
 refine ra_y (i := 6) rfl (by kernel_rfl) (by kernel_rfl) (by kernel_rfl) (np_then (np_finO)) (y_nilCheck_p rfl rfl) rfl ?_
 refine ra_y (i := 7) rfl (by kernel_rfl) (by kernel_rfl) (by kernel_rfl) (np_then (np_finO)) (y_field_p rfl Tryz.f143' rfl (by decide) rfl) rfl ?_
 refine ra_y (i := 8) rfl (by kernel_rfl) (by kernel_rfl) (by kernel_rfl) (np_then (np_finO)) (y_load_t rfl Tryz.k141 rfl rfl rfl (vs := [_]) rfl rfl rfl) rfl ?_
 refine ra_y (i := 9) rfl (by kernel_rfl) (by kernel_rfl) (by kernel_rfl) (np_then (np_finO)) (y_len_v rfl rfl Tryz.s141 rfl) rfl ?_
 refine ra_do (i := 4) rfl rfl (by kernel_rfl) ?_
 refine do_sliceData (e := 5) 1001 ⟨rfl, trivial⟩ (by kernel_rfl) rfl rfl rfl ?_
 intro p7 hp7
 refine ra_do (i := 10) rfl rfl (by kernel_rfl) ?_
 refine do_unsafeString 1001 ⟨rfl, trivial⟩ rfl rfl (by kernel_rfl) (by kernel_rfl) rfl rfl rfl rfl hp7 rfl (by omega) rfl ?_
 refine ra_y (i := 11) rfl (by kernel_rfl) (by kernel_rfl) (by kernel_rfl) (np_then (np_finO)) (y_assign rfl rfl) rfl ?_
 refine ra_end (by kernel_rfl) (ρ' := [(2, _)]) ⟨rfl, trivial⟩ ?_
 refine q_then ?_
 refine wc_ret ?_
 refine finO1 [1000, 1001] (.tmp rfl) rfl rfl ?_
 exact ⟨rfl, _, rfl⟩
theorem txI_kids {B : Nat} {xs : List Inl} {i : Nat} {k : Int} {t d ti : Bs} {a : DAttr} {args : List Bs} {cites : List DCite} {kids : List Inl} (h : txI B xs) (hg : xs[i]? = some (.mk k t d ti a args cites kids)) : t.length ≤ B ∧ d.length ≤ B ∧ ti.length ≤ B ∧ txI B kids := by
 have := txI_get h hg
 unfold txI1 at this
 exact this
theorem plain_take_len (B : Nat) (hB : 1 ≤ B) {xs : List Inl} (h : txI B xs) (i : Nat) : (plain (xs.take i)).length ≤ B * szI xs := by
 have h1 : (plain xs).length = (plain (xs.take i)).length + (plain (xs.drop i)).length := by
  rw [← List.length_append, ← plain_append, List.take_append_drop]
 have := plain_len B hB xs h
 omega
theorem plain1_eq (k : Int) (t d ti : Bs) (a : DAttr) (args : List Bs) (cites : List DCite) (kids : List Inl) : plain1 (.mk k t d ti a args cites kids) = (if k = 1 ∨ k = 4 ∨ k = 5 then t else if k = 2 ∨ k = 3 then [32] else if 6 ≤ k ∧ k ≤ 11 then plain kids else if k = 16 then d else []) := by rw [plain1]
set_option maxHeartbeats 4000000 in
theorem writePlain_fn (b : Nat) (n : Nat) : ∀ (v : Value) (xs : List Inl) (q : Option Addr) (ad : Option Addr) (cap : Nat) (l : Bs) (u : View), szI xs ≤ n → szI xs ≤ 1000 → txI 100000 xs → QOk b q → l.length + 100000 * szI xs ≤ 1000000000 → InlS u v xs →
  FnO Tryz.prog 111 [.pointer (some ⟨b, 0, none⟩), v] u (bldL b q ad cap l) fun r u' l' => r = .tuple #[] ∧ ∃ q' ad' cap', QOk b q' ∧ l' = bldL b q' ad' cap' (l ++ plain xs) := by
 induction n using Nat.strongRecOn with
 | _ n ih =>
 intro v xs q ad cap l u hsz hbig htx hq hln ha
 have hlx := len_szI xs
 obtain ⟨cs, ⟨ax, cx, rfl, h1⟩, hc1⟩ := ha
 refine FnO.intro [] Tryz.func111 rfl rfl rfl ?_
 intro w0 D hw0
 refine wc_pin 0 1000 _ 0 rfl rfl ?_
 refine wc_seq ?_
 refine wc_region ?_
 refine ym rfl rfl ?_
 refine rl_y (y_len_v rfl rfl Tryz.s35 rfl) rfl ?_
 refine ym rfl rfl ?_
 refine rl_end (ρ' := [(0, _), (1, _), (7, _), (8, _)]) ⟨rfl, rfl, rfl, rfl, trivial⟩ ?_
 refine q_then ?_
 refine wc_block ?_
 refine wc_loop (fun m ρ σ u' => ∃ i : Nat, i + m = xs.length ∧ VLe u u' ∧ ∃ (qi : Option Addr) (ai : Option Addr) (ci : Nat), σ = [(1000, (some b, .bt 143 [.pointer qi, .slice ai (l ++ plain (xs.take i)).length ci])), (1001, (none, .rwv (.slice ai (l ++ plain (xs.take i)).length ci) 5 1 (l ++ plain (xs.take i)).length (bytesC (l ++ plain (xs.take i)))))] ∧ ρ = [(0, .p 1000 0), (1, .v (.slice ax xs.length cx)), (7, .v (.int .i64 xs.length)), (8, .v (.int .i64 i))] ∧ (QOk b qi)) (xs.length) ?_ ?_
 ·
  refine ⟨[(0, _), (1, _), (7, _), (8, _)], [(1000, _), (1001, _)], ⟨rfl, rfl, rfl, rfl, trivial⟩, ⟨rfl, rfl, trivial⟩, 0, by omega, VLe.refl _, q, ad, cap, (by simp [plain]; try rfl), rfl, ?_⟩
  exact hq
 ·
  rintro m ρ σ u' ⟨i, hi1, hle1, qi, ai, ci, rfl, rfl, hqi⟩
  refine wc_seq ?_
  refine wc_region ?_
  refine rl_y (y_lss rfl rfl rfl) rfl ?_
  refine rl_end (ρ' := [(0, _), (1, _), (7, _), (8, _), (9, _)]) ⟨rfl, rfl, rfl, rfl, rfl, trivial⟩ ?_
  refine q_then ?_
  refine wc_seq ?_
  refine wc_cond rfl (fun hb1 => ?_) (fun hb1 => ?_)
  ·
   have hlt : i < xs.length := (by have := of_decide_eq_true hb1; omega)
   refine wc_skip ?_
   refine q_then ?_
   refine wc_cut (fun ρ σ uc21 => ∃ (q2 : Option Addr) (a2 : Option Addr) (c2 : Nat) (L2 : Bs), VLe u' uc21 ∧ σ = [(1000, (some b, .bt 143 [.pointer q2, .slice a2 L2.length c2])), (1001, (none, .rwv (.slice a2 L2.length c2) 5 1 L2.length (bytesC L2)))] ∧ ρ = [(0, .p 1000 0), (1, .v (.slice ax xs.length cx)), (7, .v (.int .i64 xs.length)), (8, .v (.int .i64 i))] ∧ (QOk b q2 ∧ L2 = l ++ plain (xs.take (i + 1)))) ?_ ?_
   ·
    refine wc_block ?_
    refine wc_seq ?_
    have h1 := h1.mono hle1
    have hc1 := hc1.mono hle1
    obtain ⟨k, t, d, ti, a, args, cites, kids, vc, vp, va, vt, vk, hg, hcut1, s1, s2, s3, s4, s5, hok⟩ := hc1.at hlt
    have oneAll := (hc1.get i _ hg).one
    rw [hcut1] at oneAll
    have hszk := szI_kids hg
    have hst := szI_take hg
    have hs1 := szI_take_le xs i
    have hs2 := szI_take_le xs (i + 1)
    have hpl := plain_len 100000 (by omega) _ (show txI 100000 (xs.take i) from by
     have : ∀ (ys : List Inl) (j : Nat), txI 100000 ys → txI 100000 (ys.take j) := by
      intro ys
      induction ys with
      | nil => intro j h; simpa using h
      | cons y ys ihy =>
       intro j h
       cases j with
       | zero => simp [txI]
       | succ j =>
        unfold txI at h
        rw [List.take_succ_cons]
        unfold txI
        exact ⟨h.1, ihy j h.2⟩
     exact this xs i htx)
    obtain ⟨tx1, tx2, tx3, tx4⟩ := txI_kids htx hg
    have hpt := plain_take hg
    rw [plain1_eq] at hpt
    simp only [sz1] at hst
    have hll : (l ++ plain (xs.take i)).length + 100000 * (1 + szI kids) ≤ 1000000000 := by rw [List.length_append]; omega
    have hpt' : l ++ plain (xs.take (i + 1)) = (l ++ plain (xs.take i)) ++ (if k = 1 ∨ k = 4 ∨ k = 5 then t else if k = 2 ∨ k = 3 then [32] else if 6 ≤ k ∧ k ≤ 11 then plain kids else if k = 16 then d else []) := by rw [hpt, List.append_assoc]
    generalize l ++ plain (xs.take i) = L at hll hpt' ⊢
    refine wc_region ?_
    refine ym rfl rfl ?_
    refine ya rfl rfl ?_
    refine rl_end (ρ' := [(0, _), (1, _), (4, _), (7, _), (8, _)]) ⟨rfl, rfl, rfl, rfl, rfl, trivial⟩ ?_
    refine q_then ?_
    refine wc_seq ?_
    refine wc_region ?_
    refine ym rfl rfl ?_
    refine ym rfl rfl ?_
    refine rl_y (y_index_e rfl Tryz.s35 rfl rfl (by assumption) (by first | rfl | omega) (by omega)) rfl ?_
    refine ya rfl rfl ?_
    refine rl_end (ρ' := [(0, _), (1, _), (5, _), (7, _), (8, _)]) ⟨rfl, rfl, rfl, rfl, rfl, trivial⟩ ?_
    refine q_then ?_
    refine wc_seq ?_
    refine wc_region ?_
    refine ym rfl rfl ?_
    refine rl_y (y_nilCheck_e rfl rfl) rfl ?_
    refine rl_y (y_field_e rfl Tryz.f42' rfl (by decide) rfl) rfl ?_
    refine rl_y (y_load_el rfl Tryz.k3 rfl (by assumption) (by omega) (by assumption) (vs := [_]) rfl rfl rfl rfl) rfl ?_
    refine rl_end (ρ' := [(0, _), (1, _), (5, _), (7, _), (8, _), (17, _)]) ⟨rfl, rfl, rfl, rfl, rfl, rfl, trivial⟩ ?_
    refine q_then ?_
    refine wc_block ?_
    refine wc_cut (fun ρ σ uci8 => VLe u' uci8 ∧ σ = [(1000, (some b, .bt 143 [.pointer qi, .slice ai L.length ci])), (1001, (none, .rwv (.slice ai L.length ci) 5 1 L.length (bytesC L)))] ∧ ρ = [(0, .p 1000 0), (1, .v (.slice ax xs.length cx)), (5, .e (.slice ax xs.length cx) 10 i 0), (7, .v (.int .i64 xs.length)), (8, .v (.int .i64 i)), (17, .v (.int .i64 k)), (18, .v (.bool (decide (k = 1 ∨ k = 4 ∨ k = 5))))] ∧ (u' = uci8)) ?_ ?_
    ·
     refine wc_seq ?_
     refine wc_region ?_
     refine rl_y (y_eql rfl rfl rfl) rfl ?_
     refine ya rfl rfl ?_
     refine rl_end (ρ' := [(0, _), (1, _), (5, _), (7, _), (8, _), (17, _), (18, _)]) ⟨rfl, rfl, rfl, rfl, rfl, rfl, rfl, trivial⟩ ?_
     refine q_then ?_
     refine wc_cond rfl (fun hb5 => ?_) (fun hb5 => ?_)
     ·
      refine wc_skip ?_
      refine q_thenK ?_
      refine ⟨[(0, _), (1, _), (5, _), (7, _), (8, _), (17, _), (18, _)], [(1000, _), (1001, _)], ⟨rfl, rfl, rfl, rfl, rfl, rfl, rfl, trivial⟩, ⟨rfl, rfl, trivial⟩, (VLe.refl _), rfl, (by first | rfl | (simp only [List.cons.injEq, Prod.mk.injEq, SV.v.injEq, Value.bool.injEq, eq_self, true_and, and_true]; exact decide_eq_decide.2 (by simp only [decide_eq_true_eq, decide_eq_false_iff_not] at *; omega))), ?_⟩
      rfl
     ·
      refine wc_seq ?_
      refine wc_region ?_
      refine rl_y (y_eql rfl rfl rfl) rfl ?_
      refine ya rfl rfl ?_
      refine rl_end (ρ' := [(0, _), (1, _), (5, _), (7, _), (8, _), (17, _), (18, _)]) ⟨rfl, rfl, rfl, rfl, rfl, rfl, rfl, trivial⟩ ?_
      refine q_then ?_
      refine wc_cond rfl (fun hb6 => ?_) (fun hb6 => ?_)
      ·
       refine wc_skip ?_
       refine q_thenK ?_
       refine ⟨[(0, _), (1, _), (5, _), (7, _), (8, _), (17, _), (18, _)], [(1000, _), (1001, _)], ⟨rfl, rfl, rfl, rfl, rfl, rfl, rfl, trivial⟩, ⟨rfl, rfl, trivial⟩, (VLe.refl _), rfl, (by first | rfl | (simp only [List.cons.injEq, Prod.mk.injEq, SV.v.injEq, Value.bool.injEq, eq_self, true_and, and_true]; exact decide_eq_decide.2 (by simp only [decide_eq_true_eq, decide_eq_false_iff_not] at *; omega))), ?_⟩
       rfl
      ·
       refine wc_region ?_
       refine rl_y (y_eql rfl rfl rfl) rfl ?_
       refine ya rfl rfl ?_
       refine rl_end (ρ' := [(0, _), (1, _), (5, _), (7, _), (8, _), (17, _), (18, _)]) ⟨rfl, rfl, rfl, rfl, rfl, rfl, rfl, trivial⟩ ?_
       refine q_thenK ?_
       refine ⟨[(0, _), (1, _), (5, _), (7, _), (8, _), (17, _), (18, _)], [(1000, _), (1001, _)], ⟨rfl, rfl, rfl, rfl, rfl, rfl, rfl, trivial⟩, ⟨rfl, rfl, trivial⟩, (VLe.refl _), rfl, (by first | rfl | (simp only [List.cons.injEq, Prod.mk.injEq, SV.v.injEq, Value.bool.injEq, eq_self, true_and, and_true]; exact decide_eq_decide.2 (by simp only [decide_eq_true_eq, decide_eq_false_iff_not] at *; omega))), ?_⟩
       rfl
    ·
     rintro ρ σ uci8 ⟨hlci8, rfl, rfl, rfl⟩
     refine wc_cond rfl (fun hb7 => ?_) (fun hb7 => ?_)
     ·
      refine wc_region ?_
      refine ym rfl rfl ?_
      refine ym rfl rfl ?_
      refine rl_y (y_nilCheck_e rfl rfl) rfl ?_
      refine rl_y (y_field_e rfl Tryz.f42' rfl (by decide) rfl) rfl ?_
      refine rl_y (y_load_el rfl Tryz.k9 rfl (by assumption) (by omega) (by assumption) (vs := [_]) rfl rfl rfl rfl) rfl ?_
      refine rl_do rfl rfl ?_
      refine do_call_o (caps := []) (ρ' := [(0, _), (1, _), (7, _), (8, _)]) [1000, 1001] [] trivial rfl rfl rfl Tryz.c102 rfl rfl ⟨rfl, rfl, rfl, rfl, trivial⟩ rfl rfl rfl (FnO.mono (writeString_fn b qi hqi ai ci L t (by omega) _) ?_)
      rintro v uS l1 hleS ⟨rfl, aS, cS, rfl⟩ -
      refine ⟨⟨fun _ h => h, fun _ h => h, trivial⟩, ?_⟩
      refine rl_end (ρ' := [(0, _), (1, _), (7, _), (8, _)]) ⟨rfl, rfl, rfl, rfl, trivial⟩ ?_
      refine q_block ?_
      refine q_block ?_
      refine q_thenK ?_
      first
       | (refine ⟨[(0, _), (1, _), (7, _), (8, _)], [(1000, _), (1001, _)], ⟨rfl, rfl, rfl, rfl, trivial⟩, ⟨rfl, rfl, trivial⟩, selfQ b, aS, cS, L ++ t, hleS, (by first | rfl | simp), (by first | rfl | (simp only [List.cons.injEq, Prod.mk.injEq, SV.v.injEq, Value.int.injEq, true_and, and_true]; omega) | simp), ?_⟩
          (refine ⟨.inr rfl, ?_⟩; simp only [decide_eq_true_eq, decide_eq_false_iff_not] at *; rw [hpt', if_pos (by omega)]))
       | (refine ⟨[(0, _), (1, _), (7, _), (8, _)], [(1000, _), (1001, _)], ⟨rfl, rfl, rfl, rfl, trivial⟩, ⟨rfl, rfl, trivial⟩, selfQ b, aW, cW, L ++ [32], hleS, (by first | rfl | simp), (by first | rfl | (simp only [List.cons.injEq, Prod.mk.injEq, SV.v.injEq, Value.int.injEq, true_and, and_true]; omega) | simp), ?_⟩
          (refine ⟨.inr rfl, ?_⟩; simp only [decide_eq_true_eq, decide_eq_false_iff_not] at *; rw [hpt', if_neg (by omega), if_pos (by omega)]))
       | (refine ⟨[(0, _), (1, _), (7, _), (8, _)], [(1000, _), (1001, _)], ⟨rfl, rfl, rfl, rfl, trivial⟩, ⟨rfl, rfl, trivial⟩, qR, aR, cR, L ++ plain kids, hleS, (by first | rfl | simp), (by first | rfl | (simp only [List.cons.injEq, Prod.mk.injEq, SV.v.injEq, Value.int.injEq, true_and, and_true]; omega) | simp), ?_⟩
          (refine ⟨hqR, ?_⟩; simp only [decide_eq_true_eq, decide_eq_false_iff_not] at *; rw [hpt', if_neg (by omega), if_neg (by omega), if_pos (by omega)]))
       | (refine ⟨[(0, _), (1, _), (7, _), (8, _)], [(1000, _), (1001, _)], ⟨rfl, rfl, rfl, rfl, trivial⟩, ⟨rfl, rfl, trivial⟩, selfQ b, aT, cT, L ++ d, hleS, (by first | rfl | simp), (by first | rfl | (simp only [List.cons.injEq, Prod.mk.injEq, SV.v.injEq, Value.int.injEq, true_and, and_true]; omega) | simp), ?_⟩
          (refine ⟨.inr rfl, ?_⟩; simp only [decide_eq_true_eq, decide_eq_false_iff_not] at *; rw [hpt', if_neg (by omega), if_neg (by omega), if_neg (by omega), if_pos (by omega)]))
       | (refine ⟨[(0, _), (1, _), (7, _), (8, _)], [(1000, _), (1001, _)], ⟨rfl, rfl, rfl, rfl, trivial⟩, ⟨rfl, rfl, trivial⟩, qi, ai, ci, L, (VLe.refl _), (by first | rfl | simp), (by first | rfl | (simp only [List.cons.injEq, Prod.mk.injEq, SV.v.injEq, Value.int.injEq, true_and, and_true]; omega) | simp), ?_⟩
          (refine ⟨hqi, ?_⟩; simp only [decide_eq_true_eq, decide_eq_false_iff_not] at *; rw [hpt', if_neg (by omega), if_neg (by omega), if_neg (by omega), if_neg (by omega), List.append_nil]))
     ·
      refine wc_cut (fun ρ σ uci11 => VLe u' uci11 ∧ σ = [(1000, (some b, .bt 143 [.pointer qi, .slice ai L.length ci])), (1001, (none, .rwv (.slice ai L.length ci) 5 1 L.length (bytesC L)))] ∧ ρ = [(0, .p 1000 0), (1, .v (.slice ax xs.length cx)), (5, .e (.slice ax xs.length cx) 10 i 0), (7, .v (.int .i64 xs.length)), (8, .v (.int .i64 i)), (17, .v (.int .i64 k)), (28, .v (.bool (decide (k = 2 ∨ k = 3))))] ∧ (u' = uci11)) ?_ ?_
      ·
       refine wc_seq ?_
       refine wc_region ?_
       refine rl_y (y_eql rfl rfl rfl) rfl ?_
       refine ya rfl rfl ?_
       refine rl_end (ρ' := [(0, _), (1, _), (5, _), (7, _), (8, _), (17, _), (28, _)]) ⟨rfl, rfl, rfl, rfl, rfl, rfl, rfl, trivial⟩ ?_
       refine q_then ?_
       refine wc_cond rfl (fun hb9 => ?_) (fun hb9 => ?_)
       ·
        refine wc_skip ?_
        refine q_thenK ?_
        refine ⟨[(0, _), (1, _), (5, _), (7, _), (8, _), (17, _), (28, _)], [(1000, _), (1001, _)], ⟨rfl, rfl, rfl, rfl, rfl, rfl, rfl, trivial⟩, ⟨rfl, rfl, trivial⟩, (VLe.refl _), rfl, (by first | rfl | (simp only [List.cons.injEq, Prod.mk.injEq, SV.v.injEq, Value.bool.injEq, eq_self, true_and, and_true]; exact decide_eq_decide.2 (by simp only [decide_eq_true_eq, decide_eq_false_iff_not] at *; omega))), ?_⟩
        rfl
       ·
        refine wc_region ?_
        refine rl_y (y_eql rfl rfl rfl) rfl ?_
        refine ya rfl rfl ?_
        refine rl_end (ρ' := [(0, _), (1, _), (5, _), (7, _), (8, _), (17, _), (28, _)]) ⟨rfl, rfl, rfl, rfl, rfl, rfl, rfl, trivial⟩ ?_
        refine q_thenK ?_
        refine ⟨[(0, _), (1, _), (5, _), (7, _), (8, _), (17, _), (28, _)], [(1000, _), (1001, _)], ⟨rfl, rfl, rfl, rfl, rfl, rfl, rfl, trivial⟩, ⟨rfl, rfl, trivial⟩, (VLe.refl _), rfl, (by first | rfl | (simp only [List.cons.injEq, Prod.mk.injEq, SV.v.injEq, Value.bool.injEq, eq_self, true_and, and_true]; exact decide_eq_decide.2 (by simp only [decide_eq_true_eq, decide_eq_false_iff_not] at *; omega))), ?_⟩
        rfl
      ·
       rintro ρ σ uci11 ⟨hlci11, rfl, rfl, rfl⟩
       refine wc_cond rfl (fun hb10 => ?_) (fun hb10 => ?_)
       ·
        refine wc_region ?_
        refine ym rfl rfl ?_
        refine rl_do rfl rfl ?_
        refine do_call_o (caps := []) (ρ' := [(0, _), (1, _), (7, _), (8, _)]) [1000, 1001] [] trivial rfl rfl rfl Tryz.c131 rfl rfl ⟨rfl, rfl, rfl, rfl, trivial⟩ rfl rfl rfl (FnO.mono (writeByte_fn b qi hqi ai ci L 32 (by omega) _) ?_)
        rintro v uS l1 hleS ⟨rfl, aW, cW, rfl⟩ -
        refine ⟨⟨fun _ h => h, fun _ h => h, trivial⟩, ?_⟩
        refine rl_end (ρ' := [(0, _), (1, _), (7, _), (8, _)]) ⟨rfl, rfl, rfl, rfl, trivial⟩ ?_
        refine q_block ?_
        refine q_block ?_
        refine q_thenK ?_
        first
         | (refine ⟨[(0, _), (1, _), (7, _), (8, _)], [(1000, _), (1001, _)], ⟨rfl, rfl, rfl, rfl, trivial⟩, ⟨rfl, rfl, trivial⟩, selfQ b, aS, cS, L ++ t, hleS, (by first | rfl | simp), (by first | rfl | (simp only [List.cons.injEq, Prod.mk.injEq, SV.v.injEq, Value.int.injEq, true_and, and_true]; omega) | simp), ?_⟩
            (refine ⟨.inr rfl, ?_⟩; simp only [decide_eq_true_eq, decide_eq_false_iff_not] at *; rw [hpt', if_pos (by omega)]))
         | (refine ⟨[(0, _), (1, _), (7, _), (8, _)], [(1000, _), (1001, _)], ⟨rfl, rfl, rfl, rfl, trivial⟩, ⟨rfl, rfl, trivial⟩, selfQ b, aW, cW, L ++ [32], hleS, (by first | rfl | simp), (by first | rfl | (simp only [List.cons.injEq, Prod.mk.injEq, SV.v.injEq, Value.int.injEq, true_and, and_true]; omega) | simp), ?_⟩
            (refine ⟨.inr rfl, ?_⟩; simp only [decide_eq_true_eq, decide_eq_false_iff_not] at *; rw [hpt', if_neg (by omega), if_pos (by omega)]))
         | (refine ⟨[(0, _), (1, _), (7, _), (8, _)], [(1000, _), (1001, _)], ⟨rfl, rfl, rfl, rfl, trivial⟩, ⟨rfl, rfl, trivial⟩, qR, aR, cR, L ++ plain kids, hleS, (by first | rfl | simp), (by first | rfl | (simp only [List.cons.injEq, Prod.mk.injEq, SV.v.injEq, Value.int.injEq, true_and, and_true]; omega) | simp), ?_⟩
            (refine ⟨hqR, ?_⟩; simp only [decide_eq_true_eq, decide_eq_false_iff_not] at *; rw [hpt', if_neg (by omega), if_neg (by omega), if_pos (by omega)]))
         | (refine ⟨[(0, _), (1, _), (7, _), (8, _)], [(1000, _), (1001, _)], ⟨rfl, rfl, rfl, rfl, trivial⟩, ⟨rfl, rfl, trivial⟩, selfQ b, aT, cT, L ++ d, hleS, (by first | rfl | simp), (by first | rfl | (simp only [List.cons.injEq, Prod.mk.injEq, SV.v.injEq, Value.int.injEq, true_and, and_true]; omega) | simp), ?_⟩
            (refine ⟨.inr rfl, ?_⟩; simp only [decide_eq_true_eq, decide_eq_false_iff_not] at *; rw [hpt', if_neg (by omega), if_neg (by omega), if_neg (by omega), if_pos (by omega)]))
         | (refine ⟨[(0, _), (1, _), (7, _), (8, _)], [(1000, _), (1001, _)], ⟨rfl, rfl, rfl, rfl, trivial⟩, ⟨rfl, rfl, trivial⟩, qi, ai, ci, L, (VLe.refl _), (by first | rfl | simp), (by first | rfl | (simp only [List.cons.injEq, Prod.mk.injEq, SV.v.injEq, Value.int.injEq, true_and, and_true]; omega) | simp), ?_⟩
            (refine ⟨hqi, ?_⟩; simp only [decide_eq_true_eq, decide_eq_false_iff_not] at *; rw [hpt', if_neg (by omega), if_neg (by omega), if_neg (by omega), if_neg (by omega), List.append_nil]))
       ·
        refine wc_cut (fun ρ σ uci18 => VLe u' uci18 ∧ σ = [(1000, (some b, .bt 143 [.pointer qi, .slice ai L.length ci])), (1001, (none, .rwv (.slice ai L.length ci) 5 1 L.length (bytesC L)))] ∧ ρ = [(0, .p 1000 0), (1, .v (.slice ax xs.length cx)), (5, .e (.slice ax xs.length cx) 10 i 0), (7, .v (.int .i64 xs.length)), (8, .v (.int .i64 i)), (17, .v (.int .i64 k)), (33, .v (.bool (decide (6 ≤ k ∧ k ≤ 11))))] ∧ (u' = uci18)) ?_ ?_
        ·
         refine wc_seq ?_
         refine wc_region ?_
         refine rl_y (y_eql rfl rfl rfl) rfl ?_
         refine ya rfl rfl ?_
         refine rl_end (ρ' := [(0, _), (1, _), (5, _), (7, _), (8, _), (17, _), (33, _)]) ⟨rfl, rfl, rfl, rfl, rfl, rfl, rfl, trivial⟩ ?_
         refine q_then ?_
         refine wc_cond rfl (fun hb12 => ?_) (fun hb12 => ?_)
         ·
          refine wc_skip ?_
          refine q_thenK ?_
          refine ⟨[(0, _), (1, _), (5, _), (7, _), (8, _), (17, _), (33, _)], [(1000, _), (1001, _)], ⟨rfl, rfl, rfl, rfl, rfl, rfl, rfl, trivial⟩, ⟨rfl, rfl, trivial⟩, (VLe.refl _), rfl, (by first | rfl | (simp only [List.cons.injEq, Prod.mk.injEq, SV.v.injEq, Value.bool.injEq, eq_self, true_and, and_true]; exact decide_eq_decide.2 (by simp only [decide_eq_true_eq, decide_eq_false_iff_not] at *; omega))), ?_⟩
          rfl
         ·
          refine wc_seq ?_
          refine wc_region ?_
          refine rl_y (y_eql rfl rfl rfl) rfl ?_
          refine ya rfl rfl ?_
          refine rl_end (ρ' := [(0, _), (1, _), (5, _), (7, _), (8, _), (17, _), (33, _)]) ⟨rfl, rfl, rfl, rfl, rfl, rfl, rfl, trivial⟩ ?_
          refine q_then ?_
          refine wc_cond rfl (fun hb13 => ?_) (fun hb13 => ?_)
          ·
           refine wc_skip ?_
           refine q_thenK ?_
           refine ⟨[(0, _), (1, _), (5, _), (7, _), (8, _), (17, _), (33, _)], [(1000, _), (1001, _)], ⟨rfl, rfl, rfl, rfl, rfl, rfl, rfl, trivial⟩, ⟨rfl, rfl, trivial⟩, (VLe.refl _), rfl, (by first | rfl | (simp only [List.cons.injEq, Prod.mk.injEq, SV.v.injEq, Value.bool.injEq, eq_self, true_and, and_true]; exact decide_eq_decide.2 (by simp only [decide_eq_true_eq, decide_eq_false_iff_not] at *; omega))), ?_⟩
           rfl
          ·
           refine wc_seq ?_
           refine wc_region ?_
           refine rl_y (y_eql rfl rfl rfl) rfl ?_
           refine ya rfl rfl ?_
           refine rl_end (ρ' := [(0, _), (1, _), (5, _), (7, _), (8, _), (17, _), (33, _)]) ⟨rfl, rfl, rfl, rfl, rfl, rfl, rfl, trivial⟩ ?_
           refine q_then ?_
           refine wc_cond rfl (fun hb14 => ?_) (fun hb14 => ?_)
           ·
            refine wc_skip ?_
            refine q_thenK ?_
            refine ⟨[(0, _), (1, _), (5, _), (7, _), (8, _), (17, _), (33, _)], [(1000, _), (1001, _)], ⟨rfl, rfl, rfl, rfl, rfl, rfl, rfl, trivial⟩, ⟨rfl, rfl, trivial⟩, (VLe.refl _), rfl, (by first | rfl | (simp only [List.cons.injEq, Prod.mk.injEq, SV.v.injEq, Value.bool.injEq, eq_self, true_and, and_true]; exact decide_eq_decide.2 (by simp only [decide_eq_true_eq, decide_eq_false_iff_not] at *; omega))), ?_⟩
            rfl
           ·
            refine wc_seq ?_
            refine wc_region ?_
            refine rl_y (y_eql rfl rfl rfl) rfl ?_
            refine ya rfl rfl ?_
            refine rl_end (ρ' := [(0, _), (1, _), (5, _), (7, _), (8, _), (17, _), (33, _)]) ⟨rfl, rfl, rfl, rfl, rfl, rfl, rfl, trivial⟩ ?_
            refine q_then ?_
            refine wc_cond rfl (fun hb15 => ?_) (fun hb15 => ?_)
            ·
             refine wc_skip ?_
             refine q_thenK ?_
             refine ⟨[(0, _), (1, _), (5, _), (7, _), (8, _), (17, _), (33, _)], [(1000, _), (1001, _)], ⟨rfl, rfl, rfl, rfl, rfl, rfl, rfl, trivial⟩, ⟨rfl, rfl, trivial⟩, (VLe.refl _), rfl, (by first | rfl | (simp only [List.cons.injEq, Prod.mk.injEq, SV.v.injEq, Value.bool.injEq, eq_self, true_and, and_true]; exact decide_eq_decide.2 (by simp only [decide_eq_true_eq, decide_eq_false_iff_not] at *; omega))), ?_⟩
             rfl
            ·
             refine wc_seq ?_
             refine wc_region ?_
             refine rl_y (y_eql rfl rfl rfl) rfl ?_
             refine ya rfl rfl ?_
             refine rl_end (ρ' := [(0, _), (1, _), (5, _), (7, _), (8, _), (17, _), (33, _)]) ⟨rfl, rfl, rfl, rfl, rfl, rfl, rfl, trivial⟩ ?_
             refine q_then ?_
             refine wc_cond rfl (fun hb16 => ?_) (fun hb16 => ?_)
             ·
              refine wc_skip ?_
              refine q_thenK ?_
              refine ⟨[(0, _), (1, _), (5, _), (7, _), (8, _), (17, _), (33, _)], [(1000, _), (1001, _)], ⟨rfl, rfl, rfl, rfl, rfl, rfl, rfl, trivial⟩, ⟨rfl, rfl, trivial⟩, (VLe.refl _), rfl, (by first | rfl | (simp only [List.cons.injEq, Prod.mk.injEq, SV.v.injEq, Value.bool.injEq, eq_self, true_and, and_true]; exact decide_eq_decide.2 (by simp only [decide_eq_true_eq, decide_eq_false_iff_not] at *; omega))), ?_⟩
              rfl
             ·
              refine wc_region ?_
              refine rl_y (y_eql rfl rfl rfl) rfl ?_
              refine ya rfl rfl ?_
              refine rl_end (ρ' := [(0, _), (1, _), (5, _), (7, _), (8, _), (17, _), (33, _)]) ⟨rfl, rfl, rfl, rfl, rfl, rfl, rfl, trivial⟩ ?_
              refine q_thenK ?_
              refine ⟨[(0, _), (1, _), (5, _), (7, _), (8, _), (17, _), (33, _)], [(1000, _), (1001, _)], ⟨rfl, rfl, rfl, rfl, rfl, rfl, rfl, trivial⟩, ⟨rfl, rfl, trivial⟩, (VLe.refl _), rfl, (by first | rfl | (simp only [List.cons.injEq, Prod.mk.injEq, SV.v.injEq, Value.bool.injEq, eq_self, true_and, and_true]; exact decide_eq_decide.2 (by simp only [decide_eq_true_eq, decide_eq_false_iff_not] at *; omega))), ?_⟩
              rfl
        ·
         rintro ρ σ uci18 ⟨hlci18, rfl, rfl, rfl⟩
         refine wc_cond rfl (fun hb17 => ?_) (fun hb17 => ?_)
         ·
          refine wc_region ?_
          refine ym rfl rfl ?_
          refine ym rfl rfl ?_
          refine rl_y (y_nilCheck_e rfl rfl) rfl ?_
          refine rl_y (y_field_e rfl Tryz.f42' rfl (by decide) rfl) rfl ?_
          refine rl_y (y_load_el rfl Tryz.k35 rfl (by assumption) (by omega) (by assumption) (vs := [_]) rfl rfl rfl rfl) rfl ?_
          refine rl_do rfl rfl ?_
          refine do_call_o (caps := []) (ρ' := [(0, _), (1, _), (7, _), (8, _)]) [1000, 1001] [] trivial rfl rfl rfl Tryz.c111 rfl rfl ⟨rfl, rfl, rfl, rfl, trivial⟩ rfl rfl rfl (FnO.mono (ih (szI kids) (by omega) vk kids qi ai ci L _ (Nat.le_refl _) (by omega) tx4 hqi (by omega) s5) ?_)
          rintro v uS l1 hleS ⟨rfl, qR, aR, cR, hqR, rfl⟩ -
          refine ⟨⟨fun _ h => h, fun _ h => h, trivial⟩, ?_⟩
          refine rl_end (ρ' := [(0, _), (1, _), (7, _), (8, _)]) ⟨rfl, rfl, rfl, rfl, trivial⟩ ?_
          refine q_block ?_
          refine q_block ?_
          refine q_thenK ?_
          first
           | (refine ⟨[(0, _), (1, _), (7, _), (8, _)], [(1000, _), (1001, _)], ⟨rfl, rfl, rfl, rfl, trivial⟩, ⟨rfl, rfl, trivial⟩, selfQ b, aS, cS, L ++ t, hleS, (by first | rfl | simp), (by first | rfl | (simp only [List.cons.injEq, Prod.mk.injEq, SV.v.injEq, Value.int.injEq, true_and, and_true]; omega) | simp), ?_⟩
              (refine ⟨.inr rfl, ?_⟩; simp only [decide_eq_true_eq, decide_eq_false_iff_not] at *; rw [hpt', if_pos (by omega)]))
           | (refine ⟨[(0, _), (1, _), (7, _), (8, _)], [(1000, _), (1001, _)], ⟨rfl, rfl, rfl, rfl, trivial⟩, ⟨rfl, rfl, trivial⟩, selfQ b, aW, cW, L ++ [32], hleS, (by first | rfl | simp), (by first | rfl | (simp only [List.cons.injEq, Prod.mk.injEq, SV.v.injEq, Value.int.injEq, true_and, and_true]; omega) | simp), ?_⟩
              (refine ⟨.inr rfl, ?_⟩; simp only [decide_eq_true_eq, decide_eq_false_iff_not] at *; rw [hpt', if_neg (by omega), if_pos (by omega)]))
           | (refine ⟨[(0, _), (1, _), (7, _), (8, _)], [(1000, _), (1001, _)], ⟨rfl, rfl, rfl, rfl, trivial⟩, ⟨rfl, rfl, trivial⟩, qR, aR, cR, L ++ plain kids, hleS, (by first | rfl | simp), (by first | rfl | (simp only [List.cons.injEq, Prod.mk.injEq, SV.v.injEq, Value.int.injEq, true_and, and_true]; omega) | simp), ?_⟩
              (refine ⟨hqR, ?_⟩; simp only [decide_eq_true_eq, decide_eq_false_iff_not] at *; rw [hpt', if_neg (by omega), if_neg (by omega), if_pos (by omega)]))
           | (refine ⟨[(0, _), (1, _), (7, _), (8, _)], [(1000, _), (1001, _)], ⟨rfl, rfl, rfl, rfl, trivial⟩, ⟨rfl, rfl, trivial⟩, selfQ b, aT, cT, L ++ d, hleS, (by first | rfl | simp), (by first | rfl | (simp only [List.cons.injEq, Prod.mk.injEq, SV.v.injEq, Value.int.injEq, true_and, and_true]; omega) | simp), ?_⟩
              (refine ⟨.inr rfl, ?_⟩; simp only [decide_eq_true_eq, decide_eq_false_iff_not] at *; rw [hpt', if_neg (by omega), if_neg (by omega), if_neg (by omega), if_pos (by omega)]))
           | (refine ⟨[(0, _), (1, _), (7, _), (8, _)], [(1000, _), (1001, _)], ⟨rfl, rfl, rfl, rfl, trivial⟩, ⟨rfl, rfl, trivial⟩, qi, ai, ci, L, (VLe.refl _), (by first | rfl | simp), (by first | rfl | (simp only [List.cons.injEq, Prod.mk.injEq, SV.v.injEq, Value.int.injEq, true_and, and_true]; omega) | simp), ?_⟩
              (refine ⟨hqi, ?_⟩; simp only [decide_eq_true_eq, decide_eq_false_iff_not] at *; rw [hpt', if_neg (by omega), if_neg (by omega), if_neg (by omega), if_neg (by omega), List.append_nil]))
         ·
          refine wc_seq ?_
          refine wc_region ?_
          refine rl_y (y_eql rfl rfl rfl) rfl ?_
          refine ya rfl rfl ?_
          refine rl_end (ρ' := [(0, _), (1, _), (5, _), (7, _), (8, _), (46, _)]) ⟨rfl, rfl, rfl, rfl, rfl, rfl, trivial⟩ ?_
          refine q_then ?_
          refine wc_cond rfl (fun hb19 => ?_) (fun hb19 => ?_)
          ·
           refine wc_region ?_
           refine ym rfl rfl ?_
           refine ym rfl rfl ?_
           refine rl_y (y_nilCheck_e rfl rfl) rfl ?_
           refine rl_y (y_field_e rfl Tryz.f42' rfl (by decide) rfl) rfl ?_
           refine rl_y (y_load_el rfl Tryz.k9 rfl (by assumption) (by omega) (by assumption) (vs := [_]) rfl rfl rfl rfl) rfl ?_
           refine rl_do rfl rfl ?_
           refine do_call_o (caps := []) (ρ' := [(0, _), (1, _), (7, _), (8, _)]) [1000, 1001] [] trivial rfl rfl rfl Tryz.c102 rfl rfl ⟨rfl, rfl, rfl, rfl, trivial⟩ rfl rfl rfl (FnO.mono (writeString_fn b qi hqi ai ci L d (by omega) _) ?_)
           rintro v uS l1 hleS ⟨rfl, aT, cT, rfl⟩ -
           refine ⟨⟨fun _ h => h, fun _ h => h, trivial⟩, ?_⟩
           refine rl_end (ρ' := [(0, _), (1, _), (7, _), (8, _)]) ⟨rfl, rfl, rfl, rfl, trivial⟩ ?_
           refine q_block ?_
           refine q_block ?_
           refine q_thenK ?_
           first
            | (refine ⟨[(0, _), (1, _), (7, _), (8, _)], [(1000, _), (1001, _)], ⟨rfl, rfl, rfl, rfl, trivial⟩, ⟨rfl, rfl, trivial⟩, selfQ b, aS, cS, L ++ t, hleS, (by first | rfl | simp), (by first | rfl | (simp only [List.cons.injEq, Prod.mk.injEq, SV.v.injEq, Value.int.injEq, true_and, and_true]; omega) | simp), ?_⟩
               (refine ⟨.inr rfl, ?_⟩; simp only [decide_eq_true_eq, decide_eq_false_iff_not] at *; rw [hpt', if_pos (by omega)]))
            | (refine ⟨[(0, _), (1, _), (7, _), (8, _)], [(1000, _), (1001, _)], ⟨rfl, rfl, rfl, rfl, trivial⟩, ⟨rfl, rfl, trivial⟩, selfQ b, aW, cW, L ++ [32], hleS, (by first | rfl | simp), (by first | rfl | (simp only [List.cons.injEq, Prod.mk.injEq, SV.v.injEq, Value.int.injEq, true_and, and_true]; omega) | simp), ?_⟩
               (refine ⟨.inr rfl, ?_⟩; simp only [decide_eq_true_eq, decide_eq_false_iff_not] at *; rw [hpt', if_neg (by omega), if_pos (by omega)]))
            | (refine ⟨[(0, _), (1, _), (7, _), (8, _)], [(1000, _), (1001, _)], ⟨rfl, rfl, rfl, rfl, trivial⟩, ⟨rfl, rfl, trivial⟩, qR, aR, cR, L ++ plain kids, hleS, (by first | rfl | simp), (by first | rfl | (simp only [List.cons.injEq, Prod.mk.injEq, SV.v.injEq, Value.int.injEq, true_and, and_true]; omega) | simp), ?_⟩
               (refine ⟨hqR, ?_⟩; simp only [decide_eq_true_eq, decide_eq_false_iff_not] at *; rw [hpt', if_neg (by omega), if_neg (by omega), if_pos (by omega)]))
            | (refine ⟨[(0, _), (1, _), (7, _), (8, _)], [(1000, _), (1001, _)], ⟨rfl, rfl, rfl, rfl, trivial⟩, ⟨rfl, rfl, trivial⟩, selfQ b, aT, cT, L ++ d, hleS, (by first | rfl | simp), (by first | rfl | (simp only [List.cons.injEq, Prod.mk.injEq, SV.v.injEq, Value.int.injEq, true_and, and_true]; omega) | simp), ?_⟩
               (refine ⟨.inr rfl, ?_⟩; simp only [decide_eq_true_eq, decide_eq_false_iff_not] at *; rw [hpt', if_neg (by omega), if_neg (by omega), if_neg (by omega), if_pos (by omega)]))
            | (refine ⟨[(0, _), (1, _), (7, _), (8, _)], [(1000, _), (1001, _)], ⟨rfl, rfl, rfl, rfl, trivial⟩, ⟨rfl, rfl, trivial⟩, qi, ai, ci, L, (VLe.refl _), (by first | rfl | simp), (by first | rfl | (simp only [List.cons.injEq, Prod.mk.injEq, SV.v.injEq, Value.int.injEq, true_and, and_true]; omega) | simp), ?_⟩
               (refine ⟨hqi, ?_⟩; simp only [decide_eq_true_eq, decide_eq_false_iff_not] at *; rw [hpt', if_neg (by omega), if_neg (by omega), if_neg (by omega), if_neg (by omega), List.append_nil]))
          ·
           refine wc_skip ?_
           refine q_block ?_
           refine q_block ?_
           refine q_thenK ?_
           first
            | (refine ⟨[(0, _), (1, _), (7, _), (8, _)], [(1000, _), (1001, _)], ⟨rfl, rfl, rfl, rfl, trivial⟩, ⟨rfl, rfl, trivial⟩, selfQ b, aS, cS, L ++ t, hleS, (by first | rfl | simp), (by first | rfl | (simp only [List.cons.injEq, Prod.mk.injEq, SV.v.injEq, Value.int.injEq, true_and, and_true]; omega) | simp), ?_⟩
               (refine ⟨.inr rfl, ?_⟩; simp only [decide_eq_true_eq, decide_eq_false_iff_not] at *; rw [hpt', if_pos (by omega)]))
            | (refine ⟨[(0, _), (1, _), (7, _), (8, _)], [(1000, _), (1001, _)], ⟨rfl, rfl, rfl, rfl, trivial⟩, ⟨rfl, rfl, trivial⟩, selfQ b, aW, cW, L ++ [32], hleS, (by first | rfl | simp), (by first | rfl | (simp only [List.cons.injEq, Prod.mk.injEq, SV.v.injEq, Value.int.injEq, true_and, and_true]; omega) | simp), ?_⟩
               (refine ⟨.inr rfl, ?_⟩; simp only [decide_eq_true_eq, decide_eq_false_iff_not] at *; rw [hpt', if_neg (by omega), if_pos (by omega)]))
            | (refine ⟨[(0, _), (1, _), (7, _), (8, _)], [(1000, _), (1001, _)], ⟨rfl, rfl, rfl, rfl, trivial⟩, ⟨rfl, rfl, trivial⟩, qR, aR, cR, L ++ plain kids, hleS, (by first | rfl | simp), (by first | rfl | (simp only [List.cons.injEq, Prod.mk.injEq, SV.v.injEq, Value.int.injEq, true_and, and_true]; omega) | simp), ?_⟩
               (refine ⟨hqR, ?_⟩; simp only [decide_eq_true_eq, decide_eq_false_iff_not] at *; rw [hpt', if_neg (by omega), if_neg (by omega), if_pos (by omega)]))
            | (refine ⟨[(0, _), (1, _), (7, _), (8, _)], [(1000, _), (1001, _)], ⟨rfl, rfl, rfl, rfl, trivial⟩, ⟨rfl, rfl, trivial⟩, selfQ b, aT, cT, L ++ d, hleS, (by first | rfl | simp), (by first | rfl | (simp only [List.cons.injEq, Prod.mk.injEq, SV.v.injEq, Value.int.injEq, true_and, and_true]; omega) | simp), ?_⟩
               (refine ⟨.inr rfl, ?_⟩; simp only [decide_eq_true_eq, decide_eq_false_iff_not] at *; rw [hpt', if_neg (by omega), if_neg (by omega), if_neg (by omega), if_pos (by omega)]))
            | (refine ⟨[(0, _), (1, _), (7, _), (8, _)], [(1000, _), (1001, _)], ⟨rfl, rfl, rfl, rfl, trivial⟩, ⟨rfl, rfl, trivial⟩, qi, ai, ci, L, (VLe.refl _), (by first | rfl | simp), (by first | rfl | (simp only [List.cons.injEq, Prod.mk.injEq, SV.v.injEq, Value.int.injEq, true_and, and_true]; omega) | simp), ?_⟩
               (refine ⟨hqi, ?_⟩; simp only [decide_eq_true_eq, decide_eq_false_iff_not] at *; rw [hpt', if_neg (by omega), if_neg (by omega), if_neg (by omega), if_neg (by omega), List.append_nil]))
   ·
    rintro ρ σ uc21 ⟨q2, a2, c2, L2, hlc21, rfl, rfl, ⟨hq2, hL2⟩⟩
    refine wc_region ?_
    refine rl_y (y_add rfl rfl rfl (wrap64_id (by omega))) rfl ?_
    refine ym rfl rfl ?_
    refine rl_end (ρ' := [(0, _), (1, _), (7, _), (8, _)]) ⟨rfl, rfl, rfl, rfl, trivial⟩ ?_
    refine q_thenK ?_
    refine ⟨m - 1, [(0, _), (1, _), (7, _), (8, _)], [(1000, _), (1001, _)], by omega, ⟨rfl, rfl, rfl, rfl, trivial⟩, ⟨rfl, rfl, trivial⟩, i + 1, by omega, (hle1.trans hlc21), q2, a2, c2, (by rw [← hL2]), (by first | rfl | simp), ?_⟩
    exact hq2
  ·
   refine wc_exit ?_
   refine q_then_exit ?_
   refine q_then_exit ?_
   refine q_block_hit ?_
   refine finO0n [1000, 1001]  rfl rfl ?_
   have hge := of_decide_eq_false hb1
   rw [List.take_of_length_le (by omega)]
   exact ⟨rfl, _, _, _, hqi, rfl⟩
theorem treePlain_fn (v : Value) (xs : List Inl) (hbig : szI xs ≤ 1000) (htx : txI 100000 xs) (u : View) (ha : InlS u v xs) : FnP Tryz.prog 84 [v] u fun r _ => r = str (plain xs) := by
 have hpl := plain_len 100000 (by omega) xs htx
 refine FnP.intro [.tmp 2] Tryz.func84 rfl rfl rfl ?_
 intro w0 D hw0
 refine wc_seq ?_
 refine wc_region ?_
 refine ya rfl rfl ?_
 refine rl_end (ρ' := [(0, _)]) ⟨rfl, trivial⟩ ?_
 refine q_then ?_
 refine wc_seq ?_
 refine wc_region ?_
 refine rl_do rfl rfl ?_
 refine do_alloc_t trivial Tryz.z143 rfl rfl rfl ?_
 refine rl_nilW 600 5 1 rfl rfl ?_
 refine rl_end (ρ' := [(0, _), (3, _)]) ⟨rfl, rfl, trivial⟩ ?_
 refine q_then ?_
 refine wc_seq ?_
 refine wc_region ?_
 refine ym rfl rfl ?_
 refine rl_name 3 rfl ⟨3, _, .inl rfl⟩ ?_
 intro b3
 refine rl_do rfl rfl ?_
 refine do_call_o (caps := []) (ρ' := [(3, _)]) [3, 600] [] trivial rfl rfl rfl Tryz.c111 rfl rfl ⟨rfl, trivial⟩ rfl rfl rfl (FnO.mono (writePlain_fn b3 (szI xs) v xs none none 0 [] u (Nat.le_refl _) hbig htx (.inl rfl) (by simp; omega) ha) ?_)
 rintro v uW l1 hleW ⟨rfl, q2, a2, c2, hq2, rfl⟩ -
 refine ⟨⟨fun _ h => h, fun _ h => h, trivial⟩, ?_⟩
 refine rl_end (ρ' := [(3, _)]) ⟨rfl, trivial⟩ ?_
 refine q_then ?_
 refine wc_seq ?_
 refine wc_region ?_
 refine rl_do rfl rfl ?_
 refine do_call_o (caps := []) (ρ' := []) [3, 600] [] trivial rfl rfl rfl Tryz.c103 rfl rfl trivial rfl rfl rfl (FnO.mono (bldString_fn b3 q2 a2 c2 ([] ++ plain xs) (by simp; omega) _) ?_)
 rintro v uS l1 hleS ⟨rfl, o2, rfl⟩ -
 refine ⟨⟨fun _ h => h, fun _ h => h, trivial⟩, ?_⟩
 refine ya rfl rfl ?_
 refine rl_end (ρ' := [(2, _)]) ⟨rfl, trivial⟩ ?_
 refine q_then ?_
 refine wc_ret ?_
 refine fin1 (.tmp rfl) ?_
 simp
set_option maxHeartbeats 4000000 in
theorem refPlain_fn (n : Nat) : ∀ (v : Value) (xs : List Inl) (u : View), szI xs ≤ n → szI xs ≤ 1000 → txI 100000 xs → InlS u v xs → FnP Tryz.prog 21 [v] u fun r _ => r = str (plain xs) := by
 induction n using Nat.strongRecOn with
 | _ n ih =>
 intro v xs u hsz hbig htx ha
 have hlx := len_szI xs
 obtain ⟨cs, ⟨ax, cx, rfl, h1⟩, hc1⟩ := ha
 refine FnP.intro [.tmp 2] Tryz.func21 rfl rfl rfl ?_
 intro w0 D hw0
 refine wc_seq ?_
 refine wc_region ?_
 refine ya rfl rfl ?_
 refine rl_end (ρ' := [(0, _)]) ⟨rfl, trivial⟩ ?_
 refine q_then ?_
 refine wc_seq ?_
 refine wc_region ?_
 refine ya rfl rfl ?_
 refine rl_end (ρ' := [(0, _), (3, _)]) ⟨rfl, rfl, trivial⟩ ?_
 refine q_then ?_
 refine wc_seq ?_
 refine wc_seq ?_
 refine wc_region ?_
 refine ya rfl rfl ?_
 refine rl_end (ρ' := [(0, _), (3, _), (4, _)]) ⟨rfl, rfl, rfl, trivial⟩ ?_
 refine q_then ?_
 refine wc_block ?_
 refine wc_loop (fun m ρ σ u' => ∃ i : Nat, i + m = xs.length ∧ VLe u u' ∧ σ = [] ∧ ρ = [(0, .v (.slice ax xs.length cx)), (3, .v (str (plain (xs.take i)))), (4, .v (.int .i64 i))] ∧ (u = u')) (xs.length) ?_ ?_
 ·
  refine ⟨[(0, _), (3, _), (4, _)], [], ⟨rfl, rfl, rfl, trivial⟩, trivial, 0, by omega, VLe.refl _, (by first | rfl | simp), (by first | rfl | (simp only [List.cons.injEq, Prod.mk.injEq, SV.v.injEq, Value.int.injEq, true_and, and_true]; omega) | simp), ?_⟩
  rfl
 ·
  rintro m ρ σ u' ⟨i, hi3, hle3, rfl, rfl, rfl⟩
  refine wc_seq ?_
  refine wc_seq ?_
  refine wc_region ?_
  refine ym rfl rfl ?_
  refine ym rfl rfl ?_
  refine rl_y (y_len_v rfl rfl Tryz.s35 rfl) rfl ?_
  refine rl_y (y_lss rfl rfl rfl) rfl ?_
  refine rl_end (ρ' := [(0, _), (3, _), (4, _), (8, _)]) ⟨rfl, rfl, rfl, rfl, trivial⟩ ?_
  refine q_then ?_
  refine wc_cond rfl (fun hb3 => ?_) (fun hb3 => ?_)
  ·
   have hlt : i < xs.length := (by have := of_decide_eq_true hb3; omega)
   refine wc_skip ?_
   refine q_then ?_
   refine wc_cut (fun ρ σ uc4 => ∃ (L2 : Bs), VLe u uc4 ∧ σ = [] ∧ ρ = [(0, .v (.slice ax xs.length cx)), (3, .v (str L2)), (4, .v (.int .i64 i))] ∧ (u = uc4 ∧ L2 = plain (xs.take (i + 1)))) ?_ ?_
   ·
    refine wc_block ?_
    refine wc_seq ?_
    obtain ⟨k, t, d, ti, a, args, cites, kids, vc, vp, va, vt, vk, hg, hcut1, s1, s2, s3, s4, s5, hok⟩ := hc1.at hlt
    have oneAll := (hc1.get i _ hg).one
    rw [hcut1] at oneAll
    have hszk := szI_kids hg
    have hpl := plain_take_len 100000 (by omega) htx i
    have hpl2 := plain_take_len 100000 (by omega) htx (i + 1)
    obtain ⟨tx1, tx2, tx3, tx4⟩ := txI_kids htx hg
    have hpk := plain_len 100000 (by omega) kids tx4
    have hpt := plain_take hg
    rw [plain1_eq] at hpt
    generalize plain (xs.take i) = L at hpl hpt ⊢
    refine wc_region ?_
    refine ym rfl rfl ?_
    refine ym rfl rfl ?_
    refine rl_y (y_index_e rfl Tryz.s35 rfl rfl (by assumption) (by first | rfl | omega) (by omega)) rfl ?_
    refine rl_y (y_field_e rfl Tryz.f42' rfl (by decide) rfl) rfl ?_
    refine rl_y (y_load_el rfl Tryz.k3 rfl (by assumption) (by omega) (by assumption) (vs := [_]) rfl rfl rfl rfl) rfl ?_
    refine rl_end (ρ' := [(0, _), (3, _), (4, _), (15, _)]) ⟨rfl, rfl, rfl, rfl, trivial⟩ ?_
    refine q_then ?_
    refine wc_block ?_
    refine wc_cut (fun ρ σ uci9 => VLe u uci9 ∧ σ = [] ∧ ρ = [(0, .v (.slice ax xs.length cx)), (3, .v (str L)), (4, .v (.int .i64 i)), (15, .v (.int .i64 k)), (16, .v (.bool (decide (k = 1 ∨ k = 4 ∨ k = 5))))] ∧ (u = uci9)) ?_ ?_
    ·
     refine wc_seq ?_
     refine wc_region ?_
     refine rl_y (y_eql rfl rfl rfl) rfl ?_
     refine ya rfl rfl ?_
     refine rl_end (ρ' := [(0, _), (3, _), (4, _), (15, _), (16, _)]) ⟨rfl, rfl, rfl, rfl, rfl, trivial⟩ ?_
     refine q_then ?_
     refine wc_cond rfl (fun hb6 => ?_) (fun hb6 => ?_)
     ·
      refine wc_skip ?_
      refine q_thenK ?_
      refine ⟨[(0, _), (3, _), (4, _), (15, _), (16, _)], [], ⟨rfl, rfl, rfl, rfl, rfl, trivial⟩, trivial, (VLe.refl _), rfl, (by first | rfl | (simp only [List.cons.injEq, Prod.mk.injEq, SV.v.injEq, Value.bool.injEq, eq_self, true_and, and_true]; exact decide_eq_decide.2 (by simp only [decide_eq_true_eq, decide_eq_false_iff_not] at *; omega))), ?_⟩
      rfl
     ·
      refine wc_seq ?_
      refine wc_region ?_
      refine rl_y (y_eql rfl rfl rfl) rfl ?_
      refine ya rfl rfl ?_
      refine rl_end (ρ' := [(0, _), (3, _), (4, _), (15, _), (16, _)]) ⟨rfl, rfl, rfl, rfl, rfl, trivial⟩ ?_
      refine q_then ?_
      refine wc_cond rfl (fun hb7 => ?_) (fun hb7 => ?_)
      ·
       refine wc_skip ?_
       refine q_thenK ?_
       refine ⟨[(0, _), (3, _), (4, _), (15, _), (16, _)], [], ⟨rfl, rfl, rfl, rfl, rfl, trivial⟩, trivial, (VLe.refl _), rfl, (by first | rfl | (simp only [List.cons.injEq, Prod.mk.injEq, SV.v.injEq, Value.bool.injEq, eq_self, true_and, and_true]; exact decide_eq_decide.2 (by simp only [decide_eq_true_eq, decide_eq_false_iff_not] at *; omega))), ?_⟩
       rfl
      ·
       refine wc_region ?_
       refine rl_y (y_eql rfl rfl rfl) rfl ?_
       refine ya rfl rfl ?_
       refine rl_end (ρ' := [(0, _), (3, _), (4, _), (15, _), (16, _)]) ⟨rfl, rfl, rfl, rfl, rfl, trivial⟩ ?_
       refine q_thenK ?_
       refine ⟨[(0, _), (3, _), (4, _), (15, _), (16, _)], [], ⟨rfl, rfl, rfl, rfl, rfl, trivial⟩, trivial, (VLe.refl _), rfl, (by first | rfl | (simp only [List.cons.injEq, Prod.mk.injEq, SV.v.injEq, Value.bool.injEq, eq_self, true_and, and_true]; exact decide_eq_decide.2 (by simp only [decide_eq_true_eq, decide_eq_false_iff_not] at *; omega))), ?_⟩
       rfl
    ·
     rintro ρ σ uci9 ⟨hlci9, rfl, rfl, rfl⟩
     refine wc_cond rfl (fun hb8 => ?_) (fun hb8 => ?_)
     ·
      refine wc_region ?_
      refine ym rfl rfl ?_
      refine ym rfl rfl ?_
      refine ym rfl rfl ?_
      refine rl_y (y_index_e rfl Tryz.s35 rfl rfl (by assumption) (by first | rfl | omega) (by omega)) rfl ?_
      refine rl_y (y_field_e rfl Tryz.f42' rfl (by decide) rfl) rfl ?_
      refine rl_y (y_load_el rfl Tryz.k9 rfl (by assumption) (by omega) (by assumption) (vs := [_]) rfl rfl rfl rfl) rfl ?_
      refine rl_y (y_str_add rfl rfl rfl (by omega)) rfl ?_
      refine ya rfl rfl ?_
      refine rl_end (ρ' := [(0, _), (3, _), (4, _)]) ⟨rfl, rfl, rfl, trivial⟩ ?_
      refine q_block ?_
      refine q_block ?_
      refine q_thenK ?_
      first
       | (refine ⟨[(0, _), (3, _), (4, _)], [], ⟨rfl, rfl, rfl, trivial⟩, trivial, L ++ t, (VLe.refl _), (by first | rfl | simp), (by first | rfl | (simp only [List.cons.injEq, Prod.mk.injEq, SV.v.injEq, Value.int.injEq, true_and, and_true]; omega) | simp), ?_⟩
          (refine ⟨rfl, ?_⟩; simp only [decide_eq_true_eq, decide_eq_false_iff_not] at *; rw [hpt, if_pos (by omega)]))
       | (refine ⟨[(0, _), (3, _), (4, _)], [], ⟨rfl, rfl, rfl, trivial⟩, trivial, L ++ [32], (VLe.refl _), (by first | rfl | simp), (by first | rfl | (simp only [List.cons.injEq, Prod.mk.injEq, SV.v.injEq, Value.int.injEq, true_and, and_true]; omega) | simp), ?_⟩
          (refine ⟨rfl, ?_⟩; simp only [decide_eq_true_eq, decide_eq_false_iff_not] at *; rw [hpt, if_neg (by omega), if_pos (by omega)]))
       | (refine ⟨[(0, _), (3, _), (4, _)], [], ⟨rfl, rfl, rfl, trivial⟩, trivial, L ++ plain kids, (VLe.refl _), (by first | rfl | simp), (by first | rfl | (simp only [List.cons.injEq, Prod.mk.injEq, SV.v.injEq, Value.int.injEq, true_and, and_true]; omega) | simp), ?_⟩
          (refine ⟨rfl, ?_⟩; simp only [decide_eq_true_eq, decide_eq_false_iff_not] at *; rw [hpt, if_neg (by omega), if_neg (by omega), if_pos (by omega)]))
       | (refine ⟨[(0, _), (3, _), (4, _)], [], ⟨rfl, rfl, rfl, trivial⟩, trivial, L ++ d, (VLe.refl _), (by first | rfl | simp), (by first | rfl | (simp only [List.cons.injEq, Prod.mk.injEq, SV.v.injEq, Value.int.injEq, true_and, and_true]; omega) | simp), ?_⟩
          (refine ⟨rfl, ?_⟩; simp only [decide_eq_true_eq, decide_eq_false_iff_not] at *; rw [hpt, if_neg (by omega), if_neg (by omega), if_neg (by omega), if_pos (by omega)]))
       | (refine ⟨[(0, _), (3, _), (4, _)], [], ⟨rfl, rfl, rfl, trivial⟩, trivial, L, (VLe.refl _), (by first | rfl | simp), (by first | rfl | (simp only [List.cons.injEq, Prod.mk.injEq, SV.v.injEq, Value.int.injEq, true_and, and_true]; omega) | simp), ?_⟩
          (refine ⟨rfl, ?_⟩; simp only [decide_eq_true_eq, decide_eq_false_iff_not] at *; rw [hpt, if_neg (by omega), if_neg (by omega), if_neg (by omega), if_neg (by omega), List.append_nil]))
     ·
      refine wc_cut (fun ρ σ uci12 => VLe u uci12 ∧ σ = [] ∧ ρ = [(0, .v (.slice ax xs.length cx)), (3, .v (str L)), (4, .v (.int .i64 i)), (15, .v (.int .i64 k)), (27, .v (.bool (decide (k = 2 ∨ k = 3))))] ∧ (u = uci12)) ?_ ?_
      ·
       refine wc_seq ?_
       refine wc_region ?_
       refine rl_y (y_eql rfl rfl rfl) rfl ?_
       refine ya rfl rfl ?_
       refine rl_end (ρ' := [(0, _), (3, _), (4, _), (15, _), (27, _)]) ⟨rfl, rfl, rfl, rfl, rfl, trivial⟩ ?_
       refine q_then ?_
       refine wc_cond rfl (fun hb10 => ?_) (fun hb10 => ?_)
       ·
        refine wc_skip ?_
        refine q_thenK ?_
        refine ⟨[(0, _), (3, _), (4, _), (15, _), (27, _)], [], ⟨rfl, rfl, rfl, rfl, rfl, trivial⟩, trivial, (VLe.refl _), rfl, (by first | rfl | (simp only [List.cons.injEq, Prod.mk.injEq, SV.v.injEq, Value.bool.injEq, eq_self, true_and, and_true]; exact decide_eq_decide.2 (by simp only [decide_eq_true_eq, decide_eq_false_iff_not] at *; omega))), ?_⟩
        rfl
       ·
        refine wc_region ?_
        refine rl_y (y_eql rfl rfl rfl) rfl ?_
        refine ya rfl rfl ?_
        refine rl_end (ρ' := [(0, _), (3, _), (4, _), (15, _), (27, _)]) ⟨rfl, rfl, rfl, rfl, rfl, trivial⟩ ?_
        refine q_thenK ?_
        refine ⟨[(0, _), (3, _), (4, _), (15, _), (27, _)], [], ⟨rfl, rfl, rfl, rfl, rfl, trivial⟩, trivial, (VLe.refl _), rfl, (by first | rfl | (simp only [List.cons.injEq, Prod.mk.injEq, SV.v.injEq, Value.bool.injEq, eq_self, true_and, and_true]; exact decide_eq_decide.2 (by simp only [decide_eq_true_eq, decide_eq_false_iff_not] at *; omega))), ?_⟩
        rfl
      ·
       rintro ρ σ uci12 ⟨hlci12, rfl, rfl, rfl⟩
       refine wc_cond rfl (fun hb11 => ?_) (fun hb11 => ?_)
       ·
        refine wc_region ?_
        refine ym rfl rfl ?_
        refine rl_y (y_str_add (m := [32]) rfl rfl rfl (by simp; omega)) rfl ?_
        refine ya rfl rfl ?_
        refine rl_end (ρ' := [(0, _), (3, _), (4, _)]) ⟨rfl, rfl, rfl, trivial⟩ ?_
        refine q_block ?_
        refine q_block ?_
        refine q_thenK ?_
        first
         | (refine ⟨[(0, _), (3, _), (4, _)], [], ⟨rfl, rfl, rfl, trivial⟩, trivial, L ++ t, (VLe.refl _), (by first | rfl | simp), (by first | rfl | (simp only [List.cons.injEq, Prod.mk.injEq, SV.v.injEq, Value.int.injEq, true_and, and_true]; omega) | simp), ?_⟩
            (refine ⟨rfl, ?_⟩; simp only [decide_eq_true_eq, decide_eq_false_iff_not] at *; rw [hpt, if_pos (by omega)]))
         | (refine ⟨[(0, _), (3, _), (4, _)], [], ⟨rfl, rfl, rfl, trivial⟩, trivial, L ++ [32], (VLe.refl _), (by first | rfl | simp), (by first | rfl | (simp only [List.cons.injEq, Prod.mk.injEq, SV.v.injEq, Value.int.injEq, true_and, and_true]; omega) | simp), ?_⟩
            (refine ⟨rfl, ?_⟩; simp only [decide_eq_true_eq, decide_eq_false_iff_not] at *; rw [hpt, if_neg (by omega), if_pos (by omega)]))
         | (refine ⟨[(0, _), (3, _), (4, _)], [], ⟨rfl, rfl, rfl, trivial⟩, trivial, L ++ plain kids, (VLe.refl _), (by first | rfl | simp), (by first | rfl | (simp only [List.cons.injEq, Prod.mk.injEq, SV.v.injEq, Value.int.injEq, true_and, and_true]; omega) | simp), ?_⟩
            (refine ⟨rfl, ?_⟩; simp only [decide_eq_true_eq, decide_eq_false_iff_not] at *; rw [hpt, if_neg (by omega), if_neg (by omega), if_pos (by omega)]))
         | (refine ⟨[(0, _), (3, _), (4, _)], [], ⟨rfl, rfl, rfl, trivial⟩, trivial, L ++ d, (VLe.refl _), (by first | rfl | simp), (by first | rfl | (simp only [List.cons.injEq, Prod.mk.injEq, SV.v.injEq, Value.int.injEq, true_and, and_true]; omega) | simp), ?_⟩
            (refine ⟨rfl, ?_⟩; simp only [decide_eq_true_eq, decide_eq_false_iff_not] at *; rw [hpt, if_neg (by omega), if_neg (by omega), if_neg (by omega), if_pos (by omega)]))
         | (refine ⟨[(0, _), (3, _), (4, _)], [], ⟨rfl, rfl, rfl, trivial⟩, trivial, L, (VLe.refl _), (by first | rfl | simp), (by first | rfl | (simp only [List.cons.injEq, Prod.mk.injEq, SV.v.injEq, Value.int.injEq, true_and, and_true]; omega) | simp), ?_⟩
            (refine ⟨rfl, ?_⟩; simp only [decide_eq_true_eq, decide_eq_false_iff_not] at *; rw [hpt, if_neg (by omega), if_neg (by omega), if_neg (by omega), if_neg (by omega), List.append_nil]))
       ·
        refine wc_cut (fun ρ σ uci19 => VLe u uci19 ∧ σ = [] ∧ ρ = [(0, .v (.slice ax xs.length cx)), (3, .v (str L)), (4, .v (.int .i64 i)), (15, .v (.int .i64 k)), (32, .v (.bool (decide (6 ≤ k ∧ k ≤ 11))))] ∧ (u = uci19)) ?_ ?_
        ·
         refine wc_seq ?_
         refine wc_region ?_
         refine rl_y (y_eql rfl rfl rfl) rfl ?_
         refine ya rfl rfl ?_
         refine rl_end (ρ' := [(0, _), (3, _), (4, _), (15, _), (32, _)]) ⟨rfl, rfl, rfl, rfl, rfl, trivial⟩ ?_
         refine q_then ?_
         refine wc_cond rfl (fun hb13 => ?_) (fun hb13 => ?_)
         ·
          refine wc_skip ?_
          refine q_thenK ?_
          refine ⟨[(0, _), (3, _), (4, _), (15, _), (32, _)], [], ⟨rfl, rfl, rfl, rfl, rfl, trivial⟩, trivial, (VLe.refl _), rfl, (by first | rfl | (simp only [List.cons.injEq, Prod.mk.injEq, SV.v.injEq, Value.bool.injEq, eq_self, true_and, and_true]; exact decide_eq_decide.2 (by simp only [decide_eq_true_eq, decide_eq_false_iff_not] at *; omega))), ?_⟩
          rfl
         ·
          refine wc_seq ?_
          refine wc_region ?_
          refine rl_y (y_eql rfl rfl rfl) rfl ?_
          refine ya rfl rfl ?_
          refine rl_end (ρ' := [(0, _), (3, _), (4, _), (15, _), (32, _)]) ⟨rfl, rfl, rfl, rfl, rfl, trivial⟩ ?_
          refine q_then ?_
          refine wc_cond rfl (fun hb14 => ?_) (fun hb14 => ?_)
          ·
           refine wc_skip ?_
           refine q_thenK ?_
           refine ⟨[(0, _), (3, _), (4, _), (15, _), (32, _)], [], ⟨rfl, rfl, rfl, rfl, rfl, trivial⟩, trivial, (VLe.refl _), rfl, (by first | rfl | (simp only [List.cons.injEq, Prod.mk.injEq, SV.v.injEq, Value.bool.injEq, eq_self, true_and, and_true]; exact decide_eq_decide.2 (by simp only [decide_eq_true_eq, decide_eq_false_iff_not] at *; omega))), ?_⟩
           rfl
          ·
           refine wc_seq ?_
           refine wc_region ?_
           refine rl_y (y_eql rfl rfl rfl) rfl ?_
           refine ya rfl rfl ?_
           refine rl_end (ρ' := [(0, _), (3, _), (4, _), (15, _), (32, _)]) ⟨rfl, rfl, rfl, rfl, rfl, trivial⟩ ?_
           refine q_then ?_
           refine wc_cond rfl (fun hb15 => ?_) (fun hb15 => ?_)
           ·
            refine wc_skip ?_
            refine q_thenK ?_
            refine ⟨[(0, _), (3, _), (4, _), (15, _), (32, _)], [], ⟨rfl, rfl, rfl, rfl, rfl, trivial⟩, trivial, (VLe.refl _), rfl, (by first | rfl | (simp only [List.cons.injEq, Prod.mk.injEq, SV.v.injEq, Value.bool.injEq, eq_self, true_and, and_true]; exact decide_eq_decide.2 (by simp only [decide_eq_true_eq, decide_eq_false_iff_not] at *; omega))), ?_⟩
            rfl
           ·
            refine wc_seq ?_
            refine wc_region ?_
            refine rl_y (y_eql rfl rfl rfl) rfl ?_
            refine ya rfl rfl ?_
            refine rl_end (ρ' := [(0, _), (3, _), (4, _), (15, _), (32, _)]) ⟨rfl, rfl, rfl, rfl, rfl, trivial⟩ ?_
            refine q_then ?_
            refine wc_cond rfl (fun hb16 => ?_) (fun hb16 => ?_)
            ·
             refine wc_skip ?_
             refine q_thenK ?_
             refine ⟨[(0, _), (3, _), (4, _), (15, _), (32, _)], [], ⟨rfl, rfl, rfl, rfl, rfl, trivial⟩, trivial, (VLe.refl _), rfl, (by first | rfl | (simp only [List.cons.injEq, Prod.mk.injEq, SV.v.injEq, Value.bool.injEq, eq_self, true_and, and_true]; exact decide_eq_decide.2 (by simp only [decide_eq_true_eq, decide_eq_false_iff_not] at *; omega))), ?_⟩
             rfl
            ·
             refine wc_seq ?_
             refine wc_region ?_
             refine rl_y (y_eql rfl rfl rfl) rfl ?_
             refine ya rfl rfl ?_
             refine rl_end (ρ' := [(0, _), (3, _), (4, _), (15, _), (32, _)]) ⟨rfl, rfl, rfl, rfl, rfl, trivial⟩ ?_
             refine q_then ?_
             refine wc_cond rfl (fun hb17 => ?_) (fun hb17 => ?_)
             ·
              refine wc_skip ?_
              refine q_thenK ?_
              refine ⟨[(0, _), (3, _), (4, _), (15, _), (32, _)], [], ⟨rfl, rfl, rfl, rfl, rfl, trivial⟩, trivial, (VLe.refl _), rfl, (by first | rfl | (simp only [List.cons.injEq, Prod.mk.injEq, SV.v.injEq, Value.bool.injEq, eq_self, true_and, and_true]; exact decide_eq_decide.2 (by simp only [decide_eq_true_eq, decide_eq_false_iff_not] at *; omega))), ?_⟩
              rfl
             ·
              refine wc_region ?_
              refine rl_y (y_eql rfl rfl rfl) rfl ?_
              refine ya rfl rfl ?_
              refine rl_end (ρ' := [(0, _), (3, _), (4, _), (15, _), (32, _)]) ⟨rfl, rfl, rfl, rfl, rfl, trivial⟩ ?_
              refine q_thenK ?_
              refine ⟨[(0, _), (3, _), (4, _), (15, _), (32, _)], [], ⟨rfl, rfl, rfl, rfl, rfl, trivial⟩, trivial, (VLe.refl _), rfl, (by first | rfl | (simp only [List.cons.injEq, Prod.mk.injEq, SV.v.injEq, Value.bool.injEq, eq_self, true_and, and_true]; exact decide_eq_decide.2 (by simp only [decide_eq_true_eq, decide_eq_false_iff_not] at *; omega))), ?_⟩
              rfl
        ·
         rintro ρ σ uci19 ⟨hlci19, rfl, rfl, rfl⟩
         refine wc_cond rfl (fun hb18 => ?_) (fun hb18 => ?_)
         ·
          refine wc_region ?_
          refine ym rfl rfl ?_
          refine ym rfl rfl ?_
          refine ym rfl rfl ?_
          refine rl_y (y_index_e rfl Tryz.s35 rfl rfl (by assumption) (by first | rfl | omega) (by omega)) rfl ?_
          refine rl_y (y_field_e rfl Tryz.f42' rfl (by decide) rfl) rfl ?_
          refine rl_y (y_load_el rfl Tryz.k35 rfl (by assumption) (by omega) (by assumption) (vs := [_]) rfl rfl rfl rfl) rfl ?_
          refine rl_do rfl rfl ?_
          refine do_call_f (caps := []) trivial rfl rfl Tryz.c21 rfl (FnP.mono (ih (szI kids) (by omega) vk kids _ (Nat.le_refl _) (by omega) tx4 s5) ?_)
          rintro v u1 hle1 rfl
          refine rl_y (y_str_add rfl rfl rfl (by omega)) rfl ?_
          refine ya rfl rfl ?_
          refine rl_end (ρ' := [(0, _), (3, _), (4, _)]) ⟨rfl, rfl, rfl, trivial⟩ ?_
          refine q_block ?_
          refine q_block ?_
          refine q_thenK ?_
          first
           | (refine ⟨[(0, _), (3, _), (4, _)], [], ⟨rfl, rfl, rfl, trivial⟩, trivial, L ++ t, (VLe.refl _), (by first | rfl | simp), (by first | rfl | (simp only [List.cons.injEq, Prod.mk.injEq, SV.v.injEq, Value.int.injEq, true_and, and_true]; omega) | simp), ?_⟩
              (refine ⟨rfl, ?_⟩; simp only [decide_eq_true_eq, decide_eq_false_iff_not] at *; rw [hpt, if_pos (by omega)]))
           | (refine ⟨[(0, _), (3, _), (4, _)], [], ⟨rfl, rfl, rfl, trivial⟩, trivial, L ++ [32], (VLe.refl _), (by first | rfl | simp), (by first | rfl | (simp only [List.cons.injEq, Prod.mk.injEq, SV.v.injEq, Value.int.injEq, true_and, and_true]; omega) | simp), ?_⟩
              (refine ⟨rfl, ?_⟩; simp only [decide_eq_true_eq, decide_eq_false_iff_not] at *; rw [hpt, if_neg (by omega), if_pos (by omega)]))
           | (refine ⟨[(0, _), (3, _), (4, _)], [], ⟨rfl, rfl, rfl, trivial⟩, trivial, L ++ plain kids, (VLe.refl _), (by first | rfl | simp), (by first | rfl | (simp only [List.cons.injEq, Prod.mk.injEq, SV.v.injEq, Value.int.injEq, true_and, and_true]; omega) | simp), ?_⟩
              (refine ⟨rfl, ?_⟩; simp only [decide_eq_true_eq, decide_eq_false_iff_not] at *; rw [hpt, if_neg (by omega), if_neg (by omega), if_pos (by omega)]))
           | (refine ⟨[(0, _), (3, _), (4, _)], [], ⟨rfl, rfl, rfl, trivial⟩, trivial, L ++ d, (VLe.refl _), (by first | rfl | simp), (by first | rfl | (simp only [List.cons.injEq, Prod.mk.injEq, SV.v.injEq, Value.int.injEq, true_and, and_true]; omega) | simp), ?_⟩
              (refine ⟨rfl, ?_⟩; simp only [decide_eq_true_eq, decide_eq_false_iff_not] at *; rw [hpt, if_neg (by omega), if_neg (by omega), if_neg (by omega), if_pos (by omega)]))
           | (refine ⟨[(0, _), (3, _), (4, _)], [], ⟨rfl, rfl, rfl, trivial⟩, trivial, L, (VLe.refl _), (by first | rfl | simp), (by first | rfl | (simp only [List.cons.injEq, Prod.mk.injEq, SV.v.injEq, Value.int.injEq, true_and, and_true]; omega) | simp), ?_⟩
              (refine ⟨rfl, ?_⟩; simp only [decide_eq_true_eq, decide_eq_false_iff_not] at *; rw [hpt, if_neg (by omega), if_neg (by omega), if_neg (by omega), if_neg (by omega), List.append_nil]))
         ·
          refine wc_seq ?_
          refine wc_region ?_
          refine rl_y (y_eql rfl rfl rfl) rfl ?_
          refine ya rfl rfl ?_
          refine rl_end (ρ' := [(0, _), (3, _), (4, _), (47, _)]) ⟨rfl, rfl, rfl, rfl, trivial⟩ ?_
          refine q_then ?_
          refine wc_cond rfl (fun hb20 => ?_) (fun hb20 => ?_)
          ·
           refine wc_region ?_
           refine ym rfl rfl ?_
           refine ym rfl rfl ?_
           refine ym rfl rfl ?_
           refine rl_y (y_index_e rfl Tryz.s35 rfl rfl (by assumption) (by first | rfl | omega) (by omega)) rfl ?_
           refine rl_y (y_field_e rfl Tryz.f42' rfl (by decide) rfl) rfl ?_
           refine rl_y (y_load_el rfl Tryz.k9 rfl (by assumption) (by omega) (by assumption) (vs := [_]) rfl rfl rfl rfl) rfl ?_
           refine rl_y (y_str_add rfl rfl rfl (by omega)) rfl ?_
           refine ya rfl rfl ?_
           refine rl_end (ρ' := [(0, _), (3, _), (4, _)]) ⟨rfl, rfl, rfl, trivial⟩ ?_
           refine q_block ?_
           refine q_block ?_
           refine q_thenK ?_
           first
            | (refine ⟨[(0, _), (3, _), (4, _)], [], ⟨rfl, rfl, rfl, trivial⟩, trivial, L ++ t, (VLe.refl _), (by first | rfl | simp), (by first | rfl | (simp only [List.cons.injEq, Prod.mk.injEq, SV.v.injEq, Value.int.injEq, true_and, and_true]; omega) | simp), ?_⟩
               (refine ⟨rfl, ?_⟩; simp only [decide_eq_true_eq, decide_eq_false_iff_not] at *; rw [hpt, if_pos (by omega)]))
            | (refine ⟨[(0, _), (3, _), (4, _)], [], ⟨rfl, rfl, rfl, trivial⟩, trivial, L ++ [32], (VLe.refl _), (by first | rfl | simp), (by first | rfl | (simp only [List.cons.injEq, Prod.mk.injEq, SV.v.injEq, Value.int.injEq, true_and, and_true]; omega) | simp), ?_⟩
               (refine ⟨rfl, ?_⟩; simp only [decide_eq_true_eq, decide_eq_false_iff_not] at *; rw [hpt, if_neg (by omega), if_pos (by omega)]))
            | (refine ⟨[(0, _), (3, _), (4, _)], [], ⟨rfl, rfl, rfl, trivial⟩, trivial, L ++ plain kids, (VLe.refl _), (by first | rfl | simp), (by first | rfl | (simp only [List.cons.injEq, Prod.mk.injEq, SV.v.injEq, Value.int.injEq, true_and, and_true]; omega) | simp), ?_⟩
               (refine ⟨rfl, ?_⟩; simp only [decide_eq_true_eq, decide_eq_false_iff_not] at *; rw [hpt, if_neg (by omega), if_neg (by omega), if_pos (by omega)]))
            | (refine ⟨[(0, _), (3, _), (4, _)], [], ⟨rfl, rfl, rfl, trivial⟩, trivial, L ++ d, (VLe.refl _), (by first | rfl | simp), (by first | rfl | (simp only [List.cons.injEq, Prod.mk.injEq, SV.v.injEq, Value.int.injEq, true_and, and_true]; omega) | simp), ?_⟩
               (refine ⟨rfl, ?_⟩; simp only [decide_eq_true_eq, decide_eq_false_iff_not] at *; rw [hpt, if_neg (by omega), if_neg (by omega), if_neg (by omega), if_pos (by omega)]))
            | (refine ⟨[(0, _), (3, _), (4, _)], [], ⟨rfl, rfl, rfl, trivial⟩, trivial, L, (VLe.refl _), (by first | rfl | simp), (by first | rfl | (simp only [List.cons.injEq, Prod.mk.injEq, SV.v.injEq, Value.int.injEq, true_and, and_true]; omega) | simp), ?_⟩
               (refine ⟨rfl, ?_⟩; simp only [decide_eq_true_eq, decide_eq_false_iff_not] at *; rw [hpt, if_neg (by omega), if_neg (by omega), if_neg (by omega), if_neg (by omega), List.append_nil]))
          ·
           refine wc_skip ?_
           refine q_block ?_
           refine q_block ?_
           refine q_thenK ?_
           first
            | (refine ⟨[(0, _), (3, _), (4, _)], [], ⟨rfl, rfl, rfl, trivial⟩, trivial, L ++ t, (VLe.refl _), (by first | rfl | simp), (by first | rfl | (simp only [List.cons.injEq, Prod.mk.injEq, SV.v.injEq, Value.int.injEq, true_and, and_true]; omega) | simp), ?_⟩
               (refine ⟨rfl, ?_⟩; simp only [decide_eq_true_eq, decide_eq_false_iff_not] at *; rw [hpt, if_pos (by omega)]))
            | (refine ⟨[(0, _), (3, _), (4, _)], [], ⟨rfl, rfl, rfl, trivial⟩, trivial, L ++ [32], (VLe.refl _), (by first | rfl | simp), (by first | rfl | (simp only [List.cons.injEq, Prod.mk.injEq, SV.v.injEq, Value.int.injEq, true_and, and_true]; omega) | simp), ?_⟩
               (refine ⟨rfl, ?_⟩; simp only [decide_eq_true_eq, decide_eq_false_iff_not] at *; rw [hpt, if_neg (by omega), if_pos (by omega)]))
            | (refine ⟨[(0, _), (3, _), (4, _)], [], ⟨rfl, rfl, rfl, trivial⟩, trivial, L ++ plain kids, (VLe.refl _), (by first | rfl | simp), (by first | rfl | (simp only [List.cons.injEq, Prod.mk.injEq, SV.v.injEq, Value.int.injEq, true_and, and_true]; omega) | simp), ?_⟩
               (refine ⟨rfl, ?_⟩; simp only [decide_eq_true_eq, decide_eq_false_iff_not] at *; rw [hpt, if_neg (by omega), if_neg (by omega), if_pos (by omega)]))
            | (refine ⟨[(0, _), (3, _), (4, _)], [], ⟨rfl, rfl, rfl, trivial⟩, trivial, L ++ d, (VLe.refl _), (by first | rfl | simp), (by first | rfl | (simp only [List.cons.injEq, Prod.mk.injEq, SV.v.injEq, Value.int.injEq, true_and, and_true]; omega) | simp), ?_⟩
               (refine ⟨rfl, ?_⟩; simp only [decide_eq_true_eq, decide_eq_false_iff_not] at *; rw [hpt, if_neg (by omega), if_neg (by omega), if_neg (by omega), if_pos (by omega)]))
            | (refine ⟨[(0, _), (3, _), (4, _)], [], ⟨rfl, rfl, rfl, trivial⟩, trivial, L, (VLe.refl _), (by first | rfl | simp), (by first | rfl | (simp only [List.cons.injEq, Prod.mk.injEq, SV.v.injEq, Value.int.injEq, true_and, and_true]; omega) | simp), ?_⟩
               (refine ⟨rfl, ?_⟩; simp only [decide_eq_true_eq, decide_eq_false_iff_not] at *; rw [hpt, if_neg (by omega), if_neg (by omega), if_neg (by omega), if_neg (by omega), List.append_nil]))
   ·
    rintro ρ σ uc4 ⟨L2, hlc4, rfl, rfl, ⟨rfl, hL2⟩⟩
    refine wc_region ?_
    refine ym rfl rfl ?_
    refine rl_y (y_add rfl rfl rfl (wrap64_id (by omega))) rfl ?_
    refine ya rfl rfl ?_
    refine rl_end (ρ' := [(0, _), (3, _), (4, _)]) ⟨rfl, rfl, rfl, trivial⟩ ?_
    refine q_thenK ?_
    refine ⟨m - 1, [(0, _), (3, _), (4, _)], [], by omega, ⟨rfl, rfl, rfl, trivial⟩, trivial, i + 1, by omega, hle3, rfl, (by rw [hL2]; first | rfl | simp), ?_⟩
    rfl
  ·
   refine wc_exit ?_
   refine q_then_exit ?_
   refine q_then_exit ?_
   refine q_block_hit ?_
   refine q_then ?_
   refine wc_seq ?_
   refine wc_region ?_
   refine ym rfl rfl ?_
   refine ya rfl rfl ?_
   refine rl_end (ρ' := [(2, _)]) ⟨rfl, trivial⟩ ?_
   refine q_then ?_
   refine wc_ret ?_
   refine fin1 (.tmp rfl) ?_
   have hge := of_decide_eq_false hb3
   rw [List.take_of_length_le (by omega)]
end Go.Proofs.Ythkgcakpjknlbaa
namespace Go.Proofs
open Go.Shelf
def Tryz.lays156_ren : Go.Shelf.Ren := ⟨fun | 156 => 80 | 165 => 101 | 166 => 102 | 169 => 103 | 240 => 128 | 241 => 129 | 276 => 151 | 277 => 152 | n => n, fun | 31 => 37 | 9 => 9 | 3 => 3 | 4 => 4 | 0 => 0 | 20 => 20 | 72 => 143 | 76 => 147 | 70 => 140 | 37 => 141 | 75 => 146 | 127 => 166 | 164 => 181 | 5 => 5 | 80 => 149 | n => n, fun | n => n⟩
theorem Tryz.lays156 : Go.Proofs.Lays.n156 Tryz.prog Tryz.lays156_ren := {
 mixed := by kernel_rfl
 f156 := Tryz.func80.trans (congrArg some (by kernel_rfl))
 f165 := Tryz.func101.trans (congrArg some (by kernel_rfl))
 f166 := Tryz.func102.trans (congrArg some (by kernel_rfl))
 f169 := Tryz.func103.trans (congrArg some (by kernel_rfl))
 f240 := Tryz.func128.trans (congrArg some (by kernel_rfl))
 f241 := Tryz.func129.trans (congrArg some (by kernel_rfl))
 f276 := Tryz.func151.trans (congrArg some (by kernel_rfl))
 f277 := Tryz.func152.trans (congrArg some (by kernel_rfl))
 t0 := Tryz.underlying0
 a0 := Tryz.isAgg0
 z0 := Tryz.sizeOf0
 v0 := Tryz.zeroValue0
 t3 := Tryz.underlying3
 a3 := Tryz.isAgg3
 z3 := Tryz.sizeOf3
 v3 := Tryz.zeroValue3
 t4 := Tryz.underlying4
 a4 := Tryz.isAgg4
 z4 := Tryz.sizeOf4
 v4 := Tryz.zeroValue4
 t9 := Tryz.underlying9
 a9 := Tryz.isAgg9
 z9 := Tryz.sizeOf9
 v9 := Tryz.zeroValue9
 t20 := Tryz.underlying20
 a20 := Tryz.isAgg20
 z20 := Tryz.sizeOf20
 v20 := Tryz.zeroValue20
 t31 := Tryz.underlying37
 a31 := Tryz.isAgg37
 z31 := Tryz.sizeOf37
 v31 := Tryz.zeroValue37
 t37 := Tryz.underlying141
 a37 := Tryz.isAgg141
 z37 := Tryz.sizeOf141
 v37 := Tryz.zeroValue141
 t70 := Tryz.underlying140
 a70 := Tryz.isAgg140
 z70 := Tryz.sizeOf140
 v70 := Tryz.zeroValue140
 t72 := Tryz.underlying143
 a72 := Tryz.isAgg143
 z72 := Tryz.sizeOf143
 v72 := Tryz.zeroValue143
 t75 := Tryz.underlying146
 a75 := Tryz.isAgg146
 z75 := Tryz.sizeOf146
 v75 := Tryz.zeroValue146
 t76 := Tryz.underlying147
 a76 := Tryz.isAgg147
 z76 := Tryz.sizeOf147
 v76 := Tryz.zeroValue147
 t127 := Tryz.underlying166
 a127 := Tryz.isAgg166
 z127 := Tryz.sizeOf166
 v127 := Tryz.zeroValue166
 t164 := Tryz.underlying181
 a164 := Tryz.isAgg181
 z164 := Tryz.sizeOf181
 v164 := Tryz.zeroValue181 }
theorem Tryz.Builder_Extra_156 : Builder.Extra Tryz.prog Tryz.lays156_ren := {
 sizeBuilder := by kernel_rfl
 liesBuilder := by kernel_rfl
 t5 := Tryz.underlying5
 a5 := Tryz.isAgg5
 z5 := Tryz.sizeOf5
 v5 := Tryz.zeroValue5
 infoByte := by kernel_rfl
 cellsByte := by kernel_rfl
 sizeByte := by kernel_rfl
 neB5 := by decide }
open Go.RowKit in
theorem Tryz.strings_Join_none (a : Option Addr) (c : Nat) (sep : ByteArray) (w : World) :
  Calls Tryz.prog 80 #[.slice a 0 c, .string sep] w fun e w' => e = .returned (.string ⟨#[]⟩) ∧ w' = w := Any.strings_Join_none Tryz.lays156 Tryz.Builder_Extra_156 a c sep w
open Go.RowKit in
theorem Tryz.strings_Join (bk o c : Nat) (xs : List ByteArray) (sep : ByteArray) (w : World) (hcells : ∀ (j : Nat) x, xs[j]? = some x → w.cell? ⟨bk, o + j, none⟩ = some (.string x)) (hbk : bk < w.heap.size) (hN : xs.length ≤ 140737488355328) (hcap : xs.length ≤ c) (hlen : (Lib.join (xs.map (·.data.toList)) sep.data.toList).length ≤ 140737488355328) :
  Calls Tryz.prog 80 #[.slice (some ⟨bk, o, none⟩) xs.length c, .string sep] w fun e w' => e = .returned (.string ⟨(Lib.join (xs.map (·.data.toList)) sep.data.toList).toArray⟩) ∧ Below w.heap.size w w' := Any.strings_Join Tryz.lays156 Tryz.Builder_Extra_156 bk o c xs sep w hcells hbk hN hcap hlen
def Tryz.laysM171_ren : Go.Shelf.Ren := ⟨fun | 171 => 46 | 243 => 79 | 246 => 100 | 283 => 124 | 284 => 125 | 285 => 126 | 286 => 127 | 129 => 147 | 317 => 146 | 318 => 148 | 319 => 149 | 320 => 150 | 337 => 160 | 338 => 161 | n => n, fun | 3 => 3 | 9 => 9 | 2 => 2 | 4 => 4 | 171 => 160 | 0 => 0 | 53 => 161 | 37 => 141 | 5 => 5 | 173 => 164 | 212 => 176 | 51 => 177 | 20 => 20 | 213 => 178 | 46 => 179 | 232 => 195 | 233 => 196 | n => n, fun | 17 => 0 | 18 => 2 | 19 => 3 | n => n⟩
theorem Tryz.laysM171 : Go.Proofs.LaysM.n171 Tryz.prog Tryz.laysM171_ren := {
 mixed := by kernel_rfl
 f129 := Tryz.func147.trans (congrArg some (by kernel_rfl))
 f171 := Tryz.func46.trans (congrArg some (by kernel_rfl))
 f243 := Tryz.func79.trans (congrArg some (by kernel_rfl))
 f246 := Tryz.func100.trans (congrArg some (by kernel_rfl))
 f283 := Tryz.func124.trans (congrArg some (by kernel_rfl))
 f284 := Tryz.func125.trans (congrArg some (by kernel_rfl))
 f285 := Tryz.func126.trans (congrArg some (by kernel_rfl))
 f286 := Tryz.func127.trans (congrArg some (by kernel_rfl))
 f317 := Tryz.func146.trans (congrArg some (by kernel_rfl))
 f318 := Tryz.func148.trans (congrArg some (by kernel_rfl))
 f319 := Tryz.func149.trans (congrArg some (by kernel_rfl))
 f320 := Tryz.func150.trans (congrArg some (by kernel_rfl))
 f337 := Tryz.func160.trans (congrArg some (by kernel_rfl))
 f338 := Tryz.func161.trans (congrArg some (by kernel_rfl))
 t0 := Tryz.underlying0
 a0 := Tryz.isAgg0
 z0 := Tryz.sizeOf0
 v0 := Tryz.zeroValue0
 t2 := Tryz.underlying2
 a2 := Tryz.isAgg2
 z2 := Tryz.sizeOf2
 v2 := Tryz.zeroValue2
 t3 := Tryz.underlying3
 a3 := Tryz.isAgg3
 z3 := Tryz.sizeOf3
 v3 := Tryz.zeroValue3
 t4 := Tryz.underlying4
 a4 := Tryz.isAgg4
 z4 := Tryz.sizeOf4
 v4 := Tryz.zeroValue4
 t5 := Tryz.underlying5
 a5 := Tryz.isAgg5
 z5 := Tryz.sizeOf5
 v5 := Tryz.zeroValue5
 t9 := Tryz.underlying9
 a9 := Tryz.isAgg9
 z9 := Tryz.sizeOf9
 v9 := Tryz.zeroValue9
 t20 := Tryz.underlying20
 a20 := Tryz.isAgg20
 z20 := Tryz.sizeOf20
 v20 := Tryz.zeroValue20
 t37 := Tryz.underlying141
 a37 := Tryz.isAgg141
 z37 := Tryz.sizeOf141
 v37 := Tryz.zeroValue141
 t46 := Tryz.underlying179
 a46 := Tryz.isAgg179
 z46 := Tryz.sizeOf179
 v46 := Tryz.zeroValue179
 t51 := Tryz.underlying177
 a51 := Tryz.isAgg177
 z51 := Tryz.sizeOf177
 v51 := Tryz.zeroValue177
 t53 := Tryz.underlying161
 a53 := Tryz.isAgg161
 z53 := Tryz.sizeOf161
 v53 := Tryz.zeroValue161
 t171 := Tryz.underlying160
 a171 := Tryz.isAgg160
 z171 := Tryz.sizeOf160
 v171 := Tryz.zeroValue160
 t173 := Tryz.underlying164
 a173 := Tryz.isAgg164
 z173 := Tryz.sizeOf164
 v173 := Tryz.zeroValue164
 t212 := Tryz.underlying176
 a212 := Tryz.isAgg176
 z212 := Tryz.sizeOf176
 v212 := Tryz.zeroValue176
 t213 := Tryz.underlying178
 a213 := Tryz.isAgg178
 z213 := Tryz.sizeOf178
 t232 := Tryz.underlying195
 a232 := Tryz.isAgg195
 z232 := Tryz.sizeOf195
 v232 := Tryz.zeroValue195
 t233 := Tryz.underlying196
 a233 := Tryz.isAgg196
 z233 := Tryz.sizeOf196
 v233 := Tryz.zeroValue196
 g17 := by kernel_rfl
 g18 := by kernel_rfl
 g19 := by kernel_rfl
 i0 := by kernel_rfl
 i2 := by kernel_rfl
 i3 := by kernel_rfl
 i4 := by kernel_rfl
 i5 := by kernel_rfl
 i9 := by kernel_rfl
 i20 := by kernel_rfl
 i37 := by kernel_rfl
 i46 := by kernel_rfl
 i51 := by kernel_rfl
 i53 := by kernel_rfl
 i171 := by kernel_rfl
 i173 := by kernel_rfl
 i212 := by kernel_rfl
 i232 := by kernel_rfl
 i233 := by kernel_rfl
 m17 := by kernel_rfl
 m18 := by kernel_rfl
 m19 := by kernel_rfl }
open Go.RowKit Go.Sort Go.Lib in
theorem Tryz.strconv_Itoa (n : Int) (h0 : -9223372036854775808 ≤ n) (h1 : n ≤ 9223372036854775807) (w : World) (htab : Lib.TabIs Tryz.prog w "internal/strconv.uint64pow10" .u64 Lib.pow10Tab) :
  Calls Tryz.prog 46 #[.int .i64 n] w fun e w' => e = .returned (.string ⟨(Lib.itoa n).toArray⟩) ∧ ∃ k os, w' = grow (w.drewN k) os := Any.strconv_Itoa Tryz.laysM171 n h0 h1 w htab
end Go.Proofs
namespace Go.Proofs.Ythkgcakpjknlbaa
open Go Go.Eng
set_option linter.unusedSimpArgs false
set_option linter.unusedVariables false
set_option maxRecDepth 4000
def TabU (u : View) : Prop := ∃ T fr, u 0 = some (.cells ((Lib.pow10Tab).map (Value.int .u64)).toArray T fr)
theorem TabU.mono {u u' : View} (h : TabU u) (hu : VLe u u') : TabU u' := let ⟨T, fr, h1⟩ := h; ⟨T, fr, hu _ _ h1⟩
theorem gTab : Tryz.prog.globalNamed "internal/strconv.uint64pow10" = some 0 := by kernel_rfl
theorem tabIs_of {u : View} {w : World} (h : TabU u) (hA : Agree u w) : Lib.TabIs Tryz.prog w "internal/strconv.uint64pow10" .u64 Lib.pow10Tab := by
 obtain ⟨T, fr, h1⟩ := h
 have := hA _ _ h1
 unfold Lib.TabIs World.var?
 rw [gTab]
 simp [this]
abbrev dec (n : Nat) : Bs := Lib.decDigits n
theorem dec_small {n : Nat} (h : n < 10) : dec n = [UInt8.ofNat (48 + n)] := by unfold dec; rw [Lib.decDigits, dif_pos h]
theorem dec_big {n : Nat} (h : ¬ n < 10) : dec n = dec (n / 10) ++ [UInt8.ofNat (48 + n % 10)] := by unfold dec; rw [Lib.decDigits, dif_neg h]
theorem dec_len : ∀ n : Nat, (dec n).length ≤ n + 1 := by
 intro n
 induction n using Nat.strongRecOn with
 | _ n ih =>
  by_cases h : n < 10
  ·
   rw [dec_small h]; simp
  ·
   rw [dec_big h]
   have := ih (n / 10) (by omega)
   simp only [List.length_append, List.length_cons, List.length_nil]
   omega
theorem grow_below (w : World) (k : Nat) (os : Array Obj) : RowKit.Below w.heap.size w (Sort.grow (w.drewN k) os) := by
 refine ⟨rfl, rfl, rfl, by simp [Sort.grow, World.drewN], fun i hi => ?_⟩
 simp [Sort.grow, World.drewN, Array.getElem?_append, hi]
theorem itoa_fn (n : Nat) (hn : n ≤ 9223372036854775807) (u : View) (ht : TabU u) : FnP Tryz.prog 46 [.int .i64 n] u fun v _ => v = str (dec n) := by
 refine FnP.of_calls fun w hA => (Tryz.strconv_Itoa n (by omega) (by omega) w (tabIs_of ht hA)).mono ?_
 rintro e w' ⟨rfl, k, os, rfl⟩
 refine ⟨_, rfl, ?_, grow_below w k os⟩
 simp [Lib.itoa, str, dec]
def digs : Bs := [48, 49, 50, 51, 52, 53, 54, 55, 56, 57]
theorem digs_cut : ∀ i, i < 10 → ((digs.drop i).take (i + 1 - i)) = [UInt8.ofNat (48 + i)] := by decide
theorem y_dig {F : Fx} {ρ : Env} {σ σS : Own} {u uS : View} {o : Oper} {t : TypeId} {lo hi : Operand} {i : Nat} (ho : o.op = .slice t (.const (str digs)) (some lo) (some hi) none) (hS : F.P.underlying t = some .string)
  (hlo : opv ρ lo = some (.v (.int .i64 (i : Int)))) (hhi : opv ρ hi = some (.v (.int .i64 ((i + 1 : Nat) : Int)))) (h : i < 10) : Yld F σS uS ρ σ u o (.v (str [UInt8.ofNat (48 + i)])) := by
 have := y_slice_str (F := F) (ρ := ρ) (σS := σS) (uS := uS) (u := u) (σ := σ) (l := digs) (i := i) (j := i + 1) ho hS rfl hlo hhi (by omega) (by simp [digs]; omega)
 rwa [digs_cut i h] at this
theorem num_fn (n : Nat) : n ≤ 1000000 → ∀ u : View, FnP Tryz.prog 67 [.int .i64 n] u fun v _ => v = str (dec n) := by
 induction n using Nat.strongRecOn with
 | _ n ih =>
 intro hn u
 refine FnP.intro [.tmp 2] Tryz.func67 rfl rfl rfl ?_
 intro w0 D hw0
 refine wc_seq ?_
 refine wc_region ?_
 refine ya rfl rfl ?_
 refine rl_end (ρ' := [(0, _)]) ⟨rfl, trivial⟩ ?_
 refine q_then ?_
 refine wc_seq ?_
 refine wc_region ?_
 refine ym rfl rfl ?_
 refine rl_y (y_remE rfl rfl rfl (by omega) (by omega)) rfl ?_
 refine ym rfl rfl ?_
 refine rl_y (y_remE rfl rfl rfl (by omega) (by omega)) rfl ?_
 refine rl_y (y_add rfl rfl rfl (wrap64_id (by omega))) rfl ?_
 refine rl_y (y_dig (i := n % 10) rfl Tryz.str9 rfl rfl (by omega)) rfl ?_
 refine ya rfl rfl ?_
 refine rl_end (ρ' := [(0, _), (3, _)]) ⟨rfl, rfl, trivial⟩ ?_
 refine q_then ?_
 refine wc_seq ?_
 refine wc_seq ?_
 refine wc_region ?_
 refine ym rfl rfl ?_
 refine rl_y (y_lss rfl rfl rfl) rfl ?_
 refine rl_end (ρ' := [(0, _), (3, _), (11, _)]) ⟨rfl, rfl, rfl, trivial⟩ ?_
 refine q_then ?_
 refine wc_cond rfl (fun hb2 => ?_) (fun hb2 => ?_)
 ·
  refine wc_seq ?_
  refine wc_region ?_
  refine ym rfl rfl ?_
  refine ya rfl rfl ?_
  refine rl_end (ρ' := [(2, _)]) ⟨rfl, trivial⟩ ?_
  refine q_then ?_
  refine wc_ret ?_
  refine q_then_ret ?_
  refine fin1 (.tmp rfl) ?_
  have h := of_decide_eq_true hb2; rw [dec_small (by omega), Nat.mod_eq_of_lt (by omega)]
 ·
  refine wc_skip ?_
  refine q_then ?_
  refine wc_seq ?_
  refine wc_region ?_
  refine ym rfl rfl ?_
  refine rl_y (y_quoE rfl rfl rfl (by omega) (by omega) (by omega)) rfl ?_
  refine rl_do rfl rfl ?_
  refine do_call_f (caps := []) trivial rfl rfl Tryz.c67 rfl (FnP.mono (ih (n / 10) (by have h := of_decide_eq_false hb2; omega) (by omega) u) ?_)
  rintro v u1 hle1 rfl
  refine ym rfl rfl ?_
  refine rl_y (y_str_add rfl rfl rfl (by have := dec_len (n / 10); simp; omega)) rfl ?_
  refine ya rfl rfl ?_
  refine rl_end (ρ' := [(2, _)]) ⟨rfl, trivial⟩ ?_
  refine q_then ?_
  refine wc_ret ?_
  refine fin1 (.tmp rfl) ?_
  have h := of_decide_eq_false hb2; rw [dec_big (n := n) (by omega)]
theorem strS_of {u : View} {ad : Option Addr} {cap n : Nat} {xs : List Bs} (hn : n = xs.length) (h : SlC u ad n cap 1 (strsC xs)) : StrS u (.slice ad n cap) xs := by
 subst hn
 exact ⟨ad, cap, rfl, h⟩
theorem in_fn (v : Value) (xs : List Bs) (s : Bs) (hx : xs.length ≤ 1000000) (u : View) (ha : StrS u v xs) :
  FnP Tryz.prog 91 [v, str s] u fun r _ => r = .bool (decide (s ∈ xs)) := by
 obtain ⟨ad, cap, rfl, h1⟩ := ha
 refine FnP.intro [.tmp 4] Tryz.func91 rfl rfl rfl ?_
 intro w0 D hw0
 refine wc_seq ?_
 refine wc_region ?_
 refine ya rfl rfl ?_
 refine rl_end (ρ' := [(0, _), (1, _)]) ⟨rfl, rfl, trivial⟩ ?_
 refine q_then ?_
 refine wc_seq ?_
 refine wc_seq ?_
 refine wc_region ?_
 refine ya rfl rfl ?_
 refine rl_end (ρ' := [(0, _), (1, _), (5, _)]) ⟨rfl, rfl, rfl, trivial⟩ ?_
 refine q_then ?_
 refine wc_block ?_
 refine wc_loop (fun m ρ σ u' => ∃ i : Nat, i + m = xs.length ∧ VLe u u' ∧ σ = [] ∧ ρ = [(0, .v (.slice ad xs.length cap)), (1, .v (str s)), (5, .v (.int .i64 i))] ∧ (u = u' ∧ s ∉ xs.take i)) (xs.length) ?_ ?_
 ·
  refine ⟨[(0, _), (1, _), (5, _)], [], ⟨rfl, rfl, rfl, trivial⟩, trivial, 0, by omega, VLe.refl _, (by first | rfl | simp), (by first | rfl | (simp only [List.cons.injEq, Prod.mk.injEq, SV.v.injEq, Value.int.injEq, true_and, and_true]; omega) | simp), ?_⟩
  exact ⟨rfl, by simp⟩
 ·
  rintro m ρ σ u' ⟨i, hi2, hle2, rfl, rfl, ⟨rfl, hinv⟩⟩
  refine wc_seq ?_
  refine wc_seq ?_
  refine wc_region ?_
  refine ym rfl rfl ?_
  refine ym rfl rfl ?_
  refine rl_y (y_len_v rfl rfl Tryz.s37 rfl) rfl ?_
  refine rl_y (y_lss rfl rfl rfl) rfl ?_
  refine rl_end (ρ' := [(0, _), (1, _), (5, _), (9, _)]) ⟨rfl, rfl, rfl, rfl, trivial⟩ ?_
  refine q_then ?_
  refine wc_cond rfl (fun hb2 => ?_) (fun hb2 => ?_)
  ·
   refine wc_skip ?_
   refine q_then ?_
   refine wc_seq ?_
   refine wc_block ?_
   refine wc_seq ?_
   have hlt : i < xs.length := by have := of_decide_eq_true hb2; omega
   have hg := List.getElem?_eq_getElem hlt
   have hc := cut_strsC hg
   refine wc_region ?_
   refine ym rfl rfl ?_
   refine ym rfl rfl ?_
   refine rl_y (y_index_e rfl Tryz.s37 rfl rfl (by assumption) (by first | rfl | omega) (by omega)) rfl ?_
   refine rl_y (y_load_el rfl Tryz.k9 rfl (by assumption) (by omega) (by assumption) (vs := [_]) rfl rfl rfl rfl) rfl ?_
   refine ym rfl rfl ?_
   refine rl_y (y_str_eql rfl rfl rfl) rfl ?_
   refine rl_end (ρ' := [(0, _), (1, _), (5, _), (17, _)]) ⟨rfl, rfl, rfl, rfl, trivial⟩ ?_
   refine q_then ?_
   refine wc_cond rfl (fun hb4 => ?_) (fun hb4 => ?_)
   ·
    refine wc_seq ?_
    refine wc_region ?_
    refine ya rfl rfl ?_
    refine rl_end (ρ' := [(4, _)]) ⟨rfl, trivial⟩ ?_
    refine q_then ?_
    refine wc_ret ?_
    refine q_block_ret ?_
    refine q_then_ret ?_
    refine q_then_ret ?_
    refine q_block_ret ?_
    refine q_then_ret ?_
    refine fin1 (.tmp rfl) ?_
    have h4 := of_decide_eq_true hb4
    rw [decide_eq_true]
    rw [← h4]
    exact List.mem_of_getElem? hg
   ·
    refine wc_skip ?_
    refine q_block ?_
    refine q_then ?_
    refine wc_region ?_
    refine ym rfl rfl ?_
    refine rl_y (y_add rfl rfl rfl (wrap64_id (by omega))) rfl ?_
    refine ya rfl rfl ?_
    refine rl_end (ρ' := [(0, _), (1, _), (5, _)]) ⟨rfl, rfl, rfl, trivial⟩ ?_
    refine q_thenK ?_
    refine ⟨m - 1, [(0, _), (1, _), (5, _)], [], by omega, ⟨rfl, rfl, rfl, trivial⟩, trivial, i + 1, by omega, hle2, (by first | rfl | simp), (by first | rfl | (simp only [List.cons.injEq, Prod.mk.injEq, SV.v.injEq, Value.int.injEq, true_and, and_true]; omega) | simp), ?_⟩
    have h4 := of_decide_eq_false hb4
    refine ⟨rfl, fun hm => ?_⟩
    rcases mem_take_succ hg hm with hm | hm
    ·
     exact hinv hm
    ·
     exact h4 hm.symm
  ·
   refine wc_exit ?_
   refine q_then_exit ?_
   refine q_then_exit ?_
   refine q_block_hit ?_
   refine q_then ?_
   refine wc_seq ?_
   refine wc_region ?_
   refine ya rfl rfl ?_
   refine rl_end (ρ' := [(4, _)]) ⟨rfl, trivial⟩ ?_
   refine q_then ?_
   refine wc_ret ?_
   refine fin1 (.tmp rfl) ?_
   have hge := of_decide_eq_false hb2
   rw [List.take_of_length_le (by omega)] at hinv
   rw [decide_eq_false hinv]
def noteStep (D : List Bs) (out : List Bs) : Inl → List Bs
 | .mk k t _ _ _ _ _ _ => if k = 12 ∧ t ∈ D ∧ t ∉ out then out ++ [t] else out
def notesIn (D : List Bs) (l : List Inl) : List Bs := l.foldl (noteStep D) []
def notesOf (bs : List Blk) : List Bs := notesIn (noteNames (listB bs)) (inls (listB bs))
theorem notesIn_take (D : List Bs) {xs : List Inl} {i : Nat} {x : Inl} (h : xs[i]? = some x) : notesIn D (xs.take (i + 1)) = noteStep D (notesIn D (xs.take i)) x := by
 obtain ⟨hlt, rfl⟩ := List.getElem?_eq_some_iff.1 h
 rw [List.take_succ_eq_append_getElem hlt]
 simp only [notesIn, List.foldl_append, List.foldl_cons, List.foldl_nil]
theorem noteStep_len (D out : List Bs) (x : Inl) : (noteStep D out x).length ≤ out.length + 1 := by
 cases x
 simp only [noteStep]
 split <;> simp
theorem notesIn_len (D : List Bs) (xs : List Inl) : (notesIn D xs).length ≤ xs.length := by
 have key : ∀ (xs : List Inl) (out : List Bs), (xs.foldl (noteStep D) out).length ≤ out.length + xs.length := by
  intro xs
  induction xs with
  | nil => intro out; simp
  | cons x xs ih =>
   intro out
   have := ih (noteStep D out x)
   have := noteStep_len D out x
   simp only [List.foldl_cons, List.length_cons]
   omega
 have := key xs []
 simpa [notesIn] using this
theorem refNotes_fn (vm vb : Value) (bs : List Blk) (u : View) (hbig : szB bs ≤ 100000) (ha : BlkS u vb bs) :
  FnP Tryz.prog 66 [.agg #[vm, vb]] u fun r u' => StrS u' r (notesOf bs) := by
 have hll := listB_len bs
 have hls := szL_listB bs
 have hli := inls_len (listB bs)
 refine FnP.intro [.tmp 2] Tryz.func66 rfl rfl rfl ?_
 intro w0 D hw0
 refine wc_seq ?_
 refine wc_region ?_
 refine rl_do rfl rfl ?_
 refine do_box trivial rfl (cs := [_, _]) rfl rfl rfl rfl ?_
 refine ya rfl rfl ?_
 refine rl_end (ρ' := [(1, _)]) ⟨rfl, trivial⟩ ?_
 refine q_then ?_
 refine wc_seq ?_
 refine wc_region ?_
 refine rl_y (y_field_p rfl Tryz.f25' rfl (by decide) rfl) rfl ?_
 refine rl_y (y_load_p rfl Tryz.k23 rfl rfl rfl (vs := [_]) rfl rfl rfl) rfl ?_
 refine rl_do rfl rfl ?_
 refine do_call (caps := []) trivial rfl rfl Tryz.c38 rfl (FnP.mono (list_fn _ vb bs u (Nat.le_refl _) (by omega) ha) ?_)
 rintro v uL hle0 ⟨cs, ⟨ad, cap, rfl, h1⟩, hc1⟩ hleL
 refine ya rfl rfl ?_
 refine rl_end (ρ' := [(1, _), (3, _)]) ⟨rfl, rfl, trivial⟩ ?_
 refine q_then ?_
 refine wc_seq ?_
 refine wc_region ?_
 refine ya rfl rfl ?_
 refine rl_own_nil 4 504 9 1 rfl rfl rfl ?_
 refine rl_end (ρ' := [(1, _), (3, _), (4, _)]) ⟨rfl, rfl, rfl, trivial⟩ ?_
 refine q_then ?_
 refine wc_seq ?_
 refine wc_seq ?_
 refine wc_region ?_
 refine ya rfl rfl ?_
 refine rl_end (ρ' := [(1, _), (3, _), (4, _), (5, _)]) ⟨rfl, rfl, rfl, rfl, trivial⟩ ?_
 refine q_then ?_
 refine wc_block ?_
 refine wc_loop (fun m ρ σ u' => ∃ i : Nat, i + m = (listB bs).length ∧ VLe uL u' ∧ σ = [(1, (none, .box [vm, vb])), (504, (none, .row 9 1 (noteNames ((listB bs).take i)).length (strsC (noteNames ((listB bs).take i)))))] ∧ ρ = [(1, .p 1 0), (3, .v (.slice ad (listB bs).length cap)), (4, .s 504), (5, .v (.int .i64 i))] ∧ (uL = u')) ((listB bs).length) ?_ ?_
 ·
  refine ⟨[(1, _), (3, _), (4, _), (5, _)], [(1, _), (504, _)], ⟨rfl, rfl, rfl, rfl, trivial⟩, ⟨rfl, rfl, trivial⟩, 0, by omega, VLe.refl _, (by first | rfl | simp), (by first | rfl | (simp only [List.cons.injEq, Prod.mk.injEq, SV.v.injEq, Value.int.injEq, true_and, and_true]; omega) | simp), ?_⟩
  rfl
 ·
  rintro m ρ σ u' ⟨i, hi4, hle4, rfl, rfl, rfl⟩
  refine wc_seq ?_
  refine wc_seq ?_
  refine wc_region ?_
  refine ym rfl rfl ?_
  refine ym rfl rfl ?_
  refine rl_y (y_len_v rfl rfl Tryz.s23 rfl) rfl ?_
  refine rl_y (y_lss rfl rfl rfl) rfl ?_
  refine rl_end (ρ' := [(1, _), (3, _), (4, _), (5, _), (16, _)]) ⟨rfl, rfl, rfl, rfl, rfl, trivial⟩ ?_
  refine q_then ?_
  refine wc_cond rfl (fun hb4 => ?_) (fun hb4 => ?_)
  ·
   refine wc_skip ?_
   refine q_then ?_
   refine wc_seq ?_
   refine wc_block ?_
   refine wc_seq ?_
   have hlt : i < (listB bs).length := by have := of_decide_eq_true hb4; omega
   obtain ⟨k, lv, inf, t, d, ti, a, line, kids, vc, vp, vl, vk, hg, hcut1, s1, s2, s3, s4, hok⟩ := hc1.at hlt
   have hft : noteNames ((listB bs).take (i + 1)) = noteNames ((listB bs).take i) ++ (if k = 14 then some inf else none).toList := filterMap_take _ hg
   have hfl : (noteNames ((listB bs).take i)).length ≤ ((listB bs).take i).length := filterMap_len _ _
   have htl : ((listB bs).take i).length ≤ i := by simp; omega
   refine wc_region ?_
   refine ym rfl rfl ?_
   refine ym rfl rfl ?_
   refine rl_y (y_index_e rfl Tryz.s23 rfl rfl (by assumption) (by first | rfl | omega) (by omega)) rfl ?_
   refine rl_y (y_field_e rfl Tryz.f59' rfl (by decide) rfl) rfl ?_
   refine rl_y (y_load_el rfl Tryz.k3 rfl (by assumption) (by omega) (by assumption) (vs := [_]) rfl rfl rfl rfl) rfl ?_
   refine rl_y (y_eql rfl rfl rfl) rfl ?_
   refine rl_end (ρ' := [(1, _), (3, _), (4, _), (5, _), (24, _)]) ⟨rfl, rfl, rfl, rfl, rfl, trivial⟩ ?_
   refine q_then ?_
   refine wc_cond rfl (fun hb6 => ?_) (fun hb6 => ?_)
   ·
    have h5 := of_decide_eq_true hb6; rw [if_pos h5] at hft
    refine wc_region ?_
    refine ym rfl rfl ?_
    refine ym rfl rfl ?_
    refine ym rfl rfl ?_
    refine rl_y (y_index_e rfl Tryz.s23 rfl rfl (by assumption) (by first | rfl | omega) (by omega)) rfl ?_
    refine rl_y (y_field_e rfl Tryz.f59' rfl (by decide) rfl) rfl ?_
    refine rl_y (y_load_el rfl Tryz.k9 rfl (by assumption) (by omega) (by assumption) (vs := [_]) rfl rfl rfl rfl) rfl ?_
    refine rl_do rfl rfl ?_
    refine do_buildSlice trivial Tryz.s37 Tryz.z9 (ps := [(_, _)]) rfl (xs := [_]) rfl rfl rfl rfl rfl rfl rfl ?_
    refine rl_do rfl rfl ?_
    refine do_append_s trivial rfl rfl Tryz.s37 Tryz.z9 rfl rfl rfl rfl rfl rfl (by first | rfl | assumption | simp [Value.oneCell', str]) (by omega) (by omega) (ρ' := [(1, _), (3, _), (5, _)]) ⟨rfl, rfl, rfl, trivial⟩ rfl rfl rfl ?_
    refine ya rfl rfl ?_
    refine rl_ren 32 504 rfl rfl rfl ?_
    refine rl_end (ρ' := [(1, _), (3, _), (4, _), (5, _)]) ⟨rfl, rfl, rfl, rfl, trivial⟩ ?_
    refine q_block ?_
    refine q_then ?_
    refine wc_region ?_
    refine ym rfl rfl ?_
    refine rl_y (y_add rfl rfl rfl (wrap64_id (by omega))) rfl ?_
    refine ya rfl rfl ?_
    refine rl_end (ρ' := [(1, _), (3, _), (4, _), (5, _)]) ⟨rfl, rfl, rfl, rfl, trivial⟩ ?_
    refine q_thenK ?_
    refine ⟨m - 1, [(1, _), (3, _), (4, _), (5, _)], [(1, _), (504, _)], by omega, ⟨rfl, rfl, rfl, rfl, trivial⟩, ⟨rfl, rfl, trivial⟩, i + 1, by omega, hle4, (by simp only [hft]; try simp [strsC]), (by first | rfl | simp), ?_⟩
    rfl
   ·
    have h5 := of_decide_eq_false hb6; rw [if_neg h5] at hft
    refine wc_skip ?_
    refine q_block ?_
    refine q_then ?_
    refine wc_region ?_
    refine ym rfl rfl ?_
    refine rl_y (y_add rfl rfl rfl (wrap64_id (by omega))) rfl ?_
    refine ya rfl rfl ?_
    refine rl_end (ρ' := [(1, _), (3, _), (4, _), (5, _)]) ⟨rfl, rfl, rfl, rfl, trivial⟩ ?_
    refine q_thenK ?_
    refine ⟨m - 1, [(1, _), (3, _), (4, _), (5, _)], [(1, _), (504, _)], by omega, ⟨rfl, rfl, rfl, rfl, trivial⟩, ⟨rfl, rfl, trivial⟩, i + 1, by omega, hle4, (by simp only [hft]; try simp [strsC]), (by first | rfl | simp), ?_⟩
    rfl
  ·
   refine wc_exit ?_
   refine q_then_exit ?_
   refine q_then_exit ?_
   refine q_block_hit ?_
   refine q_then ?_
   refine wc_seq ?_
   have hge := of_decide_eq_false hb4
   rw [List.take_of_length_le (by omega)]
   refine wc_region ?_
   refine rl_y (y_field_p rfl Tryz.f25' rfl (by decide) rfl) rfl ?_
   refine rl_y (y_load_p rfl Tryz.k23 rfl rfl rfl (vs := [_]) rfl rfl rfl) rfl ?_
   refine rl_do rfl rfl ?_
   refine do_call (caps := []) trivial rfl rfl Tryz.c13 rfl (FnP.mono (inlines_fn vb bs uL (by omega) (ha.mono hleL)) ?_)
   rintro v uI hle0 ⟨is, ⟨adi, capi, rfl, hi1⟩, hic⟩ hleI
   refine ya rfl rfl ?_
   refine rl_freeze 504 rfl ?_
   intro ad504 cap504 u504 hle504z hsl504
   have hD : StrS u504 (.slice ad504 (noteNames (listB bs)).length cap504) (noteNames (listB bs)) := strS_of rfl hsl504
   have hi1 := hi1.mono hle504z
   have hic := hic.mono hle504z
   have hDl : (noteNames (listB bs)).length ≤ (listB bs).length := filterMap_len _ _
   refine rl_end (ρ' := [(4, _), (6, _)]) ⟨rfl, rfl, trivial⟩ ?_
   refine q_then ?_
   refine wc_seq ?_
   refine wc_region ?_
   refine ya rfl rfl ?_
   refine rl_own_nil 7 507 9 1 rfl rfl rfl ?_
   refine rl_end (ρ' := [(4, _), (6, _), (7, _)]) ⟨rfl, rfl, rfl, trivial⟩ ?_
   refine q_then ?_
   refine wc_seq ?_
   refine wc_seq ?_
   refine wc_region ?_
   refine ya rfl rfl ?_
   refine rl_end (ρ' := [(4, _), (6, _), (7, _), (8, _)]) ⟨rfl, rfl, rfl, rfl, trivial⟩ ?_
   refine q_then ?_
   refine wc_block ?_
   refine wc_loop (fun m ρ σ u' => ∃ i : Nat, i + m = (inls (listB bs)).length ∧ VLe u504 u' ∧ σ = [(507, (none, .row 9 1 (notesIn (noteNames (listB bs)) ((inls (listB bs)).take i)).length (strsC (notesIn (noteNames (listB bs)) ((inls (listB bs)).take i)))))] ∧ ρ = [(4, .v (.slice ad504 (noteNames (listB bs)).length cap504)), (6, .v (.slice adi (inls (listB bs)).length capi)), (7, .s 507), (8, .v (.int .i64 i))] ∧ (u504 = u')) ((inls (listB bs)).length) ?_ ?_
   ·
    refine ⟨[(4, _), (6, _), (7, _), (8, _)], [(507, _)], ⟨rfl, rfl, rfl, rfl, trivial⟩, ⟨rfl, trivial⟩, 0, by omega, VLe.refl _, (by first | rfl | simp), (by first | rfl | (simp only [List.cons.injEq, Prod.mk.injEq, SV.v.injEq, Value.int.injEq, true_and, and_true]; omega) | simp), ?_⟩
    rfl
   ·
    rintro m ρ σ u' ⟨i, hi11, hle11, rfl, rfl, rfl⟩
    refine wc_seq ?_
    refine wc_seq ?_
    refine wc_region ?_
    refine ym rfl rfl ?_
    refine ym rfl rfl ?_
    refine rl_y (y_len_v rfl rfl Tryz.s35 rfl) rfl ?_
    refine rl_y (y_lss rfl rfl rfl) rfl ?_
    refine rl_end (ρ' := [(4, _), (6, _), (7, _), (8, _), (39, _)]) ⟨rfl, rfl, rfl, rfl, rfl, trivial⟩ ?_
    refine q_then ?_
    refine wc_cond rfl (fun hb11 => ?_) (fun hb11 => ?_)
    ·
     refine wc_skip ?_
     refine q_then ?_
     refine wc_seq ?_
     refine wc_block ?_
     refine wc_seq ?_
     have hlt : i < (inls (listB bs)).length := by have := of_decide_eq_true hb11; omega
     obtain ⟨k, t, d, ti, a, args, cites, kids, vc, vp, va, vt, vk, hg, hcut1, s1, s2, s3, s4, s5, hok⟩ := hic.at hlt
     have oneAll := (hic.get i _ hg).one
     rw [hcut1] at oneAll
     have hst := notesIn_take (noteNames (listB bs)) hg
     have hnl := notesIn_len (noteNames (listB bs)) ((inls (listB bs)).take i)
     have htl : ((inls (listB bs)).take i).length ≤ i := by simp; omega
     have hO : noteStep (noteNames (listB bs)) (notesIn (noteNames (listB bs)) ((inls (listB bs)).take i)) (.mk k t d ti a args cites kids) = if k = 12 ∧ t ∈ noteNames (listB bs) ∧ t ∉ notesIn (noteNames (listB bs)) ((inls (listB bs)).take i) then notesIn (noteNames (listB bs)) ((inls (listB bs)).take i) ++ [t] else notesIn (noteNames (listB bs)) ((inls (listB bs)).take i) := rfl
     rw [hO] at hst
     refine wc_region ?_
     refine ym rfl rfl ?_
     refine ym rfl rfl ?_
     refine rl_y (y_index_e rfl Tryz.s35 rfl rfl (by assumption) (by first | rfl | omega) (by omega)) rfl ?_
     refine rl_y (y_load_el rfl Tryz.k42 rfl (by assumption) (by omega) (by assumption) (vs := [_, _, _, _, _, _, _, _, _, _]) rfl rfl rfl rfl) rfl ?_
     refine rl_do rfl rfl ?_
     refine do_alloc trivial Tryz.z42 rfl rfl rfl ?_
     refine rl_do rfl rfl ?_
     refine do_store_p trivial rfl Tryz.k42 rfl rfl rfl (vs := [_, _, _, _, _, _, _, _, _, _]) rfl rfl (by first | rfl | assumption | simp [Value.oneCell', str]) (Nat.le_of_ble_eq_true rfl) rfl ?_
     refine rl_end (ρ' := [(4, _), (6, _), (7, _), (8, _), (9, _)]) ⟨rfl, rfl, rfl, rfl, rfl, trivial⟩ ?_
     refine q_then ?_
     refine wc_seq ?_
     refine wc_cutB 61 (decide (k = 12 ∧ t ∈ noteNames (listB bs) ∧ t ∉ notesIn (noteNames (listB bs)) ((inls (listB bs)).take i))) (ρk := [(4, _), (6, _), (7, _), (8, _), (9, _)]) ⟨rfl, rfl, rfl, rfl, rfl, trivial⟩ ?_ ?_
     ·
      refine wc_region ?_
      refine rl_y (y_field_p rfl Tryz.f42' rfl (by decide) rfl) rfl ?_
      refine rl_y (y_load_p rfl Tryz.k3 rfl rfl rfl (vs := [_]) rfl rfl rfl) rfl ?_
      refine rl_y (y_eql rfl rfl rfl) rfl ?_
      refine ym rfl rfl ?_
      rcases Bool.eq_false_or_eq_true (decide (k = 12)) with hg14_3 | hg14_3
      ·
       simp only [hg14_3]
       refine rl_on rfl rfl ?_
       refine ym rfl rfl ?_
       refine rl_on rfl rfl ?_
       refine rl_y (y_field_p rfl Tryz.f42' rfl (by decide) rfl) rfl ?_
       refine rl_on rfl rfl ?_
       refine rl_y (y_load_p rfl Tryz.k9 rfl rfl rfl (vs := [_]) rfl rfl rfl) rfl ?_
       refine rl_on rfl rfl ?_
       refine rl_do rfl rfl ?_
       refine do_call_f (caps := []) trivial rfl rfl Tryz.c91 rfl (FnP.mono (in_fn _ _ t (by omega) u504 hD) ?_)
       rintro v u1 hle1 rfl
       refine rl_y (y_pick_t rfl rfl rfl) rfl ?_
       refine ym rfl rfl ?_
       rcases Bool.eq_false_or_eq_true (decide (t ∈ noteNames (listB bs))) with hg14_9 | hg14_9
       ·
        simp only [hg14_9]
        refine rl_on rfl rfl ?_
        refine ym rfl rfl ?_
        refine rl_on rfl rfl ?_
        refine rl_y (y_field_p rfl Tryz.f42' rfl (by decide) rfl) rfl ?_
        refine rl_on rfl rfl ?_
        refine rl_y (y_load_p rfl Tryz.k9 rfl rfl rfl (vs := [_]) rfl rfl rfl) rfl ?_
        refine rl_on rfl rfl ?_
        refine rl_do rfl rfl ?_
        refine do_call_b (caps := []) 507 trivial rfl rfl Tryz.c91 rfl ?_
        intro adb capb ub hleb hslb
        refine ⟨_, rfl, FnP.mono (in_fn _ _ t (by omega) ub (strS_of rfl hslb)) ?_⟩
        rintro v u1 hle1 rfl
        refine rl_on rfl rfl ?_
        refine rl_y (y_not rfl rfl) rfl ?_
        refine rl_y (y_pick_t rfl rfl rfl) rfl ?_
        exact cutB_end rfl ⟨rfl, rfl, rfl, rfl, rfl, trivial⟩ (by simp_all)
       ·
        simp only [hg14_9]
        refine rl_off rfl rfl rfl rfl ?_
        refine rl_off rfl rfl rfl rfl ?_
        refine rl_off rfl rfl rfl rfl ?_
        refine rl_off rfl rfl rfl rfl ?_
        refine rl_off rfl rfl rfl rfl ?_
        refine rl_y (y_pick_f rfl rfl rfl) rfl ?_
        exact cutB_end rfl ⟨rfl, rfl, rfl, rfl, rfl, trivial⟩ (by simp_all)
      ·
       simp only [hg14_3]
       refine rl_off rfl rfl rfl rfl ?_
       refine rl_off rfl rfl rfl rfl ?_
       refine rl_off rfl rfl rfl rfl ?_
       refine rl_off rfl rfl rfl rfl ?_
       refine rl_y (y_pick_f rfl rfl rfl) rfl ?_
       refine ym rfl rfl ?_
       refine rl_off rfl rfl rfl rfl ?_
       refine rl_off rfl rfl rfl rfl ?_
       refine rl_off rfl rfl rfl rfl ?_
       refine rl_off rfl rfl rfl rfl ?_
       refine rl_off rfl rfl rfl rfl ?_
       refine rl_y (y_pick_f rfl rfl rfl) rfl ?_
       exact cutB_end rfl ⟨rfl, rfl, rfl, rfl, rfl, trivial⟩ (by simp_all)
     refine q_then ?_
     refine wc_cond rfl (fun hb14 => ?_) (fun hb14 => ?_)
     ·
      have h5 := of_decide_eq_true hb14; rw [if_pos h5] at hst
      refine wc_region ?_
      refine ym rfl rfl ?_
      refine rl_y (y_field_p rfl Tryz.f42' rfl (by decide) rfl) rfl ?_
      refine rl_y (y_load_p rfl Tryz.k9 rfl rfl rfl (vs := [_]) rfl rfl rfl) rfl ?_
      refine rl_do rfl rfl ?_
      refine do_buildSlice trivial Tryz.s37 Tryz.z9 (ps := [(_, _)]) rfl (xs := [_]) rfl rfl rfl rfl rfl rfl rfl ?_
      refine rl_do rfl rfl ?_
      refine do_append_s trivial rfl rfl Tryz.s37 Tryz.z9 rfl rfl rfl rfl rfl rfl (by first | rfl | assumption | simp [Value.oneCell', str]) (by omega) (by omega) (ρ' := [(4, _), (6, _), (8, _)]) ⟨rfl, rfl, rfl, trivial⟩ rfl rfl rfl ?_
      refine ya rfl rfl ?_
      refine rl_ren 66 507 rfl rfl rfl ?_
      refine rl_end (ρ' := [(4, _), (6, _), (7, _), (8, _)]) ⟨rfl, rfl, rfl, rfl, trivial⟩ ?_
      refine q_block ?_
      refine q_then ?_
      refine wc_region ?_
      refine ym rfl rfl ?_
      refine rl_y (y_add rfl rfl rfl (wrap64_id (by omega))) rfl ?_
      refine ya rfl rfl ?_
      refine rl_end (ρ' := [(4, _), (6, _), (7, _), (8, _)]) ⟨rfl, rfl, rfl, rfl, trivial⟩ ?_
      refine q_thenK ?_
      refine ⟨m - 1, [(4, _), (6, _), (7, _), (8, _)], [(507, _)], by omega, ⟨rfl, rfl, rfl, rfl, trivial⟩, ⟨rfl, trivial⟩, i + 1, by omega, hle11, (by simp only [hst]; try simp [strsC]), (by first | rfl | simp), ?_⟩
      rfl
     ·
      have h5 := of_decide_eq_false hb14; rw [if_neg h5] at hst
      refine wc_skip ?_
      refine q_block ?_
      refine q_then ?_
      refine wc_region ?_
      refine ym rfl rfl ?_
      refine rl_y (y_add rfl rfl rfl (wrap64_id (by omega))) rfl ?_
      refine ya rfl rfl ?_
      refine rl_end (ρ' := [(4, _), (6, _), (7, _), (8, _)]) ⟨rfl, rfl, rfl, rfl, trivial⟩ ?_
      refine q_thenK ?_
      refine ⟨m - 1, [(4, _), (6, _), (7, _), (8, _)], [(507, _)], by omega, ⟨rfl, rfl, rfl, rfl, trivial⟩, ⟨rfl, trivial⟩, i + 1, by omega, hle11, (by simp only [hst]; try simp [strsC]), (by first | rfl | simp), ?_⟩
      rfl
    ·
     refine wc_exit ?_
     refine q_then_exit ?_
     refine q_then_exit ?_
     refine q_block_hit ?_
     refine q_then ?_
     refine wc_seq ?_
     refine wc_region ?_
     refine ym rfl rfl ?_
     refine ya rfl rfl ?_
     refine rl_freeze 507 rfl ?_
     intro ad507 cap507 u507 hle507z hsl507
     refine rl_end (ρ' := [(2, _)]) ⟨rfl, trivial⟩ ?_
     refine q_then ?_
     refine wc_ret ?_
     refine fin1 (.tmp rfl) ?_
     have hge := of_decide_eq_false hb11
     rw [List.take_of_length_le (by omega)] at hsl507 ⊢
     exact strS_of rfl hsl507
def aft : List Nat → List Nat → Bool
 | [], _ => false
 | _ :: _, [] => true
 | x :: xs, y :: ys => if x = y then aft xs ys else decide (y < x)
def run : Bs → Nat → Nat → List Nat → List Nat
 | [], n, dg, out => if dg = 0 ∨ 6 < dg then [] else out ++ [n]
 | c :: s, n, dg, out =>
  if c.toNat = 46 then (if dg = 0 ∨ 6 < dg then [] else run s 0 0 (out ++ [n]))
  else if c.toNat < 48 ∨ 57 < c.toNat then []
  else if 6 < dg + 1 then [] else run s (10 * n + (c.toNat - 48)) (dg + 1) out
def attr0 : DAttr := ⟨[], [], []⟩
theorem attrOk0 : AttrOk attr0 := ⟨by decide, ⟨by decide, by simp [attr0]⟩, ⟨by decide, by simp [attr0]⟩⟩
theorem nilSl (u : View) (sz : Nat) : IsSl u (.slice none 0 0) 0 sz [] := ⟨none, 0, rfl, by simp, by decide, by decide, by simp⟩
theorem nilStr (u : View) : StrS u (.slice none 0 0) [] := nilSl u 1
theorem nilPr (u : View) : PrS u (.slice none 0 0) [] := nilSl u 2
theorem nilCi (u : View) : CiS u (.slice none 0 0) [] := nilSl u 4
theorem nilInl (u : View) : InlS u (.slice none 0 0) [] := ⟨[], nilSl u 10, InlsC.nil⟩
theorem nilBlk (u : View) : BlkS u (.slice none 0 0) [] := ⟨[], nilSl u 11, BlksC.nil⟩
theorem intOk_of {k : Int} (h : -1000 ≤ k ∧ k ≤ 1000) : IntOk k := by unfold IntOk; omega
theorem dec_len10 (k : Nat) : ∀ n, n < 10 ^ (k + 1) → (dec n).length ≤ k + 1 := by
 induction k with
 | zero => intro n h; rw [dec_small (by simpa using h)]; simp
 | succ k ih =>
  intro n h
  by_cases h9 : n < 10
  ·
   rw [dec_small h9]; simp
  ·
   rw [dec_big h9]
   have := ih (n / 10) (by rw [Nat.pow_succ] at h; omega)
   simp only [List.length_append, List.length_cons, List.length_nil]; omega
def dots (cs : List Nat) : Bs := Lib.join (cs.map dec) [46]
theorem dots_nil : dots [] = [] := rfl
theorem dots_one (x : Nat) : dots [x] = dec x := by simp [dots, Lib.join, List.intercalate, List.intersperse]
theorem dots_cons (x y : Nat) (cs : List Nat) : dots (x :: y :: cs) = dec x ++ [46] ++ dots (y :: cs) := by simp [dots, Lib.join, List.intercalate, List.intersperse]
theorem dots_snoc : ∀ (cs : List Nat) (x : Nat), cs ≠ [] → dots (cs ++ [x]) = dots cs ++ [46] ++ dec x
 | [], x, h => absurd rfl h
 | [y], x, _ => by rw [List.cons_append, List.nil_append, dots_cons, dots_one, dots_one]
 | y :: z :: cs, x, _ => by
  have ih := dots_snoc (z :: cs) x (by simp)
  rw [List.cons_append] at ih
  rw [List.cons_append, List.cons_append, dots_cons, dots_cons, ih]
  simp
theorem dots_len : ∀ (cs : List Nat) (k : Nat), (∀ c ∈ cs, (dec c).length ≤ k) → (dots cs).length ≤ cs.length * (k + 1)
 | [], k, _ => by simp [dots_nil]
 | [x], k, h => by have := h x (by simp); rw [dots_one]; simp; omega
 | x :: y :: cs, k, h => by
  have := h x (by simp)
  have := dots_len (y :: cs) k (fun c hc => h c (by simp [hc]))
  rw [dots_cons]
  simp only [List.length_append, List.length_cons, List.length_nil] at this ⊢
  rw [Nat.add_mul _ 1, Nat.one_mul]; omega
theorem join_fn (v : Value) (xs : List Bs) (sep : Bs) (u : View) (hx : StrS u v xs) (hn : xs.length ≤ 1000000) (hl : (Lib.join xs sep).length ≤ 1000000) :
  FnP Tryz.prog 80 [v, str sep] u fun r _ => r = str (Lib.join xs sep) := by
 obtain ⟨ad, cap, rfl, h1⟩ := hx
 refine FnP.of_calls fun w hA => ?_
 have hlen := h1.1
 by_cases h0 : xs.length = 0
 ·
  obtain rfl := List.eq_nil_of_length_eq_zero h0
  refine (Tryz.strings_Join_none ad cap ⟨sep.toArray⟩ w).mono ?_
  rintro e w' ⟨rfl, rfl⟩
  exact ⟨_, rfl, rfl, RowKit.Below.refl _ _⟩
 ·
  obtain ⟨b, off, c, T, fr, rfl, hub, hcut⟩ := h1.2.2.2 h0
  have hb := hA _ _ hub
  have e1 : (xs.map fun x : Bs => (⟨x.toArray⟩ : ByteArray)).map (·.data.toList) = xs := by simp [Function.comp_def]
  have := Tryz.strings_Join b off cap (xs.map fun x : Bs => (⟨x.toArray⟩ : ByteArray)) ⟨sep.toArray⟩ w ?_ ?_ (by simp; omega) (by simpa using h1.2.1) (by rw [e1]; simpa using (by omega : (Lib.join xs sep).length ≤ 140737488355328))
  ·
   rw [List.length_map, e1] at this
   refine this.mono ?_
   rintro e w' ⟨rfl, hbel⟩
   exact ⟨_, rfl, rfl, hbel⟩
  ·
   intro j x hj
   have hj2 : (cut c.toList off (xs.length * 1))[j]? = some (Value.string x) := by
    rw [hcut]
    simp only [List.getElem?_map, Option.map_eq_some_iff] at hj
    obtain ⟨y, hy, rfl⟩ := hj
    simp [strsC, hy, str]
   have hlt : j < xs.length * 1 := by
    have := (List.getElem?_eq_some_iff.1 hj).1
    simpa using this
   have := getElem?_cut rfl hj2
   simp only [World.cell?, hb]
   simpa using this
  ·
   exact (Array.getElem?_eq_some_iff.1 hb).1
abbrev figS : Bs := [102, 105, 103, 117, 114, 101]
abbrev tabS : Bs := [116, 97, 98, 108, 101]
abbrev equS : Bs := [101, 113, 117, 97, 116, 105, 111, 110]
abbrev secS : Bs := [115, 101, 99, 116, 105, 111, 110]
abbrev notS : Bs := [110, 111, 116, 101]
def kindN (k : Int) (inf id : Bs) : Nat := if k = 13 ∧ inf = figS then 1 else if k = 13 ∧ inf = tabS then 2 else if k = 4 ∧ id ≠ [] then 3 else 0
theorem kind_fn (k lv : Int) (inf t d ti id : Bs) (vc vp vl vk : Value) (u : View) : FnP Tryz.prog 89 [.agg (blkV k lv inf t d ti id vc vp vl vk).toArray] u fun r _ => r = .int .i64 (kindN k inf id : Nat) := by
 refine FnP.intro [.tmp 2] Tryz.func89 rfl rfl rfl ?_
 intro w0 D hw0
 refine wc_seq ?_
 refine wc_region ?_
 refine rl_do rfl rfl ?_
 refine do_box trivial rfl (cs := [_, _, _, _, _, _, _, _, _, _, _]) rfl rfl rfl rfl ?_
 refine ya rfl rfl ?_
 refine rl_end (ρ' := [(1, _)]) ⟨rfl, trivial⟩ ?_
 refine q_then ?_
 refine wc_seq ?_
 refine wc_seq ?_
 refine wc_cutB 10 (decide (k = 13 ∧ inf = figS)) (ρk := [(1, _)]) ⟨rfl, trivial⟩ ?_ ?_
 ·
  refine wc_region ?_
  refine rl_y (y_field_p rfl Tryz.f59' rfl (by decide) rfl) rfl ?_
  refine rl_y (y_load_p rfl Tryz.k3 rfl rfl rfl (vs := [_]) rfl rfl rfl) rfl ?_
  refine rl_y (y_eql rfl rfl rfl) rfl ?_
  refine ym rfl rfl ?_
  rcases Bool.eq_false_or_eq_true (decide (k = 13)) with hg1_3 | hg1_3
  ·
   simp only [hg1_3]
   refine rl_on rfl rfl ?_
   refine rl_y (y_field_p rfl Tryz.f59' rfl (by decide) rfl) rfl ?_
   refine rl_on rfl rfl ?_
   refine rl_y (y_load_p rfl Tryz.k9 rfl rfl rfl (vs := [_]) rfl rfl rfl) rfl ?_
   refine rl_on rfl rfl ?_
   refine rl_y (y_str_eql rfl rfl rfl) rfl ?_
   refine rl_y (y_pick_t rfl rfl rfl) rfl ?_
   exact cutB_end rfl ⟨rfl, trivial⟩ (by simp_all)
  ·
   simp only [hg1_3]
   refine rl_off rfl rfl rfl rfl ?_
   refine rl_off rfl rfl rfl rfl ?_
   refine rl_off rfl rfl rfl rfl ?_
   refine rl_y (y_pick_f rfl rfl rfl) rfl ?_
   exact cutB_end rfl ⟨rfl, trivial⟩ (by simp_all)
 refine q_then ?_
 refine wc_cond rfl (fun hb1 => ?_) (fun hb1 => ?_)
 ·
  refine wc_seq ?_
  refine wc_region ?_
  refine ya rfl rfl ?_
  refine rl_end (ρ' := [(2, _)]) ⟨rfl, trivial⟩ ?_
  refine q_then ?_
  refine wc_ret ?_
  refine q_then_ret ?_
  refine fin1 (.tmp rfl) ?_
  rw [kindN, if_pos (of_decide_eq_true hb1)]; rfl
 ·
  refine wc_skip ?_
  refine q_then ?_
  refine wc_seq ?_
  refine wc_seq ?_
  refine wc_cutB 18 (decide (k = 13 ∧ inf = tabS)) (ρk := [(1, _)]) ⟨rfl, trivial⟩ ?_ ?_
  ·
   refine wc_region ?_
   refine rl_y (y_field_p rfl Tryz.f59' rfl (by decide) rfl) rfl ?_
   refine rl_y (y_load_p rfl Tryz.k3 rfl rfl rfl (vs := [_]) rfl rfl rfl) rfl ?_
   refine rl_y (y_eql rfl rfl rfl) rfl ?_
   refine ym rfl rfl ?_
   rcases Bool.eq_false_or_eq_true (decide (k = 13)) with hg3_3 | hg3_3
   ·
    simp only [hg3_3]
    refine rl_on rfl rfl ?_
    refine rl_y (y_field_p rfl Tryz.f59' rfl (by decide) rfl) rfl ?_
    refine rl_on rfl rfl ?_
    refine rl_y (y_load_p rfl Tryz.k9 rfl rfl rfl (vs := [_]) rfl rfl rfl) rfl ?_
    refine rl_on rfl rfl ?_
    refine rl_y (y_str_eql rfl rfl rfl) rfl ?_
    refine rl_y (y_pick_t rfl rfl rfl) rfl ?_
    exact cutB_end rfl ⟨rfl, trivial⟩ (by simp_all)
   ·
    simp only [hg3_3]
    refine rl_off rfl rfl rfl rfl ?_
    refine rl_off rfl rfl rfl rfl ?_
    refine rl_off rfl rfl rfl rfl ?_
    refine rl_y (y_pick_f rfl rfl rfl) rfl ?_
    exact cutB_end rfl ⟨rfl, trivial⟩ (by simp_all)
  refine q_then ?_
  refine wc_cond rfl (fun hb3 => ?_) (fun hb3 => ?_)
  ·
   refine wc_seq ?_
   refine wc_region ?_
   refine ya rfl rfl ?_
   refine rl_end (ρ' := [(2, _)]) ⟨rfl, trivial⟩ ?_
   refine q_then ?_
   refine wc_ret ?_
   refine q_then_ret ?_
   refine fin1 (.tmp rfl) ?_
   rw [kindN, if_neg (of_decide_eq_false hb1), if_pos (of_decide_eq_true hb3)]; rfl
  ·
   refine wc_skip ?_
   refine q_then ?_
   refine wc_seq ?_
   refine wc_seq ?_
   refine wc_cutB 27 (decide (k = 4 ∧ id ≠ [])) (ρk := []) trivial ?_ ?_
   ·
    refine wc_region ?_
    refine rl_y (y_field_p rfl Tryz.f59' rfl (by decide) rfl) rfl ?_
    refine rl_y (y_load_p rfl Tryz.k3 rfl rfl rfl (vs := [_]) rfl rfl rfl) rfl ?_
    refine rl_y (y_eql rfl rfl rfl) rfl ?_
    refine ym rfl rfl ?_
    rcases Bool.eq_false_or_eq_true (decide (k = 4)) with hg5_3 | hg5_3
    ·
     simp only [hg5_3]
     refine rl_on rfl rfl ?_
     refine rl_y (y_field_p rfl Tryz.f59' rfl (by decide) rfl) rfl ?_
     refine rl_on rfl rfl ?_
     refine rl_y (y_field_p rfl Tryz.f39' rfl (by decide) rfl) rfl ?_
     refine rl_on rfl rfl ?_
     refine rl_y (y_load_p rfl Tryz.k9 rfl rfl rfl (vs := [_]) rfl rfl rfl) rfl ?_
     refine rl_on rfl rfl ?_
     refine rl_y (y_str_neq rfl rfl rfl) rfl ?_
     refine rl_y (y_pick_t rfl rfl rfl) rfl ?_
     exact cutB_end rfl trivial (by simp_all)
    ·
     simp only [hg5_3]
     refine rl_off rfl rfl rfl rfl ?_
     refine rl_off rfl rfl rfl rfl ?_
     refine rl_off rfl rfl rfl rfl ?_
     refine rl_off rfl rfl rfl rfl ?_
     refine rl_y (y_pick_f rfl rfl rfl) rfl ?_
     exact cutB_end rfl trivial (by simp_all)
   refine q_then ?_
   refine wc_cond rfl (fun hb5 => ?_) (fun hb5 => ?_)
   ·
    refine wc_seq ?_
    refine wc_region ?_
    refine ya rfl rfl ?_
    refine rl_end (ρ' := [(2, _)]) ⟨rfl, trivial⟩ ?_
    refine q_then ?_
    refine wc_ret ?_
    refine q_then_ret ?_
    refine fin1 (.tmp rfl) ?_
    rw [kindN, if_neg (of_decide_eq_false hb1), if_neg (of_decide_eq_false hb3), if_pos (of_decide_eq_true hb5)]; rfl
   ·
    refine wc_skip ?_
    refine q_then ?_
    refine wc_seq ?_
    refine wc_region ?_
    refine ya rfl rfl ?_
    refine rl_end (ρ' := [(2, _)]) ⟨rfl, trivial⟩ ?_
    refine q_then ?_
    refine wc_ret ?_
    refine fin1 (.tmp rfl) ?_
    rw [kindN, if_neg (of_decide_eq_false hb1), if_neg (of_decide_eq_false hb3), if_neg (of_decide_eq_false hb5)]; rfl
def firstPara : List Blk → List Inl
 | [] => []
 | .mk k _ _ _ _ _ _ line _ :: bs => if k = 1 then line else firstPara bs
def capOf (bs : List Blk) : List Inl := firstPara (bs.drop 1)
theorem firstPara_drop {bs : List Blk} {i : Nat} {k lv : Int} {inf t d ti : Bs} {a : DAttr} {line : List Inl} {kids : List Blk} (h : bs[i]? = some (.mk k lv inf t d ti a line kids)) : firstPara (bs.drop i) = if k = 1 then line else firstPara (bs.drop (i + 1)) := by
 obtain ⟨h1, h2⟩ := List.getElem?_eq_some_iff.1 h
 rw [List.drop_eq_getElem_cons h1, h2, firstPara]
theorem caption_fn (v : Value) (bs : List Blk) (hl : bs.length ≤ 1000000) (u : View) (ha : BlkS u v bs) : FnP Tryz.prog 114 [v] u fun r u' => InlS u' r (capOf bs) := by
 obtain ⟨cs, ⟨ad, cap, rfl, h1⟩, hc1⟩ := ha
 refine FnP.intro [.tmp 2] Tryz.func114 rfl rfl rfl ?_
 intro w0 D hw0
 refine wc_seq ?_
 refine wc_region ?_
 refine ya rfl rfl ?_
 refine rl_end (ρ' := [(0, _)]) ⟨rfl, trivial⟩ ?_
 refine q_then ?_
 refine wc_seq ?_
 refine wc_seq ?_
 refine wc_region ?_
 refine ya rfl rfl ?_
 refine rl_end (ρ' := [(0, _), (3, _)]) ⟨rfl, rfl, trivial⟩ ?_
 refine q_then ?_
 refine wc_block ?_
 refine wc_loop (fun m ρ σ u' => ∃ i : Nat, i + m = bs.length ∧ VLe u u' ∧ σ = [] ∧ ρ = [(0, .v (.slice ad bs.length cap)), (3, .v (.int .i64 (i + 1 : Nat)))] ∧ (u = u' ∧ capOf bs = firstPara (bs.drop (i + 1)))) (bs.length) ?_ ?_
 ·
  refine ⟨[(0, _), (3, _)], [], ⟨rfl, rfl, trivial⟩, trivial, 0, by omega, VLe.refl _, (by first | rfl | simp), (by first | rfl | (simp only [List.cons.injEq, Prod.mk.injEq, SV.v.injEq, Value.int.injEq, true_and, and_true]; omega) | simp), ?_⟩
  exact ⟨rfl, rfl⟩
 ·
  rintro m ρ σ u' ⟨i, hi2, hle2, rfl, rfl, ⟨rfl, hinv⟩⟩
  refine wc_seq ?_
  refine wc_seq ?_
  refine wc_region ?_
  refine ym rfl rfl ?_
  refine ym rfl rfl ?_
  refine rl_y (y_len_v rfl rfl Tryz.s23 rfl) rfl ?_
  refine rl_y (y_lss rfl rfl rfl) rfl ?_
  refine rl_end (ρ' := [(0, _), (3, _), (7, _)]) ⟨rfl, rfl, rfl, trivial⟩ ?_
  refine q_then ?_
  refine wc_cond rfl (fun hb2 => ?_) (fun hb2 => ?_)
  ·
   refine wc_skip ?_
   refine q_then ?_
   refine wc_seq ?_
   refine wc_block ?_
   refine wc_seq ?_
   have hlt := of_decide_eq_true hb2
   obtain ⟨k, lv, inf, t, d, ti, a, line, kids, vc, vp, vl, vk, hg, hcut1, s1, s2, s3, s4, hok⟩ := hc1.at (i := i + 1) (by omega)
   have hst := firstPara_drop hg
   refine wc_region ?_
   refine ym rfl rfl ?_
   refine ym rfl rfl ?_
   refine rl_y (y_index_e rfl Tryz.s23 rfl rfl (by assumption) (by first | rfl | omega) (by omega)) rfl ?_
   refine rl_y (y_field_e rfl Tryz.f59' rfl (by decide) rfl) rfl ?_
   refine rl_y (y_load_el rfl Tryz.k3 rfl (by assumption) (by omega) (by assumption) (vs := [_]) rfl rfl rfl rfl) rfl ?_
   refine rl_y (y_eql rfl rfl rfl) rfl ?_
   refine rl_end (ρ' := [(0, _), (3, _), (15, _)]) ⟨rfl, rfl, rfl, trivial⟩ ?_
   refine q_then ?_
   refine wc_cond rfl (fun hb4 => ?_) (fun hb4 => ?_)
   ·
    refine wc_seq ?_
    refine wc_region ?_
    refine ym rfl rfl ?_
    refine ym rfl rfl ?_
    refine rl_y (y_index_e rfl Tryz.s23 rfl rfl (by assumption) (by first | rfl | omega) (by omega)) rfl ?_
    refine rl_y (y_field_e rfl Tryz.f59' rfl (by decide) rfl) rfl ?_
    refine rl_y (y_load_el rfl Tryz.k35 rfl (by assumption) (by omega) (by assumption) (vs := [_]) rfl rfl rfl rfl) rfl ?_
    refine ya rfl rfl ?_
    refine rl_end (ρ' := [(2, _)]) ⟨rfl, trivial⟩ ?_
    refine q_then ?_
    refine wc_ret ?_
    refine q_block_ret ?_
    refine q_then_ret ?_
    refine q_then_ret ?_
    refine q_block_ret ?_
    refine q_then_ret ?_
    refine fin1 (.tmp rfl) ?_
    rw [hinv, hst, if_pos (of_decide_eq_true hb4)]
    exact s3
   ·
    refine wc_skip ?_
    refine q_block ?_
    refine q_then ?_
    refine wc_region ?_
    refine ym rfl rfl ?_
    refine rl_y (y_add rfl rfl rfl (wrap64_id (by omega))) rfl ?_
    refine ya rfl rfl ?_
    refine rl_end (ρ' := [(0, _), (3, _)]) ⟨rfl, rfl, trivial⟩ ?_
    refine q_thenK ?_
    refine ⟨m - 1, [(0, _), (3, _)], [], by omega, ⟨rfl, rfl, trivial⟩, trivial, i + 1, by omega, hle2, (by first | rfl | simp), (by first | rfl | (simp only [List.cons.injEq, Prod.mk.injEq, SV.v.injEq, Value.int.injEq, true_and, and_true]; omega) | simp), ?_⟩
    rw [if_neg (of_decide_eq_false hb4)] at hst
    exact ⟨rfl, by rw [hinv, hst]⟩
  ·
   refine wc_exit ?_
   refine q_then_exit ?_
   refine q_then_exit ?_
   refine q_block_hit ?_
   refine q_then ?_
   refine wc_seq ?_
   refine wc_region ?_
   refine ya rfl rfl ?_
   refine rl_end (ρ' := [(2, _)]) ⟨rfl, trivial⟩ ?_
   refine q_then ?_
   refine wc_ret ?_
   refine fin1 (.tmp rfl) ?_
   have hge := of_decide_eq_false hb2
   rw [hinv, List.drop_eq_nil_of_le (by omega)]
   exact nilInl _
def capIf (k : Int) (kids : List Blk) : List Inl := if k = 13 then capOf kids else []
theorem one_fn (k lv : Int) (inf t d ti id : Bs) (vc vp vl vk : Value) (kids : List Blk) (kd : Bs) (n : Nat) (hn : n ≤ 1000000) (hk : kids.length ≤ 1000000) (u : View) (hs : BlkS u vk kids) :
  FnP Tryz.prog 90 [.agg (blkV k lv inf t d ti id vc vp vl vk).toArray, str kd, .int .i64 n] u fun r u' => ∃ vl', r = .agg #[str id, str kd, str (dec n), vl'] ∧ InlS u' vl' (capIf k kids) := by
 refine FnP.intro [.cell 6 50] Tryz.func90 rfl rfl rfl ?_
 intro w0 D hw0
 refine wc_seq ?_
 refine wc_region ?_
 refine rl_do rfl rfl ?_
 refine do_box trivial rfl (cs := [_, _, _, _, _, _, _, _, _, _, _]) rfl rfl rfl rfl ?_
 refine rl_do rfl rfl ?_
 refine do_alloc trivial Tryz.z50 rfl rfl rfl ?_
 refine rl_end (ρ' := [(1, _), (2, _), (3, _), (6, _)]) ⟨rfl, rfl, rfl, rfl, trivial⟩ ?_
 refine q_then ?_
 refine wc_seq ?_
 refine wc_draw Tryz.mixed rfl [(3, _)] ⟨rfl, trivial⟩ ?_
 refine ra_y (i := 0) rfl (by kernel_rfl) (by kernel_rfl) (by kernel_rfl) (np_then (np_fin)) (y_field_p rfl Tryz.f59' rfl (by decide) rfl) rfl ?_
 refine ra_y (i := 1) rfl (by kernel_rfl) (by kernel_rfl) (by kernel_rfl) (np_then (np_fin)) (y_field_p rfl Tryz.f39' rfl (by decide) rfl) rfl ?_
 refine ra_y (i := 2) rfl (by kernel_rfl) (by kernel_rfl) (by kernel_rfl) (np_then (np_fin)) (y_load_p rfl Tryz.k9 rfl rfl rfl (vs := [_]) rfl rfl rfl) rfl ?_
 refine ra_y (i := 3) rfl (by kernel_rfl) (by kernel_rfl) (by kernel_rfl) (np_then (np_fin)) (y_move rfl rfl) rfl ?_
 refine ra_y (i := 4) rfl (by kernel_rfl) (by kernel_rfl) (by kernel_rfl) (np_then (np_fin)) (y_move rfl rfl) rfl ?_
 refine ra_all (is := [5, 7]) (by kernel_rfl) rfl ?_
 refine raall_cons rfl rfl ?_ ?_
 ·
  refine do_call_f (caps := []) ⟨rfl, trivial⟩ rfl rfl Tryz.c67 rfl (FnP.mono (num_fn n (by omega) u) ?_)
  rintro v u1 hle1 rfl
  refine ra_y (i := 6) rfl (by kernel_rfl) (by kernel_rfl) (by kernel_rfl) (np_then (np_fin)) (y_build rfl Tryz.f50' Tryz.z50 (ps := [(_, _), (_, _), (_, _)]) rfl (vs := [_, _, _, _]) rfl) rfl ?_
  refine ra_do (i := 7) rfl rfl (by kernel_rfl) ?_
  refine do_alloc ⟨rfl, trivial⟩ Tryz.z50 rfl rfl rfl ?_
  refine ra_do (i := 8) rfl rfl (by kernel_rfl) ?_
  refine do_store_p ⟨rfl, trivial⟩ rfl Tryz.k50 rfl rfl rfl (vs := [_, _, _, _]) rfl rfl (by first | rfl | assumption | simp [Value.oneCell', str]) (Nat.le_of_ble_eq_true rfl) rfl ?_
  refine ra_end (by kernel_rfl) (ρ' := [(3, _), (6, _), (7, _)]) ⟨rfl, rfl, rfl, trivial⟩ ?_
  refine q_then ?_
  refine wc_seq ?_
  refine wc_seq ?_
  refine wc_region ?_
  refine rl_y (y_field_p rfl Tryz.f59' rfl (by decide) rfl) rfl ?_
  refine rl_y (y_load_p rfl Tryz.k3 rfl rfl rfl (vs := [_]) rfl rfl rfl) rfl ?_
  refine rl_y (y_eql rfl rfl rfl) rfl ?_
  refine rl_end (ρ' := [(3, _), (6, _), (7, _), (17, _)]) ⟨rfl, rfl, rfl, rfl, trivial⟩ ?_
  refine q_then ?_
  refine wc_cond rfl (fun hb2 => ?_) (fun hb2 => ?_)
  ·
   refine wc_region ?_
   refine rl_y (y_field_p rfl Tryz.f59' rfl (by decide) rfl) rfl ?_
   refine rl_y (y_load_p rfl Tryz.k23 rfl rfl rfl (vs := [_]) rfl rfl rfl) rfl ?_
   refine rl_do rfl rfl ?_
   refine do_call (caps := []) trivial rfl rfl Tryz.c114 rfl (FnP.mono (caption_fn vk kids hk u hs) ?_)
   rintro v u1 hle0 ⟨ccs, ⟨cad, ccap, rfl, hcs⟩, hcc⟩ hle1
   refine rl_y (y_field_p rfl Tryz.f50' rfl (by decide) rfl) rfl ?_
   refine rl_do rfl rfl ?_
   refine do_store_p trivial rfl Tryz.k35 rfl rfl rfl (vs := [_]) rfl rfl (by first | rfl | assumption | simp [Value.oneCell', str]) (Nat.le_of_ble_eq_true rfl) rfl ?_
   refine rl_end (ρ' := [(6, _), (7, _)]) ⟨rfl, rfl, trivial⟩ ?_
   refine q_then ?_
   refine wc_seq ?_
   refine wc_region ?_
   refine rl_y (y_load_p rfl Tryz.k50 rfl rfl rfl (vs := [_, _, _, _]) rfl rfl rfl) rfl ?_
   refine rl_do rfl rfl ?_
   refine do_store_p trivial rfl Tryz.k50 rfl rfl rfl (vs := [_, _, _, _]) rfl rfl (by first | rfl | assumption | simp [Value.oneCell', str]) (Nat.le_of_ble_eq_true rfl) rfl ?_
   refine rl_end (ρ' := [(6, _)]) ⟨rfl, trivial⟩ ?_
   refine q_then ?_
   refine wc_ret ?_
   refine fin1 (.cell rfl rfl Tryz.k50 (cs := _) (vs := [_, _, _, _]) rfl rfl rfl) ?_
   first | exact ⟨_, rfl, by rw [capIf, if_pos (of_decide_eq_true hb2)]; exact inlS_of rfl hcs hcc⟩ | exact ⟨_, rfl, by rw [capIf, if_neg (of_decide_eq_false hb2)]; exact nilInl _⟩
  ·
   refine wc_skip ?_
   refine q_then ?_
   refine wc_seq ?_
   refine wc_region ?_
   refine rl_y (y_load_p rfl Tryz.k50 rfl rfl rfl (vs := [_, _, _, _]) rfl rfl rfl) rfl ?_
   refine rl_do rfl rfl ?_
   refine do_store_p trivial rfl Tryz.k50 rfl rfl rfl (vs := [_, _, _, _]) rfl rfl (by first | rfl | assumption | simp [Value.oneCell', str]) (Nat.le_of_ble_eq_true rfl) rfl ?_
   refine rl_end (ρ' := [(6, _)]) ⟨rfl, trivial⟩ ?_
   refine q_then ?_
   refine wc_ret ?_
   refine fin1 (.cell rfl rfl Tryz.k50 (cs := _) (vs := [_, _, _, _]) rfl rfl rfl) ?_
   first | exact ⟨_, rfl, by rw [capIf, if_pos (of_decide_eq_true hb2)]; exact inlS_of rfl hcs hcc⟩ | exact ⟨_, rfl, by rw [capIf, if_neg (of_decide_eq_false hb2)]; exact nilInl _⟩
 refine raall_cons rfl rfl ?_ ?_
 ·
  refine do_alloc ⟨rfl, trivial⟩ Tryz.z50 rfl rfl rfl ?_
  refine ra_do (i := 5) rfl rfl (by kernel_rfl) ?_
  refine do_call_f (caps := []) ⟨rfl, trivial⟩ rfl rfl Tryz.c67 rfl (FnP.mono (num_fn n (by omega) u) ?_)
  rintro v u1 hle1 rfl
  refine ra_y (i := 6) rfl (by kernel_rfl) (by kernel_rfl) (by kernel_rfl) (np_then (np_fin)) (y_build rfl Tryz.f50' Tryz.z50 (ps := [(_, _), (_, _), (_, _)]) rfl (vs := [_, _, _, _]) rfl) rfl ?_
  refine ra_do (i := 8) rfl rfl (by kernel_rfl) ?_
  refine do_store_p ⟨rfl, trivial⟩ rfl Tryz.k50 rfl rfl rfl (vs := [_, _, _, _]) rfl rfl (by first | rfl | assumption | simp [Value.oneCell', str]) (Nat.le_of_ble_eq_true rfl) rfl ?_
  refine ra_end (by kernel_rfl) (ρ' := [(3, _), (6, _), (7, _)]) ⟨rfl, rfl, rfl, trivial⟩ ?_
  refine q_then ?_
  refine wc_seq ?_
  refine wc_seq ?_
  refine wc_region ?_
  refine rl_y (y_field_p rfl Tryz.f59' rfl (by decide) rfl) rfl ?_
  refine rl_y (y_load_p rfl Tryz.k3 rfl rfl rfl (vs := [_]) rfl rfl rfl) rfl ?_
  refine rl_y (y_eql rfl rfl rfl) rfl ?_
  refine rl_end (ρ' := [(3, _), (6, _), (7, _), (17, _)]) ⟨rfl, rfl, rfl, rfl, trivial⟩ ?_
  refine q_then ?_
  refine wc_cond rfl (fun hb2 => ?_) (fun hb2 => ?_)
  ·
   refine wc_region ?_
   refine rl_y (y_field_p rfl Tryz.f59' rfl (by decide) rfl) rfl ?_
   refine rl_y (y_load_p rfl Tryz.k23 rfl rfl rfl (vs := [_]) rfl rfl rfl) rfl ?_
   refine rl_do rfl rfl ?_
   refine do_call (caps := []) trivial rfl rfl Tryz.c114 rfl (FnP.mono (caption_fn vk kids hk u hs) ?_)
   rintro v u1 hle0 ⟨ccs, ⟨cad, ccap, rfl, hcs⟩, hcc⟩ hle1
   refine rl_y (y_field_p rfl Tryz.f50' rfl (by decide) rfl) rfl ?_
   refine rl_do rfl rfl ?_
   refine do_store_p trivial rfl Tryz.k35 rfl rfl rfl (vs := [_]) rfl rfl (by first | rfl | assumption | simp [Value.oneCell', str]) (Nat.le_of_ble_eq_true rfl) rfl ?_
   refine rl_end (ρ' := [(6, _), (7, _)]) ⟨rfl, rfl, trivial⟩ ?_
   refine q_then ?_
   refine wc_seq ?_
   refine wc_region ?_
   refine rl_y (y_load_p rfl Tryz.k50 rfl rfl rfl (vs := [_, _, _, _]) rfl rfl rfl) rfl ?_
   refine rl_do rfl rfl ?_
   refine do_store_p trivial rfl Tryz.k50 rfl rfl rfl (vs := [_, _, _, _]) rfl rfl (by first | rfl | assumption | simp [Value.oneCell', str]) (Nat.le_of_ble_eq_true rfl) rfl ?_
   refine rl_end (ρ' := [(6, _)]) ⟨rfl, trivial⟩ ?_
   refine q_then ?_
   refine wc_ret ?_
   refine fin1 (.cell rfl rfl Tryz.k50 (cs := _) (vs := [_, _, _, _]) rfl rfl rfl) ?_
   first | exact ⟨_, rfl, by rw [capIf, if_pos (of_decide_eq_true hb2)]; exact inlS_of rfl hcs hcc⟩ | exact ⟨_, rfl, by rw [capIf, if_neg (of_decide_eq_false hb2)]; exact nilInl _⟩
  ·
   refine wc_skip ?_
   refine q_then ?_
   refine wc_seq ?_
   refine wc_region ?_
   refine rl_y (y_load_p rfl Tryz.k50 rfl rfl rfl (vs := [_, _, _, _]) rfl rfl rfl) rfl ?_
   refine rl_do rfl rfl ?_
   refine do_store_p trivial rfl Tryz.k50 rfl rfl rfl (vs := [_, _, _, _]) rfl rfl (by first | rfl | assumption | simp [Value.oneCell', str]) (Nat.le_of_ble_eq_true rfl) rfl ?_
   refine rl_end (ρ' := [(6, _)]) ⟨rfl, trivial⟩ ?_
   refine q_then ?_
   refine wc_ret ?_
   refine fin1 (.cell rfl rfl Tryz.k50 (cs := _) (vs := [_, _, _, _]) rfl rfl rfl) ?_
   first | exact ⟨_, rfl, by rw [capIf, if_pos (of_decide_eq_true hb2)]; exact inlS_of rfl hcs hcc⟩ | exact ⟨_, rfl, by rw [capIf, if_neg (of_decide_eq_false hb2)]; exact nilInl _⟩
 exact raall_nil
def arr (n : Nat) (f : Nat → Nat) : List Value := (List.range n).map fun j => .int .i64 (f j : Nat)
theorem arr_len (n : Nat) (f : Nat → Nat) : (arr n f).length = n := by simp [arr]
theorem arr_congr {n : Nat} {f g : Nat → Nat} (h : ∀ j, j < n → f j = g j) : arr n f = arr n g := List.map_congr_left fun j hj => by rw [h j (List.mem_range.1 hj)]
def setF (f : Nat → Nat) (i v : Nat) : Nat → Nat := fun j => if j = i then v else f j
theorem cut_arr {n i o : Nat} {f : Nat → Nat} (h : i < n) (ho : o = i) : cut (arr n f) o 1 = [.int .i64 (f i : Nat)] := by
 subst ho
 unfold cut arr
 rw [List.drop_eq_getElem_cons (by simpa using h)]
 simp
theorem cut_arr2 {a b i o : Nat} {f g : Nat → Nat} {r : List Value} (h : i < b) (ho : o = a + i) : cut (arr a f ++ (arr b g ++ r)) o 1 = [.int .i64 (g i : Nat)] := by
 subst ho
 unfold cut
 rw [List.drop_append, arr_len, List.drop_eq_nil_of_le (by simp [arr_len]), List.nil_append, Nat.add_sub_cancel_left, List.drop_append_of_le_length (by simp [arr_len]; omega)]
 have := cut_arr (n := b) (i := i) (f := g) h rfl
 unfold cut at this
 rw [List.take_append_of_le_length (by simp [arr_len]; omega), this]
theorem setAt_set : ∀ (cs : List Value) (i : Nat) (x : Value), setAt cs i [x] = cs.set i x
 | [], i, x => by cases i <;> rfl
 | c :: cs, 0, x => by cases cs <;> rfl
 | c :: cs, i + 1, x => by simp only [setAt, setAt_set cs i x, List.set_cons_succ]
theorem set_arr {n i o v : Nat} {f : Nat → Nat} (h : i < n) (ho : o = i) : setAt (arr n f) o [.int .i64 (v : Nat)] = arr n (setF f i v) := by
 subst ho
 rw [setAt_set]
 refine List.ext_getElem? fun j => ?_
 unfold arr
 simp only [List.getElem?_set, List.getElem?_map, List.length_map, List.length_range]
 by_cases hj : j < n
 ·
  rw [List.getElem?_range hj]
  by_cases e : o = j
  ·
   subst e; simp [setF, hj]
  ·
   simp [setF, e, show ¬ j = o from fun h => e h.symm]
 ·
  rw [List.getElem?_eq_none (by simpa using hj), if_neg (by omega)]; rfl
theorem set_arr2 {a b i o v : Nat} {f g : Nat → Nat} {r : List Value} (h : i < b) (ho : o = a + i) : setAt (arr a f ++ (arr b g ++ r)) o [.int .i64 (v : Nat)] = arr a f ++ (arr b (setF g i v) ++ r) := by
 subst ho
 rw [setAt_set, List.set_append_right _ _ (by simp [arr_len]), arr_len, Nat.add_sub_cancel_left, List.set_append_left _ _ (by simpa [arr_len] using h), ← setAt_set, set_arr h rfl]
end Go.Proofs.Ythkgcakpjknlbaa
