/- Count: the laws of numbers and notes. -/
import Derived.Test.YthnboadnehbciaaDoorCntT
namespace Go.Proofs.Ythnboadnehbciaa
open Go Go.Eng
set_option linter.unusedSimpArgs false
set_option linter.unusedVariables false
set_option maxRecDepth 4000

/-! ### the lines of numbers -/
def LinesOk (N : Nat) (l : List DNum) : Prop := ∀ x ∈ l, szI x.line ≤ N
theorem LinesOk.snoc {N : Nat} {l : List DNum} {x : DNum} (h : LinesOk N l) (hx : szI x.line ≤ N) : LinesOk N (l ++ [x]) := by
  intro y hy
  rcases List.mem_append.1 hy with h1 | h1
  · exact h y h1
  · rw [List.mem_singleton.1 h1]; exact hx
theorem firstPara_sz : ∀ (bs : List Blk), szI (firstPara bs) ≤ szB bs
  | [] => by simp [firstPara, szI]
  | .mk k lv inf t d ti a line kids :: bs => by
    have ih := firstPara_sz bs
    unfold firstPara
    split
    · simp only [szB, szb]; omega
    · simp only [szB]; omega
theorem szB_drop : ∀ (bs : List Blk) (i : Nat), szB (bs.drop i) ≤ szB bs
  | [], i => by simp
  | b :: bs, 0 => by simp
  | b :: bs, i + 1 => by have := szB_drop bs i; simp only [List.drop_succ_cons, szB]; omega
theorem capIf_sz (k : Int) (kids : List Blk) : szI (capIf k kids) ≤ szB kids := by
  unfold capIf capOf
  split
  · exact Nat.le_trans (firstPara_sz _) (szB_drop _ _)
  · simp [szI]
mutual
theorem numb1_lines {N : Nat} {free : Bool} : ∀ (b : Blk) (x : Cs), szb b ≤ N → LinesOk N x.out → LinesOk N (numb1 free x b).out
  | .mk k lv inf t d ti a line kids, x, hb, h => by
    simp only [szb] at hb
    simp only [numb1]
    refine numbB_lines kids _ (by omega) ?_
    have h1 : LinesOk N (headStep free k lv a line x).out := by
      unfold headStep
      split
      · exact h.snoc (by show szI line ≤ N; omega)
      · exact h
    unfold kindStep
    split
    · exact h1.snoc (by have := capIf_sz k kids; show szI (capIf k kids) ≤ N; omega)
    · exact h1
theorem numbB_lines {N : Nat} {free : Bool} : ∀ (bs : List Blk) (x : Cs), szB bs ≤ N → LinesOk N x.out → LinesOk N (numbB free x bs).out
  | [], x, _, h => by simpa [numbB] using h
  | b :: bs, x, hb, h => by
    simp only [szB] at hb
    simp only [numbB]
    exact numbB_lines bs _ (by omega) (numb1_lines b x (by omega) h)
end
theorem numsOf_lines (bs : List Blk) : LinesOk (szB bs) (numsOf bs) := by
  intro x hx
  rcases List.mem_append.1 hx with h | h
  · exact numbB_lines bs cs0 (Nat.le_refl _) (fun y hy => by simp [cs0] at hy) x h
  · obtain ⟨i, _, rfl⟩ := List.mem_map.1 h
    simp [szI]
theorem numsOf_len (bs : List Blk) : (numsOf bs).length ≤ 3 * szB bs := by
  have h1 := (numbB_le (free := true) bs 0 cs0 cs0_le).2.2
  have h2 := notesOf_len bs
  simp only [numsOf, List.length_append, noteNums, List.length_map, List.length_range]
  omega

theorem countNumbers_fn (d : DDoc) (vm vb : Value) (u : View) (hT : TabU u) (hm : PrS u vm d.mts) (hb : BlkS u vb d.blocks) (hok : DocOk d) :
    FnP Tryd.prog 3 [.agg #[vm, vb]] u fun r _ => r = .bool true := by
  refine FnP.intro [.tmp 2] Tryd.func3 rfl rfl rfl ?_
  intro w0 D hw0
  refine wc_seq ?_
  refine wc_region ?_
  refine rl_do rfl rfl ?_
  refine do_box trivial rfl (cs := [_, _]) rfl rfl rfl rfl ?_
  refine rl_y (y_assign rfl rfl) rfl ?_
  refine rl_end (ρ' := [(1, _)]) ⟨rfl, trivial⟩ ?_
  refine q_then ?_
  refine wc_seq ?_
  refine wc_seq ?_
  refine wc_region ?_
  refine rl_y (y_load_p rfl Tryd.k25 rfl rfl rfl (vs := [_, _]) rfl rfl rfl) rfl ?_
  refine rl_do rfl rfl ?_
  refine do_call_f (caps := []) trivial rfl rfl Tryd.c9 rfl (FnP.mono (small_fn d vm vb u hm hb hok) ?_)
  rintro v u1 hle1 ⟨b, rfl, hsm⟩
  refine rl_y (y_not rfl rfl) rfl ?_
  refine rl_end (ρ' := [(1, _), (5, _)]) ⟨rfl, rfl, trivial⟩ ?_
  refine q_then ?_
  refine wc_cond rfl (fun hb1 => ?_) (fun hb1 => ?_)
  ·
    refine wc_seq ?_
    refine wc_region ?_
    refine rl_do rfl rfl ?_
    refine do_call_f (caps := []) trivial rfl rfl Tryd.c10 rfl (FnP.mono (awake_fn u hT) ?_)
    rintro v u1 hle1 rfl
    refine rl_y (y_assign rfl rfl) rfl ?_
    refine rl_end (ρ' := [(2, _)]) ⟨rfl, trivial⟩ ?_
    refine q_then ?_
    refine wc_ret ?_
    refine q_then_ret ?_
    refine fin1 (.tmp rfl) ?_
    rfl
  ·
    refine wc_skip ?_
    refine q_then ?_
    refine wc_seq ?_
    have hbt : b = true := by cases b <;> simp_all
    obtain ⟨_, _, hsz, hsm⟩ := hsm hbt
    have hnl := numsOf_len d.blocks
    have hlo := numsOf_lines d.blocks
    refine wc_draw Tryd.mixed rfl [(1, _)] ⟨rfl, trivial⟩ ?_
    refine ra_y (i := 0) rfl (by kernel_rfl) (by kernel_rfl) (by kernel_rfl) (np_then (np_fin)) (y_load_p rfl Tryd.k25 rfl rfl rfl (vs := [_, _]) rfl rfl rfl) rfl ?_
    refine ra_y (i := 2) rfl (by kernel_rfl) (by kernel_rfl) (by kernel_rfl) (np_then (np_fin)) (y_load_p rfl Tryd.k25 rfl rfl rfl (vs := [_, _]) rfl rfl rfl) rfl ?_
    refine ra_do (i := 1) rfl rfl (by kernel_rfl) ?_
    refine do_call (caps := []) ⟨rfl, trivial⟩ rfl rfl Tryd.c12 rfl (FnP.mono (numbers_fn vm vb d.blocks _ (by first | exact hT | exact hT.mono hleB) (by omega) hsm (by first | exact hb | exact hb.mono hleB)) ?_)
    rintro v uA hle0 hN1 hleA
    refine ra_do (i := 3) rfl rfl (by kernel_rfl) ?_
    refine do_call (caps := []) ⟨rfl, trivial⟩ rfl rfl Tryd.c13 rfl (FnP.mono (refNumbers_fn vm vb d.blocks _ (by omega) (by first | exact hb | exact hb.mono hleA)) ?_)
    rintro v uB hle0 hN2 hleB
    refine ra_do (i := 4) rfl rfl (by kernel_rfl) ?_
    refine do_call_f (caps := []) ⟨rfl, trivial⟩ rfl rfl Tryd.c11 rfl (FnP.mono (same_same _ _ (numsOf d.blocks) (by omega) (fun x hx ↦ by have := len_szI x.line; have := hlo x hx; omega) _ (by first | exact hN1 | exact hN1.mono hleB) (by first | exact hN2 | exact hN2.mono hleA)) ?_)
    rintro v u1 hle1 rfl
    refine ra_y (i := 5) rfl (by kernel_rfl) (by kernel_rfl) (by kernel_rfl) (np_then (np_fin)) (y_move rfl rfl) rfl ?_
    refine ra_do_on (i := 6) rfl rfl rfl (by kernel_rfl) ?_
    refine do_call_f (caps := []) ⟨rfl, trivial⟩ rfl rfl Tryd.c10 rfl (FnP.mono (awake_fn _ (by first | exact (hT.mono hleA).mono hleB | exact (hT.mono hleB).mono hleA)) ?_)
    rintro v u1 hle1 rfl
    refine ra_y (i := 7) rfl (by kernel_rfl) (by kernel_rfl) (by kernel_rfl) (np_then (np_fin)) (y_pick_t rfl rfl rfl) rfl ?_
    refine ra_y (i := 8) rfl (by kernel_rfl) (by kernel_rfl) (by kernel_rfl) (np_then (np_fin)) (y_assign rfl rfl) rfl ?_
    refine ra_end (by kernel_rfl) (ρ' := [(2, _)]) ⟨rfl, trivial⟩ ?_
    refine q_then ?_
    refine wc_ret ?_
    refine fin1 (.tmp rfl) ?_
    rfl

/-! ### the values by kind -/
theorem valuesOf_append (k : Bs) (a b : List DNum) : valuesOf k (a ++ b) = valuesOf k a ++ valuesOf k b := List.filterMap_append
theorem valuesOf_one (k : Bs) (x : DNum) : valuesOf k [x] = if x.kind = k then [x.value] else [] := by
  unfold valuesOf
  by_cases h : x.kind = k <;> simp [h]
theorem noteNums_vals (l : List Bs) : valuesOf notS (noteNums l) = numsTo l.length := by
  unfold noteNums valuesOf numsTo
  rw [List.filterMap_map]
  simp [Function.comp_def]
theorem noteNums_other (k : Bs) (hk : k ≠ notS) (l : List Bs) : valuesOf k (noteNums l) = [] := by
  unfold noteNums valuesOf
  rw [List.filterMap_map, List.filterMap_eq_nil_iff]
  intro i _
  simp [Function.comp_def, Ne.symm hk]
theorem kindS_ne (n : Nat) : kindS n ≠ notS ∧ kindS n ≠ secS := by
  unfold kindS
  split
  · exact ⟨by decide, by decide⟩
  · split <;> exact ⟨by decide, by decide⟩
/-- figures, tables and equations count 1, 2, 3 ..; there are no other kinds -/
def GapOk (x : Cs) : Prop := (∀ n, 1 ≤ n → n ≤ 3 → valuesOf (kindS n) x.out = numsTo (x.g n)) ∧ valuesOf notS x.out = [] ∧ x.g 1 + x.g 2 + x.g 3 + (valuesOf secS x.out).length = x.out.length
theorem kindS_inj {a b : Nat} (ha : 1 ≤ a ∧ a ≤ 3) (hb : 1 ≤ b ∧ b ≤ 3) (h : kindS a = kindS b) : a = b := by
  rcases (show a = 1 ∨ a = 2 ∨ a = 3 by omega) with rfl | rfl | rfl <;> rcases (show b = 1 ∨ b = 2 ∨ b = 3 by omega) with rfl | rfl | rfl <;> first | rfl | exact absurd h (by decide)
theorem headStep_gap {free : Bool} {k lv : Int} {a : DAttr} {line : List Inl} {x : Cs} (h : GapOk x) : GapOk (headStep free k lv a line x) := by
  unfold headStep
  split
  · obtain ⟨h1, h2, h3⟩ := h
    refine ⟨fun n hn hn3 => ?_, ?_, ?_⟩
    · simp only [valuesOf_append, valuesOf_one]
      rw [if_neg (fun e => (kindS_ne n).2 e.symm), List.append_nil]
      exact h1 n hn hn3
    · simp only [valuesOf_append, valuesOf_one]
      rw [if_neg (by decide), List.append_nil]; exact h2
    · simp only [valuesOf_append, valuesOf_one, List.length_append]
      simp; omega
  · exact h
theorem kindStep_gap {k : Int} {inf : Bs} {a : DAttr} {kids : List Blk} {x : Cs} (h : GapOk x) : GapOk (kindStep k inf a kids x) := by
  unfold kindStep
  split
  · rename_i hp
    have h3' := kindN_le k inf a.id
    generalize kindN k inf a.id = m at *
    obtain ⟨h1, h2, h3⟩ := h
    refine ⟨fun n hn hn3 => ?_, ?_, ?_⟩
    · simp only [valuesOf_append, valuesOf_one]
      by_cases e : n = m
      · subst e
        rw [if_pos rfl, h1 n hn hn3]
        simp only [setF, if_true]
        rw [numsTo_succ]
      · rw [if_neg (fun h => e (kindS_inj ⟨hn, hn3⟩ ⟨hp, h3'⟩ h.symm)), List.append_nil, h1 n hn hn3]
        simp only [setF, if_neg e]
    · simp only [valuesOf_append, valuesOf_one]
      rw [if_neg (kindS_ne m).1, List.append_nil]; exact h2
    · simp only [valuesOf_append, valuesOf_one, List.length_append]
      rw [if_neg (kindS_ne m).2]
      simp only [List.length_cons, List.length_nil, Nat.add_zero, Nat.zero_add]
      rcases (show m = 1 ∨ m = 2 ∨ m = 3 by omega) with rfl | rfl | rfl <;> simp [setF] <;> omega
  · exact h
mutual
theorem numb1_gap {free : Bool} : ∀ (b : Blk) (x : Cs), GapOk x → GapOk (numb1 free x b)
  | .mk k lv inf t d ti a line kids, x, h => by
    simp only [numb1]
    exact numbB_gap kids _ (kindStep_gap (headStep_gap h))
theorem numbB_gap {free : Bool} : ∀ (bs : List Blk) (x : Cs), GapOk x → GapOk (numbB free x bs)
  | [], x, h => by simpa [numbB] using h
  | b :: bs, x, h => by
    simp only [numbB]
    exact numbB_gap bs _ (numb1_gap b x h)
end
theorem gap0 : GapOk cs0 := ⟨fun n _ _ => rfl, rfl, rfl⟩
theorem notes_vals (bs : List Blk) : valuesOf notS (numsOf bs) = numsTo (notesOf bs).length := by
  unfold numsOf
  rw [valuesOf_append, (numbB_gap bs cs0 gap0).2.1, noteNums_vals]; rfl
theorem kind_vals (bs : List Blk) {n : Nat} (h1 : 1 ≤ n) (h3 : n ≤ 3) : valuesOf (kindS n) (numsOf bs) = numsTo ((numbB true cs0 bs).g n) := by
  unfold numsOf
  rw [valuesOf_append, (numbB_gap bs cs0 gap0).1 n h1 h3, noteNums_other _ (kindS_ne n).1, List.append_nil]
theorem sum_vals (bs : List Blk) : (valuesOf (kindS 1) (numsOf bs)).length + (valuesOf (kindS 2) (numsOf bs)).length + (valuesOf (kindS 3) (numsOf bs)).length + (valuesOf notS (numsOf bs)).length + (valuesOf secS (numsOf bs)).length = (numsOf bs).length := by
  rw [kind_vals bs (by decide) (by decide), kind_vals bs (by decide) (by decide), kind_vals bs (by decide) (by decide), notes_vals]
  have h := (numbB_gap (free := true) bs cs0 gap0).2.2
  unfold numsOf
  rw [valuesOf_append, noteNums_other secS (by decide)]
  simp only [numsTo_len, List.append_nil, List.length_append, noteNums, List.length_map, List.length_range]
  omega

theorem countNotes_fn (d : DDoc) (vm vb : Value) (u : View) (hT : TabU u) (hm : PrS u vm d.mts) (hb : BlkS u vb d.blocks) (hok : DocOk d) :
    FnP Tryd.prog 4 [.agg #[vm, vb]] u fun r _ => r = .bool true := by
  refine FnP.intro [.tmp 2] Tryd.func4 rfl rfl rfl ?_
  intro w0 D hw0
  refine wc_seq ?_
  refine wc_region ?_
  refine rl_do rfl rfl ?_
  refine do_box trivial rfl (cs := [_, _]) rfl rfl rfl rfl ?_
  refine rl_y (y_assign rfl rfl) rfl ?_
  refine rl_end (ρ' := [(1, _)]) ⟨rfl, trivial⟩ ?_
  refine q_then ?_
  refine wc_seq ?_
  refine wc_seq ?_
  refine wc_region ?_
  refine rl_y (y_load_p rfl Tryd.k25 rfl rfl rfl (vs := [_, _]) rfl rfl rfl) rfl ?_
  refine rl_do rfl rfl ?_
  refine do_call_f (caps := []) trivial rfl rfl Tryd.c9 rfl (FnP.mono (small_fn d vm vb u hm hb hok) ?_)
  rintro v u1 hle1 ⟨b, rfl, hsm⟩
  refine rl_y (y_not rfl rfl) rfl ?_
  refine rl_end (ρ' := [(1, _), (5, _)]) ⟨rfl, rfl, trivial⟩ ?_
  refine q_then ?_
  refine wc_cond rfl (fun hb1 => ?_) (fun hb1 => ?_)
  ·
    refine wc_seq ?_
    refine wc_region ?_
    refine rl_do rfl rfl ?_
    refine do_call_f (caps := []) trivial rfl rfl Tryd.c10 rfl (FnP.mono (awake_fn u hT) ?_)
    rintro v u1 hle1 rfl
    refine rl_y (y_assign rfl rfl) rfl ?_
    refine rl_end (ρ' := [(2, _)]) ⟨rfl, trivial⟩ ?_
    refine q_then ?_
    refine wc_ret ?_
    refine q_then_ret ?_
    refine fin1 (.tmp rfl) ?_
    rfl
  ·
    refine wc_skip ?_
    refine q_then ?_
    refine wc_seq ?_
    have hbt : b = true := by cases b <;> simp_all
    obtain ⟨_, _, hsz, hsm⟩ := hsm hbt
    have hnl := numsOf_len d.blocks
    have hno := notesOf_len d.blocks
    have hval := notes_vals d.blocks
    refine wc_draw Tryd.mixed rfl [(1, _)] ⟨rfl, trivial⟩ ?_
    refine ra_y (i := 0) rfl (by kernel_rfl) (by kernel_rfl) (by kernel_rfl) (np_then (np_fin)) (y_load_p rfl Tryd.k25 rfl rfl rfl (vs := [_, _]) rfl rfl rfl) rfl ?_
    refine ra_y (i := 2) rfl (by kernel_rfl) (by kernel_rfl) (by kernel_rfl) (np_then (np_fin)) (y_load_p rfl Tryd.k25 rfl rfl rfl (vs := [_, _]) rfl rfl rfl) rfl ?_
    refine ra_do (i := 1) rfl rfl (by kernel_rfl) ?_
    refine do_call (caps := []) ⟨rfl, trivial⟩ rfl rfl Tryd.c15 rfl (FnP.mono (notes_fn vm vb d.blocks _ (by omega) hsm (by first | exact hb | exact hb.mono hleB)) ?_)
    rintro v uA hle0 hN1 hleA
    refine ra_do (i := 3) rfl rfl (by kernel_rfl) ?_
    refine do_call (caps := []) ⟨rfl, trivial⟩ rfl rfl Tryd.c16 rfl (FnP.mono (refNotes_fn vm vb d.blocks _ (by omega) (by first | exact hb | exact hb.mono hleA)) ?_)
    rintro v uB hle0 hN2 hleB
    refine ra_do (i := 4) rfl rfl (by kernel_rfl) ?_
    refine do_call_f (caps := []) ⟨rfl, trivial⟩ rfl rfl Tryd.c14 rfl (FnP.mono (lawtexts_same _ _ (notesOf d.blocks) (by omega) _ (by first | exact hN1 | exact hN1.mono hleB) (by first | exact hN2 | exact hN2.mono hleA)) ?_)
    rintro v u1 hle1 rfl
    refine ra_y (i := 5) rfl (by kernel_rfl) (by kernel_rfl) (by kernel_rfl) (np_then (np_fin)) (y_move rfl rfl) rfl ?_
    refine ra_y_on (i := 6) rfl rfl rfl (by kernel_rfl) (by kernel_rfl) (by kernel_rfl) (np_then (np_fin)) (y_load_p rfl Tryd.k25 rfl rfl rfl (vs := [_, _]) rfl rfl rfl) rfl ?_
    refine ra_y_on (i := 9) rfl rfl rfl (by kernel_rfl) (by kernel_rfl) (by kernel_rfl) (np_then (np_fin)) (y_load_p rfl Tryd.k25 rfl rfl rfl (vs := [_, _]) rfl rfl rfl) rfl ?_
    refine ra_do_on (i := 7) rfl rfl rfl (by kernel_rfl) ?_
    refine do_call (caps := []) ⟨rfl, trivial⟩ rfl rfl Tryd.c12 rfl (FnP.mono (numbers_fn vm vb d.blocks uB ((hT.mono hleA).mono hleB) (by omega) hsm ((hb.mono hleA).mono hleB)) ?_)
    rintro v uC hle0 hN3 hleC
    refine ra_do_on (i := 8) rfl rfl rfl (by kernel_rfl) ?_
    refine do_call (caps := []) ⟨rfl, trivial⟩ rfl rfl Tryd.c17 rfl (FnP.mono (values_fn _ (numsOf d.blocks) notS (by omega) uC hN3) ?_)
    rintro v uE hle0 hV hleE
    refine ra_do_on (i := 10) rfl rfl rfl (by kernel_rfl) ?_
    refine do_call (caps := []) ⟨rfl, trivial⟩ rfl rfl Tryd.c16 rfl (FnP.mono (refNotes_fn vm vb d.blocks uE (by omega) ((((hb.mono hleA).mono hleB).mono hleC).mono hleE)) ?_)
    rintro v uG hle0 ⟨gad, gcap, rfl, hN4⟩ hleG
    refine ra_y_on (i := 11) rfl rfl rfl (by kernel_rfl) (by kernel_rfl) (by kernel_rfl) (np_then (np_fin)) (y_len_v rfl rfl Tryd.s32 rfl) rfl ?_
    refine ra_do_on (i := 12) rfl rfl rfl (by kernel_rfl) ?_
    refine do_call (caps := []) ⟨rfl, trivial⟩ rfl rfl Tryd.c18 rfl (FnP.mono (lawnumbers_fn (notesOf d.blocks).length (by omega) uG) ?_)
    rintro v uH hle0 hL hleH
    rw [hval] at hV
    refine ra_do_on (i := 13) rfl rfl rfl (by kernel_rfl) ?_
    refine do_call_f (caps := []) ⟨rfl, trivial⟩ rfl rfl Tryd.c14 rfl (FnP.mono (lawtexts_same _ _ (numsTo (notesOf d.blocks).length) (by rw [numsTo_len]; omega) uH ((hV.mono hleG).mono hleH) hL) ?_)
    rintro v u1 hle1 rfl
    refine ra_y (i := 14) rfl (by kernel_rfl) (by kernel_rfl) (by kernel_rfl) (np_then (np_fin)) (y_pick_t rfl rfl rfl) rfl ?_
    refine ra_y (i := 15) rfl (by kernel_rfl) (by kernel_rfl) (by kernel_rfl) (np_then (np_fin)) (y_move rfl rfl) rfl ?_
    refine ra_do_on (i := 16) rfl rfl rfl (by kernel_rfl) ?_
    refine do_call_f (caps := []) ⟨rfl, trivial⟩ rfl rfl Tryd.c10 rfl (FnP.mono (awake_fn uH ((((((hT.mono hleA).mono hleB).mono hleC).mono hleE).mono hleG).mono hleH)) ?_)
    rintro v u1 hle1 rfl
    refine ra_y (i := 17) rfl (by kernel_rfl) (by kernel_rfl) (by kernel_rfl) (np_then (np_fin)) (y_pick_t rfl rfl rfl) rfl ?_
    refine ra_y (i := 18) rfl (by kernel_rfl) (by kernel_rfl) (by kernel_rfl) (np_then (np_fin)) (y_assign rfl rfl) rfl ?_
    refine ra_end (by kernel_rfl) (ρ' := [(2, _)]) ⟨rfl, trivial⟩ ?_
    refine q_then ?_
    refine wc_ret ?_
    refine fin1 (.tmp rfl) ?_
    rfl

theorem vals_fn (v : Value) (bs : List Blk) (k : Bs) (n : Nat) (hv : valuesOf k (numsOf bs) = numsTo n) (hl : (numsOf bs).length ≤ 1000000) (u : View) (h : NumS u v (numsOf bs)) : FnP Tryd.prog 17 [v, str k] u fun r u' => ∃ ad cap, r = .slice ad n cap ∧ StrS u' (.slice ad n cap) (numsTo n) := by
  have := values_fn v (numsOf bs) k hl u h
  rw [hv] at this
  refine this.mono ?_
  rintro r u' hle ⟨ad, cap, rfl, h⟩
  rw [numsTo_len] at h ⊢
  exact ⟨ad, cap, rfl, ad, cap, by rw [numsTo_len], by rw [numsTo_len]; exact h⟩

theorem countGaps_fn (d : DDoc) (vm vb : Value) (u : View) (hT : TabU u) (hm : PrS u vm d.mts) (hb : BlkS u vb d.blocks) (hok : DocOk d) :
    FnP Tryd.prog 6 [.agg #[vm, vb]] u fun r _ => r = .bool true := by
  refine FnP.intro [.tmp 2] Tryd.func6 rfl rfl rfl ?_
  intro w0 D hw0
  refine wc_seq ?_
  refine wc_region ?_
  refine rl_do rfl rfl ?_
  refine do_box trivial rfl (cs := [_, _]) rfl rfl rfl rfl ?_
  refine rl_y (y_assign rfl rfl) rfl ?_
  refine rl_end (ρ' := [(1, _)]) ⟨rfl, trivial⟩ ?_
  refine q_then ?_
  refine wc_seq ?_
  refine wc_seq ?_
  refine wc_region ?_
  refine rl_y (y_load_p rfl Tryd.k25 rfl rfl rfl (vs := [_, _]) rfl rfl rfl) rfl ?_
  refine rl_do rfl rfl ?_
  refine do_call_f (caps := []) trivial rfl rfl Tryd.c9 rfl (FnP.mono (small_fn d vm vb u hm hb hok) ?_)
  rintro v u1 hle1 ⟨b, rfl, hsm⟩
  refine rl_y (y_not rfl rfl) rfl ?_
  refine rl_end (ρ' := [(1, _), (11, _)]) ⟨rfl, rfl, trivial⟩ ?_
  refine q_then ?_
  refine wc_cond rfl (fun hb1 => ?_) (fun hb1 => ?_)
  ·
    refine wc_seq ?_
    refine wc_region ?_
    refine rl_do rfl rfl ?_
    refine do_call_f (caps := []) trivial rfl rfl Tryd.c10 rfl (FnP.mono (awake_fn u hT) ?_)
    rintro v u1 hle1 rfl
    refine rl_y (y_assign rfl rfl) rfl ?_
    refine rl_end (ρ' := [(2, _)]) ⟨rfl, trivial⟩ ?_
    refine q_then ?_
    refine wc_ret ?_
    refine q_then_ret ?_
    refine fin1 (.tmp rfl) ?_
    rfl
  ·
    refine wc_skip ?_
    refine q_then ?_
    refine wc_seq ?_
    have hbt : b = true := by cases b <;> simp_all
    obtain ⟨_, _, hsz, hsm⟩ := hsm hbt
    have hnl := numsOf_len d.blocks
    have hno := notesOf_len d.blocks
    have hv1 := kind_vals d.blocks (n := 1) (by decide) (by decide)
    have hv2 := kind_vals d.blocks (n := 2) (by decide) (by decide)
    have hv3 := kind_vals d.blocks (n := 3) (by decide) (by decide)
    have hv4 := notes_vals d.blocks
    have hsum := sum_vals d.blocks
    have hg := (numbB_le (free := true) d.blocks 0 cs0 cs0_le).2.1
    have hg1 := hg 1
    have hg2 := hg 2
    have hg3 := hg 3
    rw [hv1, hv2, hv3, hv4] at hsum
    simp only [numsTo_len] at hsum
    have hvs := filterMap_len (fun x : DNum => if x.kind = secS then some x.value else none) (numsOf d.blocks)
    refine wc_region ?_
    refine rl_y (y_load_p rfl Tryd.k25 rfl rfl rfl (vs := [_, _]) rfl rfl rfl) rfl ?_
    refine rl_do rfl rfl ?_
    refine do_call (caps := []) trivial rfl rfl Tryd.c12 rfl (FnP.mono (numbers_fn vm vb d.blocks u hT (by omega) hsm hb) ?_)
    rintro v uC hle0 ⟨ncs, ⟨nad, ncap, rfl, hn1⟩, hn2⟩ hleC
    have hN : NumS uC (.slice nad (numsOf d.blocks).length ncap) (numsOf d.blocks) := ⟨ncs, ⟨nad, ncap, rfl, hn1⟩, hn2⟩; have hT := hT.mono hleC
    refine rl_y (y_assign rfl rfl) rfl ?_
    refine rl_end (ρ' := [(3, _)]) ⟨rfl, trivial⟩ ?_
    refine q_then ?_
    refine wc_seq ?_
    refine wc_region ?_
    refine rl_y (y_move rfl rfl) rfl ?_
    refine rl_do rfl rfl ?_
    refine do_call (caps := []) trivial rfl rfl Tryd.c17 rfl (FnP.mono (vals_fn _ d.blocks figS _ hv1 (by omega) uC hN) ?_)
    rintro v uE1 hle0 ⟨ad1, cap1, rfl, h1⟩ hleE1
    have hN := hN.mono hleE1; have hT := hT.mono hleE1
    refine rl_y (y_move rfl rfl) rfl ?_
    refine rl_do rfl rfl ?_
    refine do_call (caps := []) trivial rfl rfl Tryd.c17 rfl (FnP.mono (vals_fn _ d.blocks tabS _ hv2 (by omega) uE1 hN) ?_)
    rintro v uE2 hle0 ⟨ad2, cap2, rfl, h2⟩ hleE2
    have hN := hN.mono hleE2; have hT := hT.mono hleE2; have h1 := h1.mono hleE2
    refine rl_y (y_move rfl rfl) rfl ?_
    refine rl_do rfl rfl ?_
    refine do_call (caps := []) trivial rfl rfl Tryd.c17 rfl (FnP.mono (vals_fn _ d.blocks equS _ hv3 (by omega) uE2 hN) ?_)
    rintro v uE3 hle0 ⟨ad3, cap3, rfl, h3⟩ hleE3
    have hN := hN.mono hleE3; have hT := hT.mono hleE3; have h1 := h1.mono hleE3; have h2 := h2.mono hleE3
    refine rl_y (y_move rfl rfl) rfl ?_
    refine rl_do rfl rfl ?_
    refine do_call (caps := []) trivial rfl rfl Tryd.c17 rfl (FnP.mono (vals_fn _ d.blocks notS _ hv4 (by omega) uE3 hN) ?_)
    rintro v uE4 hle0 ⟨ad4, cap4, rfl, h4⟩ hleE4
    have hN := hN.mono hleE4; have hT := hT.mono hleE4; have h1 := h1.mono hleE4; have h2 := h2.mono hleE4; have h3 := h3.mono hleE4
    refine rl_y (y_assign rfl rfl) rfl ?_
    refine rl_y (y_assign rfl rfl) rfl ?_
    refine rl_y (y_assign rfl rfl) rfl ?_
    refine rl_y (y_assign rfl rfl) rfl ?_
    refine rl_end (ρ' := [(3, _), (4, _), (5, _), (6, _), (7, _)]) ⟨rfl, rfl, rfl, rfl, rfl, trivial⟩ ?_
    refine q_then ?_
    refine wc_seq ?_
    refine wc_region ?_
    refine rl_y (y_move rfl rfl) rfl ?_
    refine rl_do rfl rfl ?_
    refine do_call (caps := []) trivial rfl rfl Tryd.c17 rfl (FnP.mono (values_fn _ (numsOf d.blocks) secS (by omega) uE4 hN) ?_)
    rintro v uE5 hle0 ⟨ad5, cap5, rfl, h5⟩ hleE5
    have hT := hT.mono hleE5; have h1 := h1.mono hleE5; have h2 := h2.mono hleE5; have h3 := h3.mono hleE5; have h4 := h4.mono hleE5
    refine rl_y (y_assign rfl rfl) rfl ?_
    refine rl_end (ρ' := [(3, _), (4, _), (5, _), (6, _), (7, _), (8, _)]) ⟨rfl, rfl, rfl, rfl, rfl, rfl, trivial⟩ ?_
    refine q_then ?_
    refine wc_seq ?_
    refine wc_region ?_
    refine rl_y (y_move rfl rfl) rfl ?_
    refine rl_y (y_move rfl rfl) rfl ?_
    refine rl_y (y_len_v rfl rfl Tryd.s32 rfl) rfl ?_
    refine rl_do rfl rfl ?_
    refine do_call (caps := []) trivial rfl rfl Tryd.c18 rfl (FnP.mono (lawnumbers_fn ((numbB true cs0 d.blocks).g 1) (by omega) uE5) ?_)
    rintro v uG1 hle0 hL1 hleG1
    have hT := hT.mono hleG1; have h1 := h1.mono hleG1; have h2 := h2.mono hleG1; have h3 := h3.mono hleG1; have h4 := h4.mono hleG1
    refine rl_do rfl rfl ?_
    refine do_call_f (caps := []) trivial rfl rfl Tryd.c14 rfl (FnP.mono (lawtexts_same _ _ (numsTo ((numbB true cs0 d.blocks).g 1)) (by rw [numsTo_len]; omega) uG1 h1 hL1) ?_)
    rintro v u1 hle1 rfl
    refine rl_y (y_move rfl rfl) rfl ?_
    refine rl_on rfl rfl ?_
    refine rl_y (y_move rfl rfl) rfl ?_
    refine rl_on rfl rfl ?_
    refine rl_y (y_move rfl rfl) rfl ?_
    refine rl_on rfl rfl ?_
    refine rl_y (y_len_v rfl rfl Tryd.s32 rfl) rfl ?_
    refine rl_on rfl rfl ?_
    refine rl_do rfl rfl ?_
    refine do_call (caps := []) trivial rfl rfl Tryd.c18 rfl (FnP.mono (lawnumbers_fn ((numbB true cs0 d.blocks).g 2) (by omega) uG1) ?_)
    rintro v uG2 hle0 hL2 hleG2
    have hT := hT.mono hleG2; have h1 := h1.mono hleG2; have h2 := h2.mono hleG2; have h3 := h3.mono hleG2; have h4 := h4.mono hleG2
    refine rl_on rfl rfl ?_
    refine rl_do rfl rfl ?_
    refine do_call_f (caps := []) trivial rfl rfl Tryd.c14 rfl (FnP.mono (lawtexts_same _ _ (numsTo ((numbB true cs0 d.blocks).g 2)) (by rw [numsTo_len]; omega) uG2 h2 hL2) ?_)
    rintro v u1 hle1 rfl
    refine rl_y (y_pick_t rfl rfl rfl) rfl ?_
    refine rl_y (y_move rfl rfl) rfl ?_
    refine rl_on rfl rfl ?_
    refine rl_y (y_move rfl rfl) rfl ?_
    refine rl_on rfl rfl ?_
    refine rl_y (y_move rfl rfl) rfl ?_
    refine rl_on rfl rfl ?_
    refine rl_y (y_len_v rfl rfl Tryd.s32 rfl) rfl ?_
    refine rl_on rfl rfl ?_
    refine rl_do rfl rfl ?_
    refine do_call (caps := []) trivial rfl rfl Tryd.c18 rfl (FnP.mono (lawnumbers_fn ((numbB true cs0 d.blocks).g 3) (by omega) uG2) ?_)
    rintro v uG3 hle0 hL3 hleG3
    have hT := hT.mono hleG3; have h1 := h1.mono hleG3; have h2 := h2.mono hleG3; have h3 := h3.mono hleG3; have h4 := h4.mono hleG3
    refine rl_on rfl rfl ?_
    refine rl_do rfl rfl ?_
    refine do_call_f (caps := []) trivial rfl rfl Tryd.c14 rfl (FnP.mono (lawtexts_same _ _ (numsTo ((numbB true cs0 d.blocks).g 3)) (by rw [numsTo_len]; omega) uG3 h3 hL3) ?_)
    rintro v u1 hle1 rfl
    refine rl_y (y_pick_t rfl rfl rfl) rfl ?_
    refine rl_y (y_move rfl rfl) rfl ?_
    refine rl_on rfl rfl ?_
    refine rl_y (y_move rfl rfl) rfl ?_
    refine rl_on rfl rfl ?_
    refine rl_y (y_move rfl rfl) rfl ?_
    refine rl_on rfl rfl ?_
    refine rl_y (y_len_v rfl rfl Tryd.s32 rfl) rfl ?_
    refine rl_on rfl rfl ?_
    refine rl_do rfl rfl ?_
    refine do_call (caps := []) trivial rfl rfl Tryd.c18 rfl (FnP.mono (lawnumbers_fn (notesOf d.blocks).length (by omega) uG3) ?_)
    rintro v uG4 hle0 hL4 hleG4
    have hT := hT.mono hleG4; have h1 := h1.mono hleG4; have h2 := h2.mono hleG4; have h3 := h3.mono hleG4; have h4 := h4.mono hleG4
    refine rl_on rfl rfl ?_
    refine rl_do rfl rfl ?_
    refine do_call_f (caps := []) trivial rfl rfl Tryd.c14 rfl (FnP.mono (lawtexts_same _ _ (numsTo (notesOf d.blocks).length) (by rw [numsTo_len]; omega) uG4 h4 hL4) ?_)
    rintro v u1 hle1 rfl
    refine rl_y (y_pick_t rfl rfl rfl) rfl ?_
    refine rl_y (y_move rfl rfl) rfl ?_
    refine rl_on rfl rfl ?_
    refine rl_y (y_move rfl rfl) rfl ?_
    refine rl_on rfl rfl ?_
    refine rl_y (y_len_v rfl rfl Tryd.s32 rfl) rfl ?_
    refine rl_on rfl rfl ?_
    refine rl_y (y_move rfl rfl) rfl ?_
    refine rl_on rfl rfl ?_
    refine rl_y (y_len_v rfl rfl Tryd.s32 rfl) rfl ?_
    refine rl_on rfl rfl ?_
    refine rl_y (y_add rfl rfl rfl (wrap64_id (by omega))) rfl ?_
    refine rl_on rfl rfl ?_
    refine rl_y (y_move rfl rfl) rfl ?_
    refine rl_on rfl rfl ?_
    refine rl_y (y_len_v rfl rfl Tryd.s32 rfl) rfl ?_
    refine rl_on rfl rfl ?_
    refine rl_y (y_add rfl rfl rfl (wrap64_id (by omega))) rfl ?_
    refine rl_on rfl rfl ?_
    refine rl_y (y_move rfl rfl) rfl ?_
    refine rl_on rfl rfl ?_
    refine rl_y (y_len_v rfl rfl Tryd.s32 rfl) rfl ?_
    refine rl_on rfl rfl ?_
    refine rl_y (y_add rfl rfl rfl (wrap64_id (by omega))) rfl ?_
    refine rl_on rfl rfl ?_
    refine rl_y (y_move rfl rfl) rfl ?_
    refine rl_on rfl rfl ?_
    refine rl_y (y_len_v rfl rfl Tryd.s32 rfl) rfl ?_
    refine rl_on rfl rfl ?_
    refine rl_y (y_add rfl rfl rfl (wrap64_id (by omega))) rfl ?_
    refine rl_on rfl rfl ?_
    refine rl_y (y_move rfl rfl) rfl ?_
    refine rl_on rfl rfl ?_
    refine rl_y (y_len_v rfl rfl Tryd.s29 rfl) rfl ?_
    refine rl_on rfl rfl ?_
    refine rl_y (y_eql rfl rfl rfl) rfl ?_
    rw [decide_eq_true (by omega)]
    refine rl_y (y_pick_t rfl rfl rfl) rfl ?_
    refine rl_y (y_move rfl rfl) rfl ?_
    refine rl_on rfl rfl ?_
    refine rl_do rfl rfl ?_
    refine do_call_f (caps := []) trivial rfl rfl Tryd.c10 rfl (FnP.mono (awake_fn uG4 hT) ?_)
    rintro v u1 hle1 rfl
    refine rl_y (y_pick_t rfl rfl rfl) rfl ?_
    refine rl_y (y_assign rfl rfl) rfl ?_
    refine rl_end (ρ' := [(2, _)]) ⟨rfl, trivial⟩ ?_
    refine q_then ?_
    refine wc_ret ?_
    refine fin1 (.tmp rfl) ?_
    rfl
end Go.Proofs.Ythnboadnehbciaa
