/- Count: the reference's numbers of blocks. -/
import Derived.Test.YthnboadnehbciaaDoorCntH
namespace Go.Proofs.Ythnboadnehbciaa
open Go Go.Eng
set_option linter.unusedSimpArgs false
set_option linter.unusedVariables false
set_option maxRecDepth 4000

structure Cs where
  f : Nat → Nat
  g : Nat → Nat
  out : List DNum
def clampL (lv : Int) : Nat := if lv < 1 then 1 else if 6 < lv then 6 else lv.toNat
theorem clampL_le (lv : Int) : 1 ≤ clampL lv ∧ clampL lv ≤ 6 := by
  unfold clampL
  by_cases h : lv < 1
  · rw [if_pos h]; omega
  · rw [if_neg h]
    by_cases h6 : 6 < lv
    · rw [if_pos h6]; omega
    · rw [if_neg h6]; omega
def kindS (n : Nat) : Bs := if n = 1 then figS else if n = 2 then tabS else equS
/-- a heading among the blocks -/
def headStep (free : Bool) (k lv : Int) (a : DAttr) (line : List Inl) (x : Cs) : Cs :=
  if k = 2 ∧ free = true then ⟨ctrF x.f (clampL lv), x.g, x.out ++ [⟨a.id, secS, valF (ctrF x.f (clampL lv)) (clampL lv), line⟩]⟩ else x
/-- a block of another kind that has a number -/
def kindStep (k : Int) (inf : Bs) (a : DAttr) (kids : List Blk) (x : Cs) : Cs :=
  if 0 < kindN k inf a.id then ⟨x.f, setF x.g (kindN k inf a.id) (x.g (kindN k inf a.id) + 1), x.out ++ [⟨a.id, kindS (kindN k inf a.id), dec (x.g (kindN k inf a.id) + 1), capIf k kids⟩]⟩ else x
def kidsFree (free : Bool) (k : Int) : Bool := decide (free = true ∧ k = 13)
mutual
def numb1 (free : Bool) (x : Cs) : Blk → Cs
  | .mk k lv inf t d ti a line kids => numbB (kidsFree free k) (kindStep k inf a kids (headStep free k lv a line x)) kids
def numbB (free : Bool) (x : Cs) : List Blk → Cs
  | [] => x
  | b :: bs => numbB free (numb1 free x b) bs
end
theorem numbB_append (free : Bool) : ∀ (xs ys : List Blk) (x : Cs), numbB free x (xs ++ ys) = numbB free (numbB free x xs) ys
  | [], ys, x => by simp [numbB]
  | b :: xs, ys, x => by rw [List.cons_append]; simp only [numbB, numbB_append free xs ys]
theorem numbB_take {free : Bool} {x : Cs} {bs : List Blk} {i : Nat} {b : Blk} (h : bs[i]? = some b) : numbB free x (bs.take (i + 1)) = numb1 free (numbB free x (bs.take i)) b := by
  obtain ⟨hlt, rfl⟩ := List.getElem?_eq_some_iff.1 h
  rw [List.take_succ_eq_append_getElem hlt, numbB_append]
  simp [numbB]

/-- how much has been counted at most -/
def CsLe (B : Nat) (x : Cs) : Prop := (∀ j, x.f j ≤ B) ∧ (∀ j, x.g j ≤ B) ∧ x.out.length ≤ 2 * B
theorem CsLe.mono {B C : Nat} {x : Cs} (h : CsLe B x) (hb : B ≤ C) : CsLe C x := ⟨fun j => Nat.le_trans (h.1 j) hb, fun j => Nat.le_trans (h.2.1 j) hb, by have := h.2.2; omega⟩
theorem headStep_le {B : Nat} {free : Bool} {k lv : Int} {a : DAttr} {line : List Inl} {x : Cs} (h : CsLe B x) : CsLe (B + 1) (headStep free k lv a line x) ∧ (headStep free k lv a line x).out.length ≤ 2 * B + 1 := by
  unfold headStep
  split
  · refine ⟨⟨fun j => ?_, fun j => Nat.le_trans (h.2.1 j) (by omega), ?_⟩, ?_⟩
    · have := h.1 j
      show ctrF x.f (clampL lv) j ≤ B + 1
      unfold ctrF
      split
      · omega
      · split
        · omega
        · split <;> omega
    · have := h.2.2; simp; omega
    · have := h.2.2; simp; omega
  · exact ⟨h.mono (by omega), by have := h.2.2; omega⟩
theorem headStep_g {free : Bool} {k lv : Int} {a : DAttr} {line : List Inl} {x : Cs} : (headStep free k lv a line x).g = x.g := by
  unfold headStep; split <;> rfl
theorem kindStep_le {B : Nat} {k : Int} {inf : Bs} {a : DAttr} {kids : List Blk} {x : Cs} (hf : ∀ j, x.f j ≤ B + 1) (hg : ∀ j, x.g j ≤ B) (ho : x.out.length ≤ 2 * B + 1) : CsLe (B + 1) (kindStep k inf a kids x) := by
  unfold kindStep
  split
  · refine ⟨hf, fun j => ?_, by simp; omega⟩
    have h1 := hg j
    have h2 := hg (kindN k inf a.id)
    show setF _ _ _ j ≤ B + 1
    unfold setF
    split <;> omega
  · exact ⟨hf, fun j => Nat.le_trans (hg j) (by omega), by omega⟩
theorem step_le {B : Nat} {free : Bool} {k lv : Int} {inf : Bs} {a : DAttr} {line : List Inl} {kids : List Blk} {x : Cs} (h : CsLe B x) : CsLe (B + 1) (kindStep k inf a kids (headStep free k lv a line x)) := by
  obtain ⟨h1, h2⟩ := headStep_le (free := free) (k := k) (lv := lv) (a := a) (line := line) h
  exact kindStep_le h1.1 (by rw [headStep_g]; exact h.2.1) h2
mutual
theorem numb1_le {free : Bool} : ∀ (b : Blk) (B : Nat) (x : Cs), CsLe B x → CsLe (B + szb b) (numb1 free x b)
  | .mk k lv inf t d ti a line kids, B, x, h => by
    simp only [numb1, szb]
    exact (numbB_le kids (B + 1) _ (step_le h)).mono (by omega)
theorem numbB_le {free : Bool} : ∀ (bs : List Blk) (B : Nat) (x : Cs), CsLe B x → CsLe (B + szB bs) (numbB free x bs)
  | [], B, x, h => by simpa [numbB, szB] using h
  | b :: bs, B, x, h => by
    simp only [numbB, szB]
    exact (numbB_le bs _ _ (numb1_le b B x h)).mono (by omega)
end
abbrev csV (x : Cs) (vo : Value) : List Value := arr 7 x.f ++ (arr 4 x.g ++ [vo])
theorem _root_.Go.Eng.NumsC.snoc {u : View} {xs : List DNum} {cs c : List Value} {x : DNum} (h : NumsC u xs cs) (k : NumC u x c) : NumsC u (xs ++ [x]) (cs ++ c) := h.append (NumsC.one k)
theorem szB_take_get {bs : List Blk} {i : Nat} {b : Blk} (h : bs[i]? = some b) : szB (bs.take i) + szb b ≤ szB bs := by
  obtain ⟨hlt, rfl⟩ := List.getElem?_eq_some_iff.1 h
  have h1 := szB_take_le bs (i + 1)
  rw [List.take_succ_eq_append_getElem hlt, szB_append] at h1
  simp only [szB] at h1
  omega
theorem cut_arr2s {a b i o v : Nat} {f g : Nat → Nat} {r : List Value} (h : i < b) (ho : o = a + i) : cut (arr a f ++ (arr b (setF g i v) ++ r)) o 1 = [.int .i64 (v : Nat)] := by
  rw [cut_arr2 h ho]
  simp [setF]
theorem kindN_le (k : Int) (inf id : Bs) : kindN k inf id ≤ 3 := by
  unfold kindN
  split
  · omega
  · split
    · omega
    · split <;> omega
theorem kindS_cut {n : Nat} (h : 1 ≤ n) (h3 : n ≤ 3) : cut [str [], str figS, str tabS, str equS] (n * 1) 1 = [str (kindS n)] := by
  rcases (show n = 1 ∨ n = 2 ∨ n = 3 by omega) with rfl | rfl | rfl <;> rfl
theorem _root_.Go.Eng.InlS.one {u : View} {v : Value} {l : List Inl} (h : InlS u v l) : Value.oneCell' v = true := by
  obtain ⟨cs, h, _⟩ := h
  exact IsSl.one h
abbrev zero12 : List Value := [.int .i64 0, .int .i64 0, .int .i64 0, .int .i64 0, .int .i64 0, .int .i64 0, .int .i64 0, .int .i64 0, .int .i64 0, .int .i64 0, .int .i64 0, .slice none 0 0]

set_option maxHeartbeats 4000000 in
theorem numbered_fn (n : Nat) : ∀ (v : Value) (bs : List Blk) (free : Bool) (x : Cs) (ao : Option Addr) (co : Nat) (acc : List Value) (B : Nat) (u : View), szB bs ≤ n → B + szB bs ≤ 10000 → CsLe B x → BlkS u v bs → NumsC u x.out acc →
    FnO Tryd.prog 34 [v, .bool free, .agg (csV x (.slice ao x.out.length co)).toArray] u [(none, .rwv (.slice ao x.out.length co) 38 4 x.out.length acc)] fun r u' l' => ∃ ao' co' acc', r = .agg (csV (numbB free x bs) (.slice ao' (numbB free x bs).out.length co')).toArray ∧ l' = [(none, .rwv (.slice ao' (numbB free x bs).out.length co') 38 4 (numbB free x bs).out.length acc')] ∧ NumsC u' (numbB free x bs).out acc' := by
  induction n using Nat.strongRecOn with
  | _ n ih =>
  intro v bs free x ao co acc B u hsz hbig hB ha hn
  have hlx := len_szB bs
  obtain ⟨cs, ⟨ad, cap, rfl, h1⟩, hc1⟩ := ha
  refine FnO.intro [.cell 6 72] Tryd.func34 rfl rfl rfl ?_
  intro w0 D hw0
  refine wc_seq ?_
  refine wc_region ?_
  refine rl_do rfl rfl ?_
  refine do_box trivial rfl (cs := csV x (.slice ao x.out.length co)) rfl rfl rfl rfl ?_
  refine rl_do rfl rfl ?_
  refine do_alloc trivial Tryd.z72 rfl rfl rfl ?_
  refine rl_end (ρ' := [(0, _), (1, _), (5, _), (6, _)]) ⟨rfl, rfl, rfl, rfl, trivial⟩ ?_
  refine q_then ?_
  refine wc_seq ?_
  refine wc_seq ?_
  refine wc_region ?_
  refine rl_y (y_assign rfl rfl) rfl ?_
  refine rl_end (ρ' := [(0, _), (1, _), (5, _), (6, _), (7, _)]) ⟨rfl, rfl, rfl, rfl, rfl, trivial⟩ ?_
  refine q_then ?_
  refine wc_block ?_
  refine wc_loop (fun m ρ σ u' => ∃ i : Nat, i + m = bs.length ∧ VLe u u' ∧ ∃ (ai : Option Addr) (ci : Nat) (li : List Value), σ = [(5, (none, .box (csV (numbB free x (bs.take i)) (.slice ai (numbB free x (bs.take i)).out.length ci)))), (6, (none, .box zero12)), (1000, (none, .rwv (.slice ai (numbB free x (bs.take i)).out.length ci) 38 4 (numbB free x (bs.take i)).out.length li))] ∧ ρ = [(0, .v (.slice ad bs.length cap)), (1, .v (.bool free)), (5, .p 5 0), (6, .p 6 0), (7, .v (.int .i64 i))] ∧ (NumsC u' (numbB free x (bs.take i)).out li)) (bs.length) ?_ ?_
  ·
    refine ⟨[(0, _), (1, _), (5, _), (6, _), (7, _)], [(5, _), (6, _), (1000, _)], ⟨rfl, rfl, rfl, rfl, rfl, trivial⟩, ⟨rfl, rfl, rfl, trivial⟩, 0, by omega, VLe.refl _, ao, co, acc, (by first | rfl | simp), (by first | rfl | (simp only [List.cons.injEq, Prod.mk.injEq, SV.v.injEq, Value.int.injEq, true_and, and_true]; omega) | simp), ?_⟩
    exact hn
  ·
    rintro m ρ σ u' ⟨i, hi2, hle2, ai, ci, li, rfl, rfl, hai⟩
    refine wc_seq ?_
    refine wc_seq ?_
    refine wc_region ?_
    refine rl_y (y_move rfl rfl) rfl ?_
    refine rl_y (y_move rfl rfl) rfl ?_
    refine rl_y (y_len_v rfl rfl Tryd.s23 rfl) rfl ?_
    refine rl_y (y_lss rfl rfl rfl) rfl ?_
    refine rl_end (ρ' := [(0, _), (1, _), (5, _), (6, _), (7, _), (14, _)]) ⟨rfl, rfl, rfl, rfl, rfl, rfl, trivial⟩ ?_
    refine q_then ?_
    refine wc_cond rfl (fun hb2 => ?_) (fun hb2 => ?_)
    ·
      refine wc_skip ?_
      refine q_then ?_
      refine wc_seq ?_
      refine wc_block ?_
      refine wc_seq ?_
      have hlt : i < bs.length := by have := of_decide_eq_true hb2; omega
      have h1 := h1.mono hle2
      obtain ⟨k, lv, inf, t, d, ti, a, line, kids, vc, vp, vl, vk, hg, hcut1, s1, s2, s3, s4, hok⟩ := (hc1.mono hle2).at hlt
      have oneAll := ((hc1.mono hle2).get i _ hg).one
      rw [hcut1] at oneAll
      have hX := numbB_le (free := free) (bs.take i) B x hB
      have hst := numbB_take (free := free) (x := x) hg
      have htg := szB_take_get hg
      have hlk := len_szB kids
      simp only [szb] at htg
      rw [numb1] at hst
      generalize numbB free x (bs.take i) = X at hX hst hai ⊢
      have hcl := clampL_le lv
      have hXf := fun j => hX.1 j
      have hXg := fun j => hX.2.1 j
      have hXo := hX.2.2
      have s3' := s3
      obtain ⟨lls, ⟨lad, lcap, rfl, hls⟩, hlc⟩ := s3'
      refine wc_region ?_
      refine rl_y (y_move rfl rfl) rfl ?_
      refine rl_y (y_move rfl rfl) rfl ?_
      refine rl_y (y_index_e rfl Tryd.s23 rfl rfl (by assumption) (by first | rfl | omega) (by omega)) rfl ?_
      refine rl_y (y_load_el rfl Tryd.k42 rfl (by assumption) (by omega) (by assumption) (vs := [_, _, _, _, _, _, _, _, _, _, _]) rfl rfl rfl rfl) rfl ?_
      refine rl_do rfl rfl ?_
      refine do_alloc trivial Tryd.z42 rfl rfl rfl ?_
      refine rl_do rfl rfl ?_
      refine do_store_p trivial rfl Tryd.k42 rfl rfl rfl (vs := [_, _, _, _, _, _, _, _, _, _, _]) rfl rfl (by first | rfl | exact oneAll | exact oneAll2 | simp [Value.oneCell', str]) (Nat.le_of_ble_eq_true rfl) rfl ?_
      refine rl_end (ρ' := [(0, _), (1, _), (5, _), (6, _), (7, _), (8, _)]) ⟨rfl, rfl, rfl, rfl, rfl, rfl, trivial⟩ ?_
      refine q_then ?_
      refine wc_cut (fun ρ σ uc13 => ∃ (a3 : Option Addr) (c3 : Nat) (l3 : List Value), VLe u' uc13 ∧ σ = [(5, (none, .box (csV (headStep free k lv a line X) (.slice a3 (headStep free k lv a line X).out.length c3)))), (6, (none, .box zero12)), (8, (none, .box (blkV k lv inf t d ti a.id vc vp (.slice lad line.length lcap) vk))), (1000, (none, .rwv (.slice a3 (headStep free k lv a line X).out.length c3) 38 4 (headStep free k lv a line X).out.length l3))] ∧ ρ = [(0, .v (.slice ad bs.length cap)), (1, .v (.bool free)), (5, .p 5 0), (6, .p 6 0), (7, .v (.int .i64 i)), (8, .p 8 0)] ∧ (u' = uc13 ∧ NumsC u' (headStep free k lv a line X).out l3)) ?_ ?_
      ·
        refine wc_seq ?_
        refine wc_cutB 26 (decide (k = 2 ∧ free = true)) (ρk := [(0, _), (1, _), (5, _), (6, _), (7, _), (8, _)]) ⟨rfl, rfl, rfl, rfl, rfl, rfl, trivial⟩ ?_ ?_
        ·
          refine wc_region ?_
          refine rl_y (y_field_p rfl Tryd.f42' rfl (by decide) rfl) rfl ?_
          refine rl_y (y_load_p rfl Tryd.k3 rfl rfl rfl (vs := [_]) rfl rfl rfl) rfl ?_
          refine rl_y (y_eql rfl rfl rfl) rfl ?_
          refine rl_y (y_move rfl rfl) rfl ?_
          rcases Bool.eq_false_or_eq_true (decide (k = 2)) with hg5_3 | hg5_3
          ·
            simp only [hg5_3]
            refine rl_on rfl rfl ?_
            refine rl_y (y_move rfl rfl) rfl ?_
            refine rl_y (y_pick_t rfl rfl rfl) rfl ?_
            exact cutB_end rfl ⟨rfl, rfl, rfl, rfl, rfl, rfl, trivial⟩ (by simp_all)
          ·
            simp only [hg5_3]
            refine rl_off rfl rfl rfl rfl ?_
            refine rl_y (y_pick_f rfl rfl rfl) rfl ?_
            exact cutB_end rfl ⟨rfl, rfl, rfl, rfl, rfl, rfl, trivial⟩ (by simp_all)
        refine q_then ?_
        refine wc_cond rfl (fun hb5 => ?_) (fun hb5 => ?_)
        ·
          have hH : headStep free k lv a line X = ⟨ctrF X.f (clampL lv), X.g, X.out ++ [⟨a.id, secS, valF (ctrF X.f (clampL lv)) (clampL lv), line⟩]⟩ := if_pos (of_decide_eq_true hb5)
          refine wc_seq ?_
          refine wc_region ?_
          refine rl_y (y_field_p rfl Tryd.f42' rfl (by decide) rfl) rfl ?_
          refine rl_y (y_load_p rfl Tryd.k3 rfl rfl rfl (vs := [_]) rfl rfl rfl) rfl ?_
          refine rl_y (y_assign rfl rfl) rfl ?_
          refine rl_end (ρ' := [(0, _), (1, _), (5, _), (6, _), (7, _), (8, _), (9, _)]) ⟨rfl, rfl, rfl, rfl, rfl, rfl, rfl, trivial⟩ ?_
          refine q_then ?_
          refine wc_seq ?_
          refine wc_seq ?_
          refine wc_region ?_
          refine rl_y (y_move rfl rfl) rfl ?_
          refine rl_y (y_lss rfl rfl rfl) rfl ?_
          refine rl_end (ρ' := [(0, _), (1, _), (5, _), (6, _), (7, _), (8, _), (9, _), (30, _)]) ⟨rfl, rfl, rfl, rfl, rfl, rfl, rfl, rfl, trivial⟩ ?_
          refine q_then ?_
          refine wc_cond rfl (fun hb7 => ?_) (fun hb7 => ?_)
          ·
            have h7 := of_decide_eq_true hb7
            refine wc_region ?_
            refine rl_y (y_assign rfl rfl) rfl ?_
            refine rl_end (ρ' := [(0, _), (1, _), (5, _), (6, _), (7, _), (8, _), (9, _)]) ⟨rfl, rfl, rfl, rfl, rfl, rfl, rfl, trivial⟩ ?_
            refine q_then ?_
            refine wc_cut (fun ρ σ uc11 => VLe u' uc11 ∧ σ = [(5, (none, .box (csV X (.slice ai X.out.length ci)))), (6, (none, .box zero12)), (8, (none, .box (blkV k lv inf t d ti a.id vc vp (.slice lad line.length lcap) vk))), (1000, (none, .rwv (.slice ai X.out.length ci) 38 4 X.out.length li))] ∧ ρ = [(0, .v (.slice ad bs.length cap)), (1, .v (.bool free)), (5, .p 5 0), (6, .p 6 0), (7, .v (.int .i64 i)), (8, .p 8 0), (9, .v (.int .i64 (clampL lv : Nat)))] ∧ (u' = uc11)) ?_ ?_
            ·
              refine wc_seq ?_
              refine wc_region ?_
              refine rl_y (y_move rfl rfl) rfl ?_
              refine rl_y (y_gtr rfl rfl rfl) rfl ?_
              refine rl_end (ρ' := [(0, _), (1, _), (5, _), (6, _), (7, _), (8, _), (9, _), (32, _)]) ⟨rfl, rfl, rfl, rfl, rfl, rfl, rfl, rfl, trivial⟩ ?_
              refine q_then ?_
              refine wc_cond rfl (fun hb9 => ?_) (fun hb9 => ?_)
              ·
                have h9 := of_decide_eq_true hb9
                refine wc_region ?_
                refine rl_y (y_assign rfl rfl) rfl ?_
                refine rl_end (ρ' := [(0, _), (1, _), (5, _), (6, _), (7, _), (8, _), (9, _)]) ⟨rfl, rfl, rfl, rfl, rfl, rfl, rfl, trivial⟩ ?_
                refine q_thenK ?_
                refine ⟨[(0, _), (1, _), (5, _), (6, _), (7, _), (8, _), (9, _)], [(5, _), (6, _), (8, _), (1000, _)], ⟨rfl, rfl, rfl, rfl, rfl, rfl, rfl, trivial⟩, ⟨rfl, rfl, rfl, rfl, trivial⟩, (VLe.refl _), rfl, (by simp only [List.cons.injEq, Prod.mk.injEq, SV.v.injEq, Value.int.injEq, true_and, and_true]; unfold clampL; split <;> (try split) <;> omega), ?_⟩
                rfl
              ·
                have h9 := of_decide_eq_false hb9
                refine wc_skip ?_
                refine q_thenK ?_
                refine ⟨[(0, _), (1, _), (5, _), (6, _), (7, _), (8, _), (9, _)], [(5, _), (6, _), (8, _), (1000, _)], ⟨rfl, rfl, rfl, rfl, rfl, rfl, rfl, trivial⟩, ⟨rfl, rfl, rfl, rfl, trivial⟩, (VLe.refl _), rfl, (by simp only [List.cons.injEq, Prod.mk.injEq, SV.v.injEq, Value.int.injEq, true_and, and_true]; unfold clampL; split <;> (try split) <;> omega), ?_⟩
                rfl
            ·
              rintro ρ σ uc11 ⟨hlc11, rfl, rfl, rfl⟩
              refine wc_seq ?_
              refine wc_region ?_
              refine rl_y (y_field_p rfl Tryd.f72' rfl (by decide) rfl) rfl ?_
              refine rl_y (y_load_p rfl Tryd.k69 rfl rfl rfl (vs := arr 7 X.f) rfl rfl rfl) rfl ?_
              refine rl_y (y_move rfl rfl) rfl ?_
              refine rl_do rfl rfl ?_
              refine do_call_f (caps := []) trivial rfl rfl Tryd.c48 rfl (FnP.mono (counters7_fn X.f (clampL lv) hcl.1 hcl.2 (fun j ↦ by have := hXf j; omega) u') ?_)
              rintro v u1 hle1 rfl
              refine rl_y (y_field_p rfl Tryd.f72' rfl (by decide) rfl) rfl ?_
              refine rl_do rfl rfl ?_
              refine do_store_p trivial rfl Tryd.k69 rfl rfl rfl (vs := arr 7 (ctrF X.f (clampL lv))) rfl rfl rfl (Nat.le_of_ble_eq_true rfl) (cs' := csV ⟨ctrF X.f (clampL lv), X.g, X.out⟩ (.slice ai X.out.length ci)) rfl ?_
              refine rl_end (ρ' := [(0, _), (1, _), (5, _), (6, _), (7, _), (8, _), (9, _)]) ⟨rfl, rfl, rfl, rfl, rfl, rfl, rfl, trivial⟩ ?_
              refine q_then ?_
              refine wc_draw Tryd.mixed rfl [(8, _)] ⟨rfl, trivial⟩ ?_
              refine ra_y (i := 0) rfl (by kernel_rfl) (by kernel_rfl) (by kernel_rfl) (np_then (np_block (np_then (np_then (np_block (np_then (np_finO))))))) (y_field_p rfl Tryd.f72' rfl (by decide) rfl) rfl ?_
              refine ra_y (i := 2) rfl (by kernel_rfl) (by kernel_rfl) (by kernel_rfl) (np_then (np_block (np_then (np_then (np_block (np_then (np_finO))))))) (y_field_p rfl Tryd.f42' rfl (by decide) rfl) rfl ?_
              refine ra_y (i := 3) rfl (by kernel_rfl) (by kernel_rfl) (by kernel_rfl) (np_then (np_block (np_then (np_then (np_block (np_then (np_finO))))))) (y_field_p rfl Tryd.f40' rfl (by decide) rfl) rfl ?_
              refine ra_y (i := 4) rfl (by kernel_rfl) (by kernel_rfl) (by kernel_rfl) (np_then (np_block (np_then (np_then (np_block (np_then (np_finO))))))) (y_load_p rfl Tryd.k9 rfl rfl rfl (vs := [_]) rfl rfl rfl) rfl ?_
              refine ra_y (i := 5) rfl (by kernel_rfl) (by kernel_rfl) (by kernel_rfl) (np_then (np_block (np_then (np_then (np_block (np_then (np_finO))))))) (y_field_p rfl Tryd.f72' rfl (by decide) rfl) rfl ?_
              refine ra_y (i := 7) rfl (by kernel_rfl) (by kernel_rfl) (by kernel_rfl) (np_then (np_block (np_then (np_then (np_block (np_then (np_finO))))))) (y_move rfl rfl) rfl ?_
              refine ra_y (i := 9) rfl (by kernel_rfl) (by kernel_rfl) (by kernel_rfl) (np_then (np_block (np_then (np_then (np_block (np_then (np_finO))))))) (y_field_p rfl Tryd.f42' rfl (by decide) rfl) rfl ?_
              refine ra_y (i := 10) rfl (by kernel_rfl) (by kernel_rfl) (by kernel_rfl) (np_then (np_block (np_then (np_then (np_block (np_then (np_finO))))))) (y_load_p rfl Tryd.k36 rfl rfl rfl (vs := [_]) rfl rfl rfl) rfl ?_
              refine ra_all (is := [1, 6]) (by kernel_rfl) rfl ?_
              refine raall_cons rfl rfl ?_ ?_
              ·
                refine do_y (y_load_p rfl Tryd.k29 rfl rfl rfl (vs := [_]) rfl rfl rfl) rfl ?_
                refine ra_do (i := 6) rfl rfl (by kernel_rfl) ?_
                refine do_y (y_load_p rfl Tryd.k69 rfl rfl rfl (vs := arr 7 (ctrF X.f (clampL lv))) rfl rfl rfl) rfl ?_
                refine ra_do (i := 8) rfl rfl (by kernel_rfl) ?_
                refine do_call_f (caps := []) ⟨rfl, trivial⟩ rfl rfl Tryd.c49 rfl (FnP.mono (value_fn (ctrF X.f (clampL lv)) (clampL lv) hcl.2 (fun j ↦ by have := (headStep_le (free := free) (k := k) (lv := lv) (a := a) (line := line) hX).1.1 j; rw [hH] at this; exact Nat.le_trans this (by omega)) u') ?_)
                rintro v u1 hle1 rfl
                refine ra_y (i := 11) rfl (by kernel_rfl) (by kernel_rfl) (by kernel_rfl) (np_then (np_block (np_then (np_then (np_block (np_then (np_finO))))))) (y_build rfl Tryd.f38' Tryd.z38 (ps := [(_, _), (_, _), (_, _), (_, _)]) rfl (vs := [_, _, _, _]) rfl) rfl ?_
                refine ra_do (i := 12) rfl rfl (by kernel_rfl) ?_
                refine do_buildSlice ⟨rfl, trivial⟩ Tryd.s29 Tryd.z38 (ps := [(_, _)]) rfl (xs := [_, _, _, _]) rfl rfl rfl rfl rfl rfl rfl ?_
                refine ra_do (i := 13) rfl rfl (by kernel_rfl) ?_
                refine do_append_w_s 1000 ⟨rfl, trivial⟩ rfl rfl Tryd.s29 Tryd.z38 rfl rfl rfl rfl rfl rfl (by simp [Value.oneCell', str]) (by omega) (by omega) rfl rfl ?_
                intro a2 c2
                refine ra_y (i := 14) rfl (by kernel_rfl) (by kernel_rfl) (by kernel_rfl) (np_then (np_block (np_then (np_then (np_block (np_then (np_finO))))))) (y_field_p rfl Tryd.f72' rfl (by decide) rfl) rfl ?_
                refine ra_do (i := 15) rfl rfl (by kernel_rfl) ?_
                refine do_store_p ⟨rfl, trivial⟩ rfl Tryd.k29 rfl rfl rfl (vs := [_]) rfl rfl (by first | rfl | exact oneAll | exact oneAll2 | simp [Value.oneCell', str]) (Nat.le_of_ble_eq_true rfl) rfl ?_
                refine ra_end (by kernel_rfl) (ρ' := [(0, _), (1, _), (5, _), (6, _), (7, _), (8, _)]) ⟨rfl, rfl, rfl, rfl, rfl, rfl, trivial⟩ ?_
                refine q_thenK ?_
                first
                  | (refine ⟨[(0, _), (1, _), (5, _), (6, _), (7, _), (8, _)], [(5, _), (6, _), (8, _), (1000, _)], ⟨rfl, rfl, rfl, rfl, rfl, rfl, trivial⟩, ⟨rfl, rfl, rfl, rfl, trivial⟩, ai, ci, li, (VLe.refl _), (by rw [hH]; first | done | rfl | (simp only [List.length_append]; rfl)), rfl, ?_⟩
                     exact ⟨rfl, by rw [hH]; exact hai⟩)
                  | (refine ⟨[(0, _), (1, _), (5, _), (6, _), (7, _), (8, _)], [(5, _), (6, _), (8, _), (1000, _)], ⟨rfl, rfl, rfl, rfl, rfl, rfl, trivial⟩, ⟨rfl, rfl, rfl, rfl, trivial⟩, a2, c2, li ++ [str a.id, str secS, str (valF (ctrF X.f (clampL lv)) (clampL lv)), .slice lad line.length lcap], (VLe.refl _), (by rw [hH]; first | done | rfl | (simp only [List.length_append]; rfl)), rfl, ?_⟩
                     exact ⟨rfl, by rw [hH]; exact hai.snoc ⟨_, rfl, s3⟩⟩)
              refine raall_cons rfl rfl ?_ ?_
              ·
                refine do_y (y_load_p rfl Tryd.k69 rfl rfl rfl (vs := arr 7 (ctrF X.f (clampL lv))) rfl rfl rfl) rfl ?_
                refine ra_all (is := [1, 8]) (by kernel_rfl) rfl ?_
                refine raall_cons rfl rfl ?_ ?_
                ·
                  refine do_y (y_load_p rfl Tryd.k29 rfl rfl rfl (vs := [_]) rfl rfl rfl) rfl ?_
                  refine ra_do (i := 8) rfl rfl (by kernel_rfl) ?_
                  refine do_call_f (caps := []) ⟨rfl, trivial⟩ rfl rfl Tryd.c49 rfl (FnP.mono (value_fn (ctrF X.f (clampL lv)) (clampL lv) hcl.2 (fun j ↦ by have := (headStep_le (free := free) (k := k) (lv := lv) (a := a) (line := line) hX).1.1 j; rw [hH] at this; exact Nat.le_trans this (by omega)) u') ?_)
                  rintro v u1 hle1 rfl
                  refine ra_y (i := 11) rfl (by kernel_rfl) (by kernel_rfl) (by kernel_rfl) (np_then (np_block (np_then (np_then (np_block (np_then (np_finO))))))) (y_build rfl Tryd.f38' Tryd.z38 (ps := [(_, _), (_, _), (_, _), (_, _)]) rfl (vs := [_, _, _, _]) rfl) rfl ?_
                  refine ra_do (i := 12) rfl rfl (by kernel_rfl) ?_
                  refine do_buildSlice ⟨rfl, trivial⟩ Tryd.s29 Tryd.z38 (ps := [(_, _)]) rfl (xs := [_, _, _, _]) rfl rfl rfl rfl rfl rfl rfl ?_
                  refine ra_do (i := 13) rfl rfl (by kernel_rfl) ?_
                  refine do_append_w_s 1000 ⟨rfl, trivial⟩ rfl rfl Tryd.s29 Tryd.z38 rfl rfl rfl rfl rfl rfl (by simp [Value.oneCell', str]) (by omega) (by omega) rfl rfl ?_
                  intro a2 c2
                  refine ra_y (i := 14) rfl (by kernel_rfl) (by kernel_rfl) (by kernel_rfl) (np_then (np_block (np_then (np_then (np_block (np_then (np_finO))))))) (y_field_p rfl Tryd.f72' rfl (by decide) rfl) rfl ?_
                  refine ra_do (i := 15) rfl rfl (by kernel_rfl) ?_
                  refine do_store_p ⟨rfl, trivial⟩ rfl Tryd.k29 rfl rfl rfl (vs := [_]) rfl rfl (by first | rfl | exact oneAll | exact oneAll2 | simp [Value.oneCell', str]) (Nat.le_of_ble_eq_true rfl) rfl ?_
                  refine ra_end (by kernel_rfl) (ρ' := [(0, _), (1, _), (5, _), (6, _), (7, _), (8, _)]) ⟨rfl, rfl, rfl, rfl, rfl, rfl, trivial⟩ ?_
                  refine q_thenK ?_
                  first
                    | (refine ⟨[(0, _), (1, _), (5, _), (6, _), (7, _), (8, _)], [(5, _), (6, _), (8, _), (1000, _)], ⟨rfl, rfl, rfl, rfl, rfl, rfl, trivial⟩, ⟨rfl, rfl, rfl, rfl, trivial⟩, ai, ci, li, (VLe.refl _), (by rw [hH]; first | done | rfl | (simp only [List.length_append]; rfl)), rfl, ?_⟩
                       exact ⟨rfl, by rw [hH]; exact hai⟩)
                    | (refine ⟨[(0, _), (1, _), (5, _), (6, _), (7, _), (8, _)], [(5, _), (6, _), (8, _), (1000, _)], ⟨rfl, rfl, rfl, rfl, rfl, rfl, trivial⟩, ⟨rfl, rfl, rfl, rfl, trivial⟩, a2, c2, li ++ [str a.id, str secS, str (valF (ctrF X.f (clampL lv)) (clampL lv)), .slice lad line.length lcap], (VLe.refl _), (by rw [hH]; first | done | rfl | (simp only [List.length_append]; rfl)), rfl, ?_⟩
                       exact ⟨rfl, by rw [hH]; exact hai.snoc ⟨_, rfl, s3⟩⟩)
                refine raall_cons rfl rfl ?_ ?_
                ·
                  refine do_call_f (caps := []) ⟨rfl, trivial⟩ rfl rfl Tryd.c49 rfl (FnP.mono (value_fn (ctrF X.f (clampL lv)) (clampL lv) hcl.2 (fun j ↦ by have := (headStep_le (free := free) (k := k) (lv := lv) (a := a) (line := line) hX).1.1 j; rw [hH] at this; exact Nat.le_trans this (by omega)) u') ?_)
                  rintro v u1 hle1 rfl
                  refine ra_y (i := 11) rfl (by kernel_rfl) (by kernel_rfl) (by kernel_rfl) (np_then (np_block (np_then (np_then (np_block (np_then (np_finO))))))) (y_build rfl Tryd.f38' Tryd.z38 (ps := [(_, _), (_, _), (_, _), (_, _)]) rfl (vs := [_, _, _, _]) rfl) rfl ?_
                  refine ra_all (is := [1, 12]) (by kernel_rfl) rfl ?_
                  refine raall_cons rfl rfl ?_ ?_
                  ·
                    refine do_y (y_load_p rfl Tryd.k29 rfl rfl rfl (vs := [_]) rfl rfl rfl) rfl ?_
                    refine ra_do (i := 12) rfl rfl (by kernel_rfl) ?_
                    refine do_buildSlice ⟨rfl, trivial⟩ Tryd.s29 Tryd.z38 (ps := [(_, _)]) rfl (xs := [_, _, _, _]) rfl rfl rfl rfl rfl rfl rfl ?_
                    refine ra_do (i := 13) rfl rfl (by kernel_rfl) ?_
                    refine do_append_w_s 1000 ⟨rfl, trivial⟩ rfl rfl Tryd.s29 Tryd.z38 rfl rfl rfl rfl rfl rfl (by simp [Value.oneCell', str]) (by omega) (by omega) rfl rfl ?_
                    intro a2 c2
                    refine ra_y (i := 14) rfl (by kernel_rfl) (by kernel_rfl) (by kernel_rfl) (np_then (np_block (np_then (np_then (np_block (np_then (np_finO))))))) (y_field_p rfl Tryd.f72' rfl (by decide) rfl) rfl ?_
                    refine ra_do (i := 15) rfl rfl (by kernel_rfl) ?_
                    refine do_store_p ⟨rfl, trivial⟩ rfl Tryd.k29 rfl rfl rfl (vs := [_]) rfl rfl (by first | rfl | exact oneAll | exact oneAll2 | simp [Value.oneCell', str]) (Nat.le_of_ble_eq_true rfl) rfl ?_
                    refine ra_end (by kernel_rfl) (ρ' := [(0, _), (1, _), (5, _), (6, _), (7, _), (8, _)]) ⟨rfl, rfl, rfl, rfl, rfl, rfl, trivial⟩ ?_
                    refine q_thenK ?_
                    first
                      | (refine ⟨[(0, _), (1, _), (5, _), (6, _), (7, _), (8, _)], [(5, _), (6, _), (8, _), (1000, _)], ⟨rfl, rfl, rfl, rfl, rfl, rfl, trivial⟩, ⟨rfl, rfl, rfl, rfl, trivial⟩, ai, ci, li, (VLe.refl _), (by rw [hH]; first | done | rfl | (simp only [List.length_append]; rfl)), rfl, ?_⟩
                         exact ⟨rfl, by rw [hH]; exact hai⟩)
                      | (refine ⟨[(0, _), (1, _), (5, _), (6, _), (7, _), (8, _)], [(5, _), (6, _), (8, _), (1000, _)], ⟨rfl, rfl, rfl, rfl, rfl, rfl, trivial⟩, ⟨rfl, rfl, rfl, rfl, trivial⟩, a2, c2, li ++ [str a.id, str secS, str (valF (ctrF X.f (clampL lv)) (clampL lv)), .slice lad line.length lcap], (VLe.refl _), (by rw [hH]; first | done | rfl | (simp only [List.length_append]; rfl)), rfl, ?_⟩
                         exact ⟨rfl, by rw [hH]; exact hai.snoc ⟨_, rfl, s3⟩⟩)
                  refine raall_cons rfl rfl ?_ ?_
                  ·
                    refine do_buildSlice ⟨rfl, trivial⟩ Tryd.s29 Tryd.z38 (ps := [(_, _)]) rfl (xs := [_, _, _, _]) rfl rfl rfl rfl rfl rfl rfl ?_
                    refine ra_do (i := 1) rfl rfl (by kernel_rfl) ?_
                    refine do_y (y_load_p rfl Tryd.k29 rfl rfl rfl (vs := [_]) rfl rfl rfl) rfl ?_
                    refine ra_do (i := 13) rfl rfl (by kernel_rfl) ?_
                    refine do_append_w_s 1000 ⟨rfl, trivial⟩ rfl rfl Tryd.s29 Tryd.z38 rfl rfl rfl rfl rfl rfl (by simp [Value.oneCell', str]) (by omega) (by omega) rfl rfl ?_
                    intro a2 c2
                    refine ra_y (i := 14) rfl (by kernel_rfl) (by kernel_rfl) (by kernel_rfl) (np_then (np_block (np_then (np_then (np_block (np_then (np_finO))))))) (y_field_p rfl Tryd.f72' rfl (by decide) rfl) rfl ?_
                    refine ra_do (i := 15) rfl rfl (by kernel_rfl) ?_
                    refine do_store_p ⟨rfl, trivial⟩ rfl Tryd.k29 rfl rfl rfl (vs := [_]) rfl rfl (by first | rfl | exact oneAll | exact oneAll2 | simp [Value.oneCell', str]) (Nat.le_of_ble_eq_true rfl) rfl ?_
                    refine ra_end (by kernel_rfl) (ρ' := [(0, _), (1, _), (5, _), (6, _), (7, _), (8, _)]) ⟨rfl, rfl, rfl, rfl, rfl, rfl, trivial⟩ ?_
                    refine q_thenK ?_
                    first
                      | (refine ⟨[(0, _), (1, _), (5, _), (6, _), (7, _), (8, _)], [(5, _), (6, _), (8, _), (1000, _)], ⟨rfl, rfl, rfl, rfl, rfl, rfl, trivial⟩, ⟨rfl, rfl, rfl, rfl, trivial⟩, ai, ci, li, (VLe.refl _), (by rw [hH]; first | done | rfl | (simp only [List.length_append]; rfl)), rfl, ?_⟩
                         exact ⟨rfl, by rw [hH]; exact hai⟩)
                      | (refine ⟨[(0, _), (1, _), (5, _), (6, _), (7, _), (8, _)], [(5, _), (6, _), (8, _), (1000, _)], ⟨rfl, rfl, rfl, rfl, rfl, rfl, trivial⟩, ⟨rfl, rfl, rfl, rfl, trivial⟩, a2, c2, li ++ [str a.id, str secS, str (valF (ctrF X.f (clampL lv)) (clampL lv)), .slice lad line.length lcap], (VLe.refl _), (by rw [hH]; first | done | rfl | (simp only [List.length_append]; rfl)), rfl, ?_⟩
                         exact ⟨rfl, by rw [hH]; exact hai.snoc ⟨_, rfl, s3⟩⟩)
                  exact raall_nil
                exact raall_nil
              exact raall_nil
          ·
            have h7 := of_decide_eq_false hb7
            refine wc_skip ?_
            refine q_then ?_
            refine wc_cut (fun ρ σ uc11 => VLe u' uc11 ∧ σ = [(5, (none, .box (csV X (.slice ai X.out.length ci)))), (6, (none, .box zero12)), (8, (none, .box (blkV k lv inf t d ti a.id vc vp (.slice lad line.length lcap) vk))), (1000, (none, .rwv (.slice ai X.out.length ci) 38 4 X.out.length li))] ∧ ρ = [(0, .v (.slice ad bs.length cap)), (1, .v (.bool free)), (5, .p 5 0), (6, .p 6 0), (7, .v (.int .i64 i)), (8, .p 8 0), (9, .v (.int .i64 (clampL lv : Nat)))] ∧ (u' = uc11)) ?_ ?_
            ·
              refine wc_seq ?_
              refine wc_region ?_
              refine rl_y (y_move rfl rfl) rfl ?_
              refine rl_y (y_gtr rfl rfl rfl) rfl ?_
              refine rl_end (ρ' := [(0, _), (1, _), (5, _), (6, _), (7, _), (8, _), (9, _), (32, _)]) ⟨rfl, rfl, rfl, rfl, rfl, rfl, rfl, rfl, trivial⟩ ?_
              refine q_then ?_
              refine wc_cond rfl (fun hb9 => ?_) (fun hb9 => ?_)
              ·
                have h9 := of_decide_eq_true hb9
                refine wc_region ?_
                refine rl_y (y_assign rfl rfl) rfl ?_
                refine rl_end (ρ' := [(0, _), (1, _), (5, _), (6, _), (7, _), (8, _), (9, _)]) ⟨rfl, rfl, rfl, rfl, rfl, rfl, rfl, trivial⟩ ?_
                refine q_thenK ?_
                refine ⟨[(0, _), (1, _), (5, _), (6, _), (7, _), (8, _), (9, _)], [(5, _), (6, _), (8, _), (1000, _)], ⟨rfl, rfl, rfl, rfl, rfl, rfl, rfl, trivial⟩, ⟨rfl, rfl, rfl, rfl, trivial⟩, (VLe.refl _), rfl, (by simp only [List.cons.injEq, Prod.mk.injEq, SV.v.injEq, Value.int.injEq, true_and, and_true]; unfold clampL; split <;> (try split) <;> omega), ?_⟩
                rfl
              ·
                have h9 := of_decide_eq_false hb9
                refine wc_skip ?_
                refine q_thenK ?_
                refine ⟨[(0, _), (1, _), (5, _), (6, _), (7, _), (8, _), (9, _)], [(5, _), (6, _), (8, _), (1000, _)], ⟨rfl, rfl, rfl, rfl, rfl, rfl, rfl, trivial⟩, ⟨rfl, rfl, rfl, rfl, trivial⟩, (VLe.refl _), rfl, (by simp only [List.cons.injEq, Prod.mk.injEq, SV.v.injEq, Value.int.injEq, true_and, and_true]; unfold clampL; split <;> (try split) <;> omega), ?_⟩
                rfl
            ·
              rintro ρ σ uc11 ⟨hlc11, rfl, rfl, rfl⟩
              refine wc_seq ?_
              refine wc_region ?_
              refine rl_y (y_field_p rfl Tryd.f72' rfl (by decide) rfl) rfl ?_
              refine rl_y (y_load_p rfl Tryd.k69 rfl rfl rfl (vs := arr 7 X.f) rfl rfl rfl) rfl ?_
              refine rl_y (y_move rfl rfl) rfl ?_
              refine rl_do rfl rfl ?_
              refine do_call_f (caps := []) trivial rfl rfl Tryd.c48 rfl (FnP.mono (counters7_fn X.f (clampL lv) hcl.1 hcl.2 (fun j ↦ by have := hXf j; omega) u') ?_)
              rintro v u1 hle1 rfl
              refine rl_y (y_field_p rfl Tryd.f72' rfl (by decide) rfl) rfl ?_
              refine rl_do rfl rfl ?_
              refine do_store_p trivial rfl Tryd.k69 rfl rfl rfl (vs := arr 7 (ctrF X.f (clampL lv))) rfl rfl rfl (Nat.le_of_ble_eq_true rfl) (cs' := csV ⟨ctrF X.f (clampL lv), X.g, X.out⟩ (.slice ai X.out.length ci)) rfl ?_
              refine rl_end (ρ' := [(0, _), (1, _), (5, _), (6, _), (7, _), (8, _), (9, _)]) ⟨rfl, rfl, rfl, rfl, rfl, rfl, rfl, trivial⟩ ?_
              refine q_then ?_
              refine wc_draw Tryd.mixed rfl [(8, _)] ⟨rfl, trivial⟩ ?_
              refine ra_y (i := 0) rfl (by kernel_rfl) (by kernel_rfl) (by kernel_rfl) (np_then (np_block (np_then (np_then (np_block (np_then (np_finO))))))) (y_field_p rfl Tryd.f72' rfl (by decide) rfl) rfl ?_
              refine ra_y (i := 2) rfl (by kernel_rfl) (by kernel_rfl) (by kernel_rfl) (np_then (np_block (np_then (np_then (np_block (np_then (np_finO))))))) (y_field_p rfl Tryd.f42' rfl (by decide) rfl) rfl ?_
              refine ra_y (i := 3) rfl (by kernel_rfl) (by kernel_rfl) (by kernel_rfl) (np_then (np_block (np_then (np_then (np_block (np_then (np_finO))))))) (y_field_p rfl Tryd.f40' rfl (by decide) rfl) rfl ?_
              refine ra_y (i := 4) rfl (by kernel_rfl) (by kernel_rfl) (by kernel_rfl) (np_then (np_block (np_then (np_then (np_block (np_then (np_finO))))))) (y_load_p rfl Tryd.k9 rfl rfl rfl (vs := [_]) rfl rfl rfl) rfl ?_
              refine ra_y (i := 5) rfl (by kernel_rfl) (by kernel_rfl) (by kernel_rfl) (np_then (np_block (np_then (np_then (np_block (np_then (np_finO))))))) (y_field_p rfl Tryd.f72' rfl (by decide) rfl) rfl ?_
              refine ra_y (i := 7) rfl (by kernel_rfl) (by kernel_rfl) (by kernel_rfl) (np_then (np_block (np_then (np_then (np_block (np_then (np_finO))))))) (y_move rfl rfl) rfl ?_
              refine ra_y (i := 9) rfl (by kernel_rfl) (by kernel_rfl) (by kernel_rfl) (np_then (np_block (np_then (np_then (np_block (np_then (np_finO))))))) (y_field_p rfl Tryd.f42' rfl (by decide) rfl) rfl ?_
              refine ra_y (i := 10) rfl (by kernel_rfl) (by kernel_rfl) (by kernel_rfl) (np_then (np_block (np_then (np_then (np_block (np_then (np_finO))))))) (y_load_p rfl Tryd.k36 rfl rfl rfl (vs := [_]) rfl rfl rfl) rfl ?_
              refine ra_all (is := [1, 6]) (by kernel_rfl) rfl ?_
              refine raall_cons rfl rfl ?_ ?_
              ·
                refine do_y (y_load_p rfl Tryd.k29 rfl rfl rfl (vs := [_]) rfl rfl rfl) rfl ?_
                refine ra_do (i := 6) rfl rfl (by kernel_rfl) ?_
                refine do_y (y_load_p rfl Tryd.k69 rfl rfl rfl (vs := arr 7 (ctrF X.f (clampL lv))) rfl rfl rfl) rfl ?_
                refine ra_do (i := 8) rfl rfl (by kernel_rfl) ?_
                refine do_call_f (caps := []) ⟨rfl, trivial⟩ rfl rfl Tryd.c49 rfl (FnP.mono (value_fn (ctrF X.f (clampL lv)) (clampL lv) hcl.2 (fun j ↦ by have := (headStep_le (free := free) (k := k) (lv := lv) (a := a) (line := line) hX).1.1 j; rw [hH] at this; exact Nat.le_trans this (by omega)) u') ?_)
                rintro v u1 hle1 rfl
                refine ra_y (i := 11) rfl (by kernel_rfl) (by kernel_rfl) (by kernel_rfl) (np_then (np_block (np_then (np_then (np_block (np_then (np_finO))))))) (y_build rfl Tryd.f38' Tryd.z38 (ps := [(_, _), (_, _), (_, _), (_, _)]) rfl (vs := [_, _, _, _]) rfl) rfl ?_
                refine ra_do (i := 12) rfl rfl (by kernel_rfl) ?_
                refine do_buildSlice ⟨rfl, trivial⟩ Tryd.s29 Tryd.z38 (ps := [(_, _)]) rfl (xs := [_, _, _, _]) rfl rfl rfl rfl rfl rfl rfl ?_
                refine ra_do (i := 13) rfl rfl (by kernel_rfl) ?_
                refine do_append_w_s 1000 ⟨rfl, trivial⟩ rfl rfl Tryd.s29 Tryd.z38 rfl rfl rfl rfl rfl rfl (by simp [Value.oneCell', str]) (by omega) (by omega) rfl rfl ?_
                intro a2 c2
                refine ra_y (i := 14) rfl (by kernel_rfl) (by kernel_rfl) (by kernel_rfl) (np_then (np_block (np_then (np_then (np_block (np_then (np_finO))))))) (y_field_p rfl Tryd.f72' rfl (by decide) rfl) rfl ?_
                refine ra_do (i := 15) rfl rfl (by kernel_rfl) ?_
                refine do_store_p ⟨rfl, trivial⟩ rfl Tryd.k29 rfl rfl rfl (vs := [_]) rfl rfl (by first | rfl | exact oneAll | exact oneAll2 | simp [Value.oneCell', str]) (Nat.le_of_ble_eq_true rfl) rfl ?_
                refine ra_end (by kernel_rfl) (ρ' := [(0, _), (1, _), (5, _), (6, _), (7, _), (8, _)]) ⟨rfl, rfl, rfl, rfl, rfl, rfl, trivial⟩ ?_
                refine q_thenK ?_
                first
                  | (refine ⟨[(0, _), (1, _), (5, _), (6, _), (7, _), (8, _)], [(5, _), (6, _), (8, _), (1000, _)], ⟨rfl, rfl, rfl, rfl, rfl, rfl, trivial⟩, ⟨rfl, rfl, rfl, rfl, trivial⟩, ai, ci, li, (VLe.refl _), (by rw [hH]; first | done | rfl | (simp only [List.length_append]; rfl)), rfl, ?_⟩
                     exact ⟨rfl, by rw [hH]; exact hai⟩)
                  | (refine ⟨[(0, _), (1, _), (5, _), (6, _), (7, _), (8, _)], [(5, _), (6, _), (8, _), (1000, _)], ⟨rfl, rfl, rfl, rfl, rfl, rfl, trivial⟩, ⟨rfl, rfl, rfl, rfl, trivial⟩, a2, c2, li ++ [str a.id, str secS, str (valF (ctrF X.f (clampL lv)) (clampL lv)), .slice lad line.length lcap], (VLe.refl _), (by rw [hH]; first | done | rfl | (simp only [List.length_append]; rfl)), rfl, ?_⟩
                     exact ⟨rfl, by rw [hH]; exact hai.snoc ⟨_, rfl, s3⟩⟩)
              refine raall_cons rfl rfl ?_ ?_
              ·
                refine do_y (y_load_p rfl Tryd.k69 rfl rfl rfl (vs := arr 7 (ctrF X.f (clampL lv))) rfl rfl rfl) rfl ?_
                refine ra_all (is := [1, 8]) (by kernel_rfl) rfl ?_
                refine raall_cons rfl rfl ?_ ?_
                ·
                  refine do_y (y_load_p rfl Tryd.k29 rfl rfl rfl (vs := [_]) rfl rfl rfl) rfl ?_
                  refine ra_do (i := 8) rfl rfl (by kernel_rfl) ?_
                  refine do_call_f (caps := []) ⟨rfl, trivial⟩ rfl rfl Tryd.c49 rfl (FnP.mono (value_fn (ctrF X.f (clampL lv)) (clampL lv) hcl.2 (fun j ↦ by have := (headStep_le (free := free) (k := k) (lv := lv) (a := a) (line := line) hX).1.1 j; rw [hH] at this; exact Nat.le_trans this (by omega)) u') ?_)
                  rintro v u1 hle1 rfl
                  refine ra_y (i := 11) rfl (by kernel_rfl) (by kernel_rfl) (by kernel_rfl) (np_then (np_block (np_then (np_then (np_block (np_then (np_finO))))))) (y_build rfl Tryd.f38' Tryd.z38 (ps := [(_, _), (_, _), (_, _), (_, _)]) rfl (vs := [_, _, _, _]) rfl) rfl ?_
                  refine ra_do (i := 12) rfl rfl (by kernel_rfl) ?_
                  refine do_buildSlice ⟨rfl, trivial⟩ Tryd.s29 Tryd.z38 (ps := [(_, _)]) rfl (xs := [_, _, _, _]) rfl rfl rfl rfl rfl rfl rfl ?_
                  refine ra_do (i := 13) rfl rfl (by kernel_rfl) ?_
                  refine do_append_w_s 1000 ⟨rfl, trivial⟩ rfl rfl Tryd.s29 Tryd.z38 rfl rfl rfl rfl rfl rfl (by simp [Value.oneCell', str]) (by omega) (by omega) rfl rfl ?_
                  intro a2 c2
                  refine ra_y (i := 14) rfl (by kernel_rfl) (by kernel_rfl) (by kernel_rfl) (np_then (np_block (np_then (np_then (np_block (np_then (np_finO))))))) (y_field_p rfl Tryd.f72' rfl (by decide) rfl) rfl ?_
                  refine ra_do (i := 15) rfl rfl (by kernel_rfl) ?_
                  refine do_store_p ⟨rfl, trivial⟩ rfl Tryd.k29 rfl rfl rfl (vs := [_]) rfl rfl (by first | rfl | exact oneAll | exact oneAll2 | simp [Value.oneCell', str]) (Nat.le_of_ble_eq_true rfl) rfl ?_
                  refine ra_end (by kernel_rfl) (ρ' := [(0, _), (1, _), (5, _), (6, _), (7, _), (8, _)]) ⟨rfl, rfl, rfl, rfl, rfl, rfl, trivial⟩ ?_
                  refine q_thenK ?_
                  first
                    | (refine ⟨[(0, _), (1, _), (5, _), (6, _), (7, _), (8, _)], [(5, _), (6, _), (8, _), (1000, _)], ⟨rfl, rfl, rfl, rfl, rfl, rfl, trivial⟩, ⟨rfl, rfl, rfl, rfl, trivial⟩, ai, ci, li, (VLe.refl _), (by rw [hH]; first | done | rfl | (simp only [List.length_append]; rfl)), rfl, ?_⟩
                       exact ⟨rfl, by rw [hH]; exact hai⟩)
                    | (refine ⟨[(0, _), (1, _), (5, _), (6, _), (7, _), (8, _)], [(5, _), (6, _), (8, _), (1000, _)], ⟨rfl, rfl, rfl, rfl, rfl, rfl, trivial⟩, ⟨rfl, rfl, rfl, rfl, trivial⟩, a2, c2, li ++ [str a.id, str secS, str (valF (ctrF X.f (clampL lv)) (clampL lv)), .slice lad line.length lcap], (VLe.refl _), (by rw [hH]; first | done | rfl | (simp only [List.length_append]; rfl)), rfl, ?_⟩
                       exact ⟨rfl, by rw [hH]; exact hai.snoc ⟨_, rfl, s3⟩⟩)
                refine raall_cons rfl rfl ?_ ?_
                ·
                  refine do_call_f (caps := []) ⟨rfl, trivial⟩ rfl rfl Tryd.c49 rfl (FnP.mono (value_fn (ctrF X.f (clampL lv)) (clampL lv) hcl.2 (fun j ↦ by have := (headStep_le (free := free) (k := k) (lv := lv) (a := a) (line := line) hX).1.1 j; rw [hH] at this; exact Nat.le_trans this (by omega)) u') ?_)
                  rintro v u1 hle1 rfl
                  refine ra_y (i := 11) rfl (by kernel_rfl) (by kernel_rfl) (by kernel_rfl) (np_then (np_block (np_then (np_then (np_block (np_then (np_finO))))))) (y_build rfl Tryd.f38' Tryd.z38 (ps := [(_, _), (_, _), (_, _), (_, _)]) rfl (vs := [_, _, _, _]) rfl) rfl ?_
                  refine ra_all (is := [1, 12]) (by kernel_rfl) rfl ?_
                  refine raall_cons rfl rfl ?_ ?_
                  ·
                    refine do_y (y_load_p rfl Tryd.k29 rfl rfl rfl (vs := [_]) rfl rfl rfl) rfl ?_
                    refine ra_do (i := 12) rfl rfl (by kernel_rfl) ?_
                    refine do_buildSlice ⟨rfl, trivial⟩ Tryd.s29 Tryd.z38 (ps := [(_, _)]) rfl (xs := [_, _, _, _]) rfl rfl rfl rfl rfl rfl rfl ?_
                    refine ra_do (i := 13) rfl rfl (by kernel_rfl) ?_
                    refine do_append_w_s 1000 ⟨rfl, trivial⟩ rfl rfl Tryd.s29 Tryd.z38 rfl rfl rfl rfl rfl rfl (by simp [Value.oneCell', str]) (by omega) (by omega) rfl rfl ?_
                    intro a2 c2
                    refine ra_y (i := 14) rfl (by kernel_rfl) (by kernel_rfl) (by kernel_rfl) (np_then (np_block (np_then (np_then (np_block (np_then (np_finO))))))) (y_field_p rfl Tryd.f72' rfl (by decide) rfl) rfl ?_
                    refine ra_do (i := 15) rfl rfl (by kernel_rfl) ?_
                    refine do_store_p ⟨rfl, trivial⟩ rfl Tryd.k29 rfl rfl rfl (vs := [_]) rfl rfl (by first | rfl | exact oneAll | exact oneAll2 | simp [Value.oneCell', str]) (Nat.le_of_ble_eq_true rfl) rfl ?_
                    refine ra_end (by kernel_rfl) (ρ' := [(0, _), (1, _), (5, _), (6, _), (7, _), (8, _)]) ⟨rfl, rfl, rfl, rfl, rfl, rfl, trivial⟩ ?_
                    refine q_thenK ?_
                    first
                      | (refine ⟨[(0, _), (1, _), (5, _), (6, _), (7, _), (8, _)], [(5, _), (6, _), (8, _), (1000, _)], ⟨rfl, rfl, rfl, rfl, rfl, rfl, trivial⟩, ⟨rfl, rfl, rfl, rfl, trivial⟩, ai, ci, li, (VLe.refl _), (by rw [hH]; first | done | rfl | (simp only [List.length_append]; rfl)), rfl, ?_⟩
                         exact ⟨rfl, by rw [hH]; exact hai⟩)
                      | (refine ⟨[(0, _), (1, _), (5, _), (6, _), (7, _), (8, _)], [(5, _), (6, _), (8, _), (1000, _)], ⟨rfl, rfl, rfl, rfl, rfl, rfl, trivial⟩, ⟨rfl, rfl, rfl, rfl, trivial⟩, a2, c2, li ++ [str a.id, str secS, str (valF (ctrF X.f (clampL lv)) (clampL lv)), .slice lad line.length lcap], (VLe.refl _), (by rw [hH]; first | done | rfl | (simp only [List.length_append]; rfl)), rfl, ?_⟩
                         exact ⟨rfl, by rw [hH]; exact hai.snoc ⟨_, rfl, s3⟩⟩)
                  refine raall_cons rfl rfl ?_ ?_
                  ·
                    refine do_buildSlice ⟨rfl, trivial⟩ Tryd.s29 Tryd.z38 (ps := [(_, _)]) rfl (xs := [_, _, _, _]) rfl rfl rfl rfl rfl rfl rfl ?_
                    refine ra_do (i := 1) rfl rfl (by kernel_rfl) ?_
                    refine do_y (y_load_p rfl Tryd.k29 rfl rfl rfl (vs := [_]) rfl rfl rfl) rfl ?_
                    refine ra_do (i := 13) rfl rfl (by kernel_rfl) ?_
                    refine do_append_w_s 1000 ⟨rfl, trivial⟩ rfl rfl Tryd.s29 Tryd.z38 rfl rfl rfl rfl rfl rfl (by simp [Value.oneCell', str]) (by omega) (by omega) rfl rfl ?_
                    intro a2 c2
                    refine ra_y (i := 14) rfl (by kernel_rfl) (by kernel_rfl) (by kernel_rfl) (np_then (np_block (np_then (np_then (np_block (np_then (np_finO))))))) (y_field_p rfl Tryd.f72' rfl (by decide) rfl) rfl ?_
                    refine ra_do (i := 15) rfl rfl (by kernel_rfl) ?_
                    refine do_store_p ⟨rfl, trivial⟩ rfl Tryd.k29 rfl rfl rfl (vs := [_]) rfl rfl (by first | rfl | exact oneAll | exact oneAll2 | simp [Value.oneCell', str]) (Nat.le_of_ble_eq_true rfl) rfl ?_
                    refine ra_end (by kernel_rfl) (ρ' := [(0, _), (1, _), (5, _), (6, _), (7, _), (8, _)]) ⟨rfl, rfl, rfl, rfl, rfl, rfl, trivial⟩ ?_
                    refine q_thenK ?_
                    first
                      | (refine ⟨[(0, _), (1, _), (5, _), (6, _), (7, _), (8, _)], [(5, _), (6, _), (8, _), (1000, _)], ⟨rfl, rfl, rfl, rfl, rfl, rfl, trivial⟩, ⟨rfl, rfl, rfl, rfl, trivial⟩, ai, ci, li, (VLe.refl _), (by rw [hH]; first | done | rfl | (simp only [List.length_append]; rfl)), rfl, ?_⟩
                         exact ⟨rfl, by rw [hH]; exact hai⟩)
                      | (refine ⟨[(0, _), (1, _), (5, _), (6, _), (7, _), (8, _)], [(5, _), (6, _), (8, _), (1000, _)], ⟨rfl, rfl, rfl, rfl, rfl, rfl, trivial⟩, ⟨rfl, rfl, rfl, rfl, trivial⟩, a2, c2, li ++ [str a.id, str secS, str (valF (ctrF X.f (clampL lv)) (clampL lv)), .slice lad line.length lcap], (VLe.refl _), (by rw [hH]; first | done | rfl | (simp only [List.length_append]; rfl)), rfl, ?_⟩
                         exact ⟨rfl, by rw [hH]; exact hai.snoc ⟨_, rfl, s3⟩⟩)
                  exact raall_nil
                exact raall_nil
              exact raall_nil
        ·
          have hH : headStep free k lv a line X = X := if_neg (of_decide_eq_false hb5)
          refine wc_skip ?_
          refine q_thenK ?_
          first
            | (refine ⟨[(0, _), (1, _), (5, _), (6, _), (7, _), (8, _)], [(5, _), (6, _), (8, _), (1000, _)], ⟨rfl, rfl, rfl, rfl, rfl, rfl, trivial⟩, ⟨rfl, rfl, rfl, rfl, trivial⟩, ai, ci, li, (VLe.refl _), (by rw [hH]; first | done | rfl | (simp only [List.length_append]; rfl)), rfl, ?_⟩
               exact ⟨rfl, by rw [hH]; exact hai⟩)
            | (refine ⟨[(0, _), (1, _), (5, _), (6, _), (7, _), (8, _)], [(5, _), (6, _), (8, _), (1000, _)], ⟨rfl, rfl, rfl, rfl, rfl, rfl, trivial⟩, ⟨rfl, rfl, rfl, rfl, trivial⟩, a2, c2, li ++ [str a.id, str secS, str (valF (ctrF X.f (clampL lv)) (clampL lv)), .slice lad line.length lcap], (VLe.refl _), (by rw [hH]; first | done | rfl | (simp only [List.length_append]; rfl)), rfl, ?_⟩
               exact ⟨rfl, by rw [hH]; exact hai.snoc ⟨_, rfl, s3⟩⟩)
      ·
        rintro ρ σ uc13 ⟨a3, c3, l3, hlc13, rfl, rfl, ⟨rfl, ha3⟩⟩
        have hYl := headStep_le (free := free) (k := k) (lv := lv) (a := a) (line := line) hX
        have hYg := fun j => (congrFun (headStep_g (free := free) (k := k) (lv := lv) (a := a) (line := line) (x := X)) j).symm ▸ hXg j
        have hZl := step_le (free := free) (k := k) (lv := lv) (inf := inf) (a := a) (line := line) (kids := kids) hX
        clear hX hXf hXg hXo hai
        generalize headStep free k lv a line X = Y at *
        have hK3 := kindN_le k inf a.id
        have hYgK := hYg (kindN k inf a.id)
        have hYo := hYl.2
        refine wc_seq ?_
        refine wc_region ?_
        refine rl_y (y_load_p rfl Tryd.k42 rfl rfl rfl (vs := [_, _, _, _, _, _, _, _, _, _, _]) rfl rfl rfl) rfl ?_
        refine rl_do rfl rfl ?_
        refine do_call_f (caps := []) trivial rfl rfl Tryd.c50 rfl (FnP.mono (kind_fn k lv inf t d ti a.id vc vp _ vk u') ?_)
        rintro v u1 hle1 rfl
        refine rl_y (y_assign rfl rfl) rfl ?_
        refine rl_end (ρ' := [(0, _), (1, _), (5, _), (6, _), (7, _), (8, _), (10, _)]) ⟨rfl, rfl, rfl, rfl, rfl, rfl, rfl, trivial⟩ ?_
        refine q_then ?_
        refine wc_cut (fun ρ σ uc17 => ∃ (a5 : Option Addr) (c5 : Nat) (l5 : List Value), VLe u' uc17 ∧ σ = [(5, (none, .box (csV (kindStep k inf a kids Y) (.slice a5 (kindStep k inf a kids Y).out.length c5)))), (6, (none, .box zero12)), (8, (none, .box (blkV k lv inf t d ti a.id vc vp (.slice lad line.length lcap) vk))), (1000, (none, .rwv (.slice a5 (kindStep k inf a kids Y).out.length c5) 38 4 (kindStep k inf a kids Y).out.length l5))] ∧ ρ = [(0, .v (.slice ad bs.length cap)), (1, .v (.bool free)), (5, .p 5 0), (6, .p 6 0), (7, .v (.int .i64 i)), (8, .p 8 0)] ∧ (NumsC uc17 (kindStep k inf a kids Y).out l5)) ?_ ?_
        ·
          refine wc_seq ?_
          refine wc_region ?_
          refine rl_y (y_move rfl rfl) rfl ?_
          refine rl_y (y_gtr rfl rfl rfl) rfl ?_
          refine rl_end (ρ' := [(0, _), (1, _), (5, _), (6, _), (7, _), (8, _), (10, _), (56, _)]) ⟨rfl, rfl, rfl, rfl, rfl, rfl, rfl, rfl, trivial⟩ ?_
          refine q_then ?_
          refine wc_cond rfl (fun hb14 => ?_) (fun hb14 => ?_)
          ·
            have hH : kindStep k inf a kids Y = ⟨Y.f, setF Y.g (kindN k inf a.id) (Y.g (kindN k inf a.id) + 1), Y.out ++ [⟨a.id, kindS (kindN k inf a.id), dec (Y.g (kindN k inf a.id) + 1), capIf k kids⟩]⟩ := if_pos (by have := of_decide_eq_true hb14; omega)
            refine wc_seq ?_
            have h14 := of_decide_eq_true hb14
            refine wc_region ?_
            refine rl_y (y_move rfl rfl) rfl ?_
            refine rl_y (y_field_p rfl Tryd.f72' rfl (by decide) rfl) rfl ?_
            refine rl_y (y_index_p rfl Tryd.a70 rfl rfl (j := kindN k inf a.id) (by first | rfl | omega) (by omega)) rfl ?_
            refine rl_y (y_load_p rfl Tryd.k3 rfl rfl rfl (cut_arr2 (i := kindN k inf a.id) (by omega) (by omega)) rfl rfl) rfl ?_
            refine rl_y (y_add rfl rfl rfl (wrap64_id (by omega))) rfl ?_
            refine rl_y (y_field_p rfl Tryd.f72' rfl (by decide) rfl) rfl ?_
            refine rl_y (y_index_p rfl Tryd.a70 rfl rfl (j := kindN k inf a.id) (by first | rfl | omega) (by omega)) rfl ?_
            refine rl_do rfl rfl ?_
            refine do_store_p trivial rfl Tryd.k3 rfl rfl rfl (vs := [_]) rfl rfl rfl (by simp [arr_len]; omega) (set_arr2 (i := kindN k inf a.id) (v := Y.g (kindN k inf a.id) + 1) (by omega) (by omega)) ?_
            refine rl_end (ρ' := [(0, _), (1, _), (5, _), (6, _), (7, _), (8, _), (10, _)]) ⟨rfl, rfl, rfl, rfl, rfl, rfl, rfl, trivial⟩ ?_
            refine q_then ?_
            refine wc_draw Tryd.mixed rfl [(8, _)] ⟨rfl, trivial⟩ ?_
            refine ra_y (i := 0) rfl (by kernel_rfl) (by kernel_rfl) (by kernel_rfl) (np_then (np_block (np_then (np_then (np_block (np_then (np_finO))))))) (y_field_p rfl Tryd.f72' rfl (by decide) rfl) rfl ?_
            refine ra_y (i := 2) rfl (by kernel_rfl) (by kernel_rfl) (by kernel_rfl) (np_then (np_block (np_then (np_then (np_block (np_then (np_finO))))))) (y_load_p rfl Tryd.k42 rfl rfl rfl (vs := [_, _, _, _, _, _, _, _, _, _, _]) rfl rfl rfl) rfl ?_
            refine ra_y (i := 4) rfl (by kernel_rfl) (by kernel_rfl) (by kernel_rfl) (np_then (np_block (np_then (np_then (np_block (np_then (np_finO))))))) (y_move rfl rfl) rfl ?_
            refine ra_y (i := 7) rfl (by kernel_rfl) (by kernel_rfl) (by kernel_rfl) (np_then (np_block (np_then (np_then (np_block (np_then (np_finO))))))) (y_move rfl rfl) rfl ?_
            refine ra_y (i := 8) rfl (by kernel_rfl) (by kernel_rfl) (by kernel_rfl) (np_then (np_block (np_then (np_then (np_block (np_then (np_finO))))))) (y_field_p rfl Tryd.f72' rfl (by decide) rfl) rfl ?_
            refine ra_y (i := 9) rfl (by kernel_rfl) (by kernel_rfl) (by kernel_rfl) (np_then (np_block (np_then (np_then (np_block (np_then (np_finO))))))) (y_index_p rfl Tryd.a70 rfl rfl (j := kindN k inf a.id) (by first | rfl | omega) (by omega)) rfl ?_
            refine ra_all (is := [1, 3, 10]) (by kernel_rfl) rfl ?_
            refine raall_cons rfl rfl ?_ ?_
            ·
              refine do_y (y_load_p rfl Tryd.k29 rfl rfl rfl (vs := [_]) rfl rfl rfl) rfl ?_
              refine ra_all (is := [3, 10]) (by kernel_rfl) rfl ?_
              refine raall_cons rfl rfl ?_ ?_
              ·
                refine do_buildSlice ⟨rfl, trivial⟩ Tryd.s32 Tryd.z9 (ps := [(_, _), (_, _), (_, _), (_, _)]) rfl (xs := [_, _, _, _]) rfl rfl rfl rfl rfl rfl rfl ?_
                refine ra_y (i := 5) rfl (by kernel_rfl) (by kernel_rfl) (by kernel_rfl) (np_then (np_block (np_then (np_then (np_block (np_then (np_finO))))))) (y_index_s rfl Tryd.s32 rfl rfl rfl (j := kindN k inf a.id) (by first | rfl | omega) (by omega)) rfl ?_
                refine ra_all (is := [6, 10]) (by kernel_rfl) rfl ?_
                refine raall_cons rfl rfl ?_ ?_
                ·
                  refine do_y (y_load_s rfl Tryd.k9 rfl rfl rfl (kindS_cut (by omega) (by omega)) rfl rfl (by simp; omega)) rfl ?_
                  refine ra_do (i := 10) rfl rfl (by kernel_rfl) ?_
                  refine do_y (y_load_p rfl Tryd.k3 rfl rfl rfl (cut_arr2s (i := kindN k inf a.id) (by omega) (by omega)) rfl rfl) rfl ?_
                  refine ra_do (i := 11) rfl rfl (by kernel_rfl) ?_
                  refine do_call (caps := []) ⟨rfl, trivial⟩ rfl rfl Tryd.c51 rfl (FnP.mono (one_fn k lv inf t d ti a.id vc vp (.slice lad line.length lcap) vk kids (kindS (kindN k inf a.id)) (Y.g (kindN k inf a.id) + 1) (by omega) (by omega) u' s4) ?_)
                  rintro v uK hle0 ⟨_, rfl, qcs, ⟨qad, qcap, rfl, hq1⟩, hq2⟩ hleK
                  refine ra_do (i := 12) rfl rfl (by kernel_rfl) ?_
                  refine do_buildSlice ⟨rfl, trivial⟩ Tryd.s29 Tryd.z38 (ps := [(_, _)]) rfl (xs := [_, _, _, _]) rfl rfl rfl rfl rfl rfl rfl ?_
                  refine ra_do (i := 13) rfl rfl (by kernel_rfl) ?_
                  refine do_append_w_s 1000 ⟨rfl, trivial⟩ rfl rfl Tryd.s29 Tryd.z38 rfl rfl rfl rfl rfl rfl (by simp [Value.oneCell', str]) (by omega) (by omega) rfl rfl ?_
                  intro a4 c4
                  refine ra_y (i := 14) rfl (by kernel_rfl) (by kernel_rfl) (by kernel_rfl) (np_then (np_block (np_then (np_then (np_block (np_then (np_finO))))))) (y_field_p rfl Tryd.f72' rfl (by decide) rfl) rfl ?_
                  refine ra_do (i := 15) rfl rfl (by kernel_rfl) ?_
                  refine do_store_p ⟨rfl, trivial⟩ rfl Tryd.k29 rfl rfl rfl (vs := [_]) rfl rfl (by first | rfl | exact oneAll | exact oneAll2 | simp [Value.oneCell', str]) (Nat.le_of_ble_eq_true rfl) rfl ?_
                  refine ra_end (by kernel_rfl) (ρ' := [(0, _), (1, _), (5, _), (6, _), (7, _), (8, _)]) ⟨rfl, rfl, rfl, rfl, rfl, rfl, trivial⟩ ?_
                  refine q_thenK ?_
                  first
                    | (refine ⟨[(0, _), (1, _), (5, _), (6, _), (7, _), (8, _)], [(5, _), (6, _), (8, _), (1000, _)], ⟨rfl, rfl, rfl, rfl, rfl, rfl, trivial⟩, ⟨rfl, rfl, rfl, rfl, trivial⟩, a3, c3, l3, (VLe.refl _), (by rw [hH]; first | done | rfl | (simp only [List.length_append]; rfl)), rfl, ?_⟩
                       rw [hH]; exact ha3)
                    | (refine ⟨[(0, _), (1, _), (5, _), (6, _), (7, _), (8, _)], [(5, _), (6, _), (8, _), (1000, _)], ⟨rfl, rfl, rfl, rfl, rfl, rfl, trivial⟩, ⟨rfl, rfl, rfl, rfl, trivial⟩, a4, c4, l3 ++ [str a.id, str (kindS (kindN k inf a.id)), str (dec (Y.g (kindN k inf a.id) + 1)), .slice qad (capIf k kids).length qcap], hleK, (by rw [hH]; first | done | rfl | (simp only [List.length_append]; rfl)), rfl, ?_⟩
                       rw [hH]; exact (ha3.mono hleK).snoc ⟨_, rfl, inlS_of rfl hq1 hq2⟩)
                refine raall_cons rfl rfl ?_ ?_
                ·
                  refine do_y (y_load_p rfl Tryd.k3 rfl rfl rfl (cut_arr2s (i := kindN k inf a.id) (by omega) (by omega)) rfl rfl) rfl ?_
                  refine ra_do (i := 6) rfl rfl (by kernel_rfl) ?_
                  refine do_y (y_load_s rfl Tryd.k9 rfl rfl rfl (kindS_cut (by omega) (by omega)) rfl rfl (by simp; omega)) rfl ?_
                  refine ra_do (i := 11) rfl rfl (by kernel_rfl) ?_
                  refine do_call (caps := []) ⟨rfl, trivial⟩ rfl rfl Tryd.c51 rfl (FnP.mono (one_fn k lv inf t d ti a.id vc vp (.slice lad line.length lcap) vk kids (kindS (kindN k inf a.id)) (Y.g (kindN k inf a.id) + 1) (by omega) (by omega) u' s4) ?_)
                  rintro v uK hle0 ⟨_, rfl, qcs, ⟨qad, qcap, rfl, hq1⟩, hq2⟩ hleK
                  refine ra_do (i := 12) rfl rfl (by kernel_rfl) ?_
                  refine do_buildSlice ⟨rfl, trivial⟩ Tryd.s29 Tryd.z38 (ps := [(_, _)]) rfl (xs := [_, _, _, _]) rfl rfl rfl rfl rfl rfl rfl ?_
                  refine ra_do (i := 13) rfl rfl (by kernel_rfl) ?_
                  refine do_append_w_s 1000 ⟨rfl, trivial⟩ rfl rfl Tryd.s29 Tryd.z38 rfl rfl rfl rfl rfl rfl (by simp [Value.oneCell', str]) (by omega) (by omega) rfl rfl ?_
                  intro a4 c4
                  refine ra_y (i := 14) rfl (by kernel_rfl) (by kernel_rfl) (by kernel_rfl) (np_then (np_block (np_then (np_then (np_block (np_then (np_finO))))))) (y_field_p rfl Tryd.f72' rfl (by decide) rfl) rfl ?_
                  refine ra_do (i := 15) rfl rfl (by kernel_rfl) ?_
                  refine do_store_p ⟨rfl, trivial⟩ rfl Tryd.k29 rfl rfl rfl (vs := [_]) rfl rfl (by first | rfl | exact oneAll | exact oneAll2 | simp [Value.oneCell', str]) (Nat.le_of_ble_eq_true rfl) rfl ?_
                  refine ra_end (by kernel_rfl) (ρ' := [(0, _), (1, _), (5, _), (6, _), (7, _), (8, _)]) ⟨rfl, rfl, rfl, rfl, rfl, rfl, trivial⟩ ?_
                  refine q_thenK ?_
                  first
                    | (refine ⟨[(0, _), (1, _), (5, _), (6, _), (7, _), (8, _)], [(5, _), (6, _), (8, _), (1000, _)], ⟨rfl, rfl, rfl, rfl, rfl, rfl, trivial⟩, ⟨rfl, rfl, rfl, rfl, trivial⟩, a3, c3, l3, (VLe.refl _), (by rw [hH]; first | done | rfl | (simp only [List.length_append]; rfl)), rfl, ?_⟩
                       rw [hH]; exact ha3)
                    | (refine ⟨[(0, _), (1, _), (5, _), (6, _), (7, _), (8, _)], [(5, _), (6, _), (8, _), (1000, _)], ⟨rfl, rfl, rfl, rfl, rfl, rfl, trivial⟩, ⟨rfl, rfl, rfl, rfl, trivial⟩, a4, c4, l3 ++ [str a.id, str (kindS (kindN k inf a.id)), str (dec (Y.g (kindN k inf a.id) + 1)), .slice qad (capIf k kids).length qcap], hleK, (by rw [hH]; first | done | rfl | (simp only [List.length_append]; rfl)), rfl, ?_⟩
                       rw [hH]; exact (ha3.mono hleK).snoc ⟨_, rfl, inlS_of rfl hq1 hq2⟩)
                exact raall_nil
              refine raall_cons rfl rfl ?_ ?_
              ·
                refine do_y (y_load_p rfl Tryd.k3 rfl rfl rfl (cut_arr2s (i := kindN k inf a.id) (by omega) (by omega)) rfl rfl) rfl ?_
                refine ra_do (i := 3) rfl rfl (by kernel_rfl) ?_
                refine do_buildSlice ⟨rfl, trivial⟩ Tryd.s32 Tryd.z9 (ps := [(_, _), (_, _), (_, _), (_, _)]) rfl (xs := [_, _, _, _]) rfl rfl rfl rfl rfl rfl rfl ?_
                refine ra_y (i := 5) rfl (by kernel_rfl) (by kernel_rfl) (by kernel_rfl) (np_then (np_block (np_then (np_then (np_block (np_then (np_finO))))))) (y_index_s rfl Tryd.s32 rfl rfl rfl (j := kindN k inf a.id) (by first | rfl | omega) (by omega)) rfl ?_
                refine ra_do (i := 6) rfl rfl (by kernel_rfl) ?_
                refine do_y (y_load_s rfl Tryd.k9 rfl rfl rfl (kindS_cut (by omega) (by omega)) rfl rfl (by simp; omega)) rfl ?_
                refine ra_do (i := 11) rfl rfl (by kernel_rfl) ?_
                refine do_call (caps := []) ⟨rfl, trivial⟩ rfl rfl Tryd.c51 rfl (FnP.mono (one_fn k lv inf t d ti a.id vc vp (.slice lad line.length lcap) vk kids (kindS (kindN k inf a.id)) (Y.g (kindN k inf a.id) + 1) (by omega) (by omega) u' s4) ?_)
                rintro v uK hle0 ⟨_, rfl, qcs, ⟨qad, qcap, rfl, hq1⟩, hq2⟩ hleK
                refine ra_do (i := 12) rfl rfl (by kernel_rfl) ?_
                refine do_buildSlice ⟨rfl, trivial⟩ Tryd.s29 Tryd.z38 (ps := [(_, _)]) rfl (xs := [_, _, _, _]) rfl rfl rfl rfl rfl rfl rfl ?_
                refine ra_do (i := 13) rfl rfl (by kernel_rfl) ?_
                refine do_append_w_s 1000 ⟨rfl, trivial⟩ rfl rfl Tryd.s29 Tryd.z38 rfl rfl rfl rfl rfl rfl (by simp [Value.oneCell', str]) (by omega) (by omega) rfl rfl ?_
                intro a4 c4
                refine ra_y (i := 14) rfl (by kernel_rfl) (by kernel_rfl) (by kernel_rfl) (np_then (np_block (np_then (np_then (np_block (np_then (np_finO))))))) (y_field_p rfl Tryd.f72' rfl (by decide) rfl) rfl ?_
                refine ra_do (i := 15) rfl rfl (by kernel_rfl) ?_
                refine do_store_p ⟨rfl, trivial⟩ rfl Tryd.k29 rfl rfl rfl (vs := [_]) rfl rfl (by first | rfl | exact oneAll | exact oneAll2 | simp [Value.oneCell', str]) (Nat.le_of_ble_eq_true rfl) rfl ?_
                refine ra_end (by kernel_rfl) (ρ' := [(0, _), (1, _), (5, _), (6, _), (7, _), (8, _)]) ⟨rfl, rfl, rfl, rfl, rfl, rfl, trivial⟩ ?_
                refine q_thenK ?_
                first
                  | (refine ⟨[(0, _), (1, _), (5, _), (6, _), (7, _), (8, _)], [(5, _), (6, _), (8, _), (1000, _)], ⟨rfl, rfl, rfl, rfl, rfl, rfl, trivial⟩, ⟨rfl, rfl, rfl, rfl, trivial⟩, a3, c3, l3, (VLe.refl _), (by rw [hH]; first | done | rfl | (simp only [List.length_append]; rfl)), rfl, ?_⟩
                     rw [hH]; exact ha3)
                  | (refine ⟨[(0, _), (1, _), (5, _), (6, _), (7, _), (8, _)], [(5, _), (6, _), (8, _), (1000, _)], ⟨rfl, rfl, rfl, rfl, rfl, rfl, trivial⟩, ⟨rfl, rfl, rfl, rfl, trivial⟩, a4, c4, l3 ++ [str a.id, str (kindS (kindN k inf a.id)), str (dec (Y.g (kindN k inf a.id) + 1)), .slice qad (capIf k kids).length qcap], hleK, (by rw [hH]; first | done | rfl | (simp only [List.length_append]; rfl)), rfl, ?_⟩
                     rw [hH]; exact (ha3.mono hleK).snoc ⟨_, rfl, inlS_of rfl hq1 hq2⟩)
              exact raall_nil
            refine raall_cons rfl rfl ?_ ?_
            ·
              refine do_buildSlice ⟨rfl, trivial⟩ Tryd.s32 Tryd.z9 (ps := [(_, _), (_, _), (_, _), (_, _)]) rfl (xs := [_, _, _, _]) rfl rfl rfl rfl rfl rfl rfl ?_
              refine ra_y (i := 5) rfl (by kernel_rfl) (by kernel_rfl) (by kernel_rfl) (np_then (np_block (np_then (np_then (np_block (np_then (np_finO))))))) (y_index_s rfl Tryd.s32 rfl rfl rfl (j := kindN k inf a.id) (by first | rfl | omega) (by omega)) rfl ?_
              refine ra_all (is := [1, 6, 10]) (by kernel_rfl) rfl ?_
              refine raall_cons rfl rfl ?_ ?_
              ·
                refine do_y (y_load_p rfl Tryd.k29 rfl rfl rfl (vs := [_]) rfl rfl rfl) rfl ?_
                refine ra_all (is := [6, 10]) (by kernel_rfl) rfl ?_
                refine raall_cons rfl rfl ?_ ?_
                ·
                  refine do_y (y_load_s rfl Tryd.k9 rfl rfl rfl (kindS_cut (by omega) (by omega)) rfl rfl (by simp; omega)) rfl ?_
                  refine ra_do (i := 10) rfl rfl (by kernel_rfl) ?_
                  refine do_y (y_load_p rfl Tryd.k3 rfl rfl rfl (cut_arr2s (i := kindN k inf a.id) (by omega) (by omega)) rfl rfl) rfl ?_
                  refine ra_do (i := 11) rfl rfl (by kernel_rfl) ?_
                  refine do_call (caps := []) ⟨rfl, trivial⟩ rfl rfl Tryd.c51 rfl (FnP.mono (one_fn k lv inf t d ti a.id vc vp (.slice lad line.length lcap) vk kids (kindS (kindN k inf a.id)) (Y.g (kindN k inf a.id) + 1) (by omega) (by omega) u' s4) ?_)
                  rintro v uK hle0 ⟨_, rfl, qcs, ⟨qad, qcap, rfl, hq1⟩, hq2⟩ hleK
                  refine ra_do (i := 12) rfl rfl (by kernel_rfl) ?_
                  refine do_buildSlice ⟨rfl, trivial⟩ Tryd.s29 Tryd.z38 (ps := [(_, _)]) rfl (xs := [_, _, _, _]) rfl rfl rfl rfl rfl rfl rfl ?_
                  refine ra_do (i := 13) rfl rfl (by kernel_rfl) ?_
                  refine do_append_w_s 1000 ⟨rfl, trivial⟩ rfl rfl Tryd.s29 Tryd.z38 rfl rfl rfl rfl rfl rfl (by simp [Value.oneCell', str]) (by omega) (by omega) rfl rfl ?_
                  intro a4 c4
                  refine ra_y (i := 14) rfl (by kernel_rfl) (by kernel_rfl) (by kernel_rfl) (np_then (np_block (np_then (np_then (np_block (np_then (np_finO))))))) (y_field_p rfl Tryd.f72' rfl (by decide) rfl) rfl ?_
                  refine ra_do (i := 15) rfl rfl (by kernel_rfl) ?_
                  refine do_store_p ⟨rfl, trivial⟩ rfl Tryd.k29 rfl rfl rfl (vs := [_]) rfl rfl (by first | rfl | exact oneAll | exact oneAll2 | simp [Value.oneCell', str]) (Nat.le_of_ble_eq_true rfl) rfl ?_
                  refine ra_end (by kernel_rfl) (ρ' := [(0, _), (1, _), (5, _), (6, _), (7, _), (8, _)]) ⟨rfl, rfl, rfl, rfl, rfl, rfl, trivial⟩ ?_
                  refine q_thenK ?_
                  first
                    | (refine ⟨[(0, _), (1, _), (5, _), (6, _), (7, _), (8, _)], [(5, _), (6, _), (8, _), (1000, _)], ⟨rfl, rfl, rfl, rfl, rfl, rfl, trivial⟩, ⟨rfl, rfl, rfl, rfl, trivial⟩, a3, c3, l3, (VLe.refl _), (by rw [hH]; first | done | rfl | (simp only [List.length_append]; rfl)), rfl, ?_⟩
                       rw [hH]; exact ha3)
                    | (refine ⟨[(0, _), (1, _), (5, _), (6, _), (7, _), (8, _)], [(5, _), (6, _), (8, _), (1000, _)], ⟨rfl, rfl, rfl, rfl, rfl, rfl, trivial⟩, ⟨rfl, rfl, rfl, rfl, trivial⟩, a4, c4, l3 ++ [str a.id, str (kindS (kindN k inf a.id)), str (dec (Y.g (kindN k inf a.id) + 1)), .slice qad (capIf k kids).length qcap], hleK, (by rw [hH]; first | done | rfl | (simp only [List.length_append]; rfl)), rfl, ?_⟩
                       rw [hH]; exact (ha3.mono hleK).snoc ⟨_, rfl, inlS_of rfl hq1 hq2⟩)
                refine raall_cons rfl rfl ?_ ?_
                ·
                  refine do_y (y_load_p rfl Tryd.k3 rfl rfl rfl (cut_arr2s (i := kindN k inf a.id) (by omega) (by omega)) rfl rfl) rfl ?_
                  refine ra_do (i := 6) rfl rfl (by kernel_rfl) ?_
                  refine do_y (y_load_s rfl Tryd.k9 rfl rfl rfl (kindS_cut (by omega) (by omega)) rfl rfl (by simp; omega)) rfl ?_
                  refine ra_do (i := 11) rfl rfl (by kernel_rfl) ?_
                  refine do_call (caps := []) ⟨rfl, trivial⟩ rfl rfl Tryd.c51 rfl (FnP.mono (one_fn k lv inf t d ti a.id vc vp (.slice lad line.length lcap) vk kids (kindS (kindN k inf a.id)) (Y.g (kindN k inf a.id) + 1) (by omega) (by omega) u' s4) ?_)
                  rintro v uK hle0 ⟨_, rfl, qcs, ⟨qad, qcap, rfl, hq1⟩, hq2⟩ hleK
                  refine ra_do (i := 12) rfl rfl (by kernel_rfl) ?_
                  refine do_buildSlice ⟨rfl, trivial⟩ Tryd.s29 Tryd.z38 (ps := [(_, _)]) rfl (xs := [_, _, _, _]) rfl rfl rfl rfl rfl rfl rfl ?_
                  refine ra_do (i := 13) rfl rfl (by kernel_rfl) ?_
                  refine do_append_w_s 1000 ⟨rfl, trivial⟩ rfl rfl Tryd.s29 Tryd.z38 rfl rfl rfl rfl rfl rfl (by simp [Value.oneCell', str]) (by omega) (by omega) rfl rfl ?_
                  intro a4 c4
                  refine ra_y (i := 14) rfl (by kernel_rfl) (by kernel_rfl) (by kernel_rfl) (np_then (np_block (np_then (np_then (np_block (np_then (np_finO))))))) (y_field_p rfl Tryd.f72' rfl (by decide) rfl) rfl ?_
                  refine ra_do (i := 15) rfl rfl (by kernel_rfl) ?_
                  refine do_store_p ⟨rfl, trivial⟩ rfl Tryd.k29 rfl rfl rfl (vs := [_]) rfl rfl (by first | rfl | exact oneAll | exact oneAll2 | simp [Value.oneCell', str]) (Nat.le_of_ble_eq_true rfl) rfl ?_
                  refine ra_end (by kernel_rfl) (ρ' := [(0, _), (1, _), (5, _), (6, _), (7, _), (8, _)]) ⟨rfl, rfl, rfl, rfl, rfl, rfl, trivial⟩ ?_
                  refine q_thenK ?_
                  first
                    | (refine ⟨[(0, _), (1, _), (5, _), (6, _), (7, _), (8, _)], [(5, _), (6, _), (8, _), (1000, _)], ⟨rfl, rfl, rfl, rfl, rfl, rfl, trivial⟩, ⟨rfl, rfl, rfl, rfl, trivial⟩, a3, c3, l3, (VLe.refl _), (by rw [hH]; first | done | rfl | (simp only [List.length_append]; rfl)), rfl, ?_⟩
                       rw [hH]; exact ha3)
                    | (refine ⟨[(0, _), (1, _), (5, _), (6, _), (7, _), (8, _)], [(5, _), (6, _), (8, _), (1000, _)], ⟨rfl, rfl, rfl, rfl, rfl, rfl, trivial⟩, ⟨rfl, rfl, rfl, rfl, trivial⟩, a4, c4, l3 ++ [str a.id, str (kindS (kindN k inf a.id)), str (dec (Y.g (kindN k inf a.id) + 1)), .slice qad (capIf k kids).length qcap], hleK, (by rw [hH]; first | done | rfl | (simp only [List.length_append]; rfl)), rfl, ?_⟩
                       rw [hH]; exact (ha3.mono hleK).snoc ⟨_, rfl, inlS_of rfl hq1 hq2⟩)
                exact raall_nil
              refine raall_cons rfl rfl ?_ ?_
              ·
                refine do_y (y_load_s rfl Tryd.k9 rfl rfl rfl (kindS_cut (by omega) (by omega)) rfl rfl (by simp; omega)) rfl ?_
                refine ra_all (is := [1, 10]) (by kernel_rfl) rfl ?_
                refine raall_cons rfl rfl ?_ ?_
                ·
                  refine do_y (y_load_p rfl Tryd.k29 rfl rfl rfl (vs := [_]) rfl rfl rfl) rfl ?_
                  refine ra_do (i := 10) rfl rfl (by kernel_rfl) ?_
                  refine do_y (y_load_p rfl Tryd.k3 rfl rfl rfl (cut_arr2s (i := kindN k inf a.id) (by omega) (by omega)) rfl rfl) rfl ?_
                  refine ra_do (i := 11) rfl rfl (by kernel_rfl) ?_
                  refine do_call (caps := []) ⟨rfl, trivial⟩ rfl rfl Tryd.c51 rfl (FnP.mono (one_fn k lv inf t d ti a.id vc vp (.slice lad line.length lcap) vk kids (kindS (kindN k inf a.id)) (Y.g (kindN k inf a.id) + 1) (by omega) (by omega) u' s4) ?_)
                  rintro v uK hle0 ⟨_, rfl, qcs, ⟨qad, qcap, rfl, hq1⟩, hq2⟩ hleK
                  refine ra_do (i := 12) rfl rfl (by kernel_rfl) ?_
                  refine do_buildSlice ⟨rfl, trivial⟩ Tryd.s29 Tryd.z38 (ps := [(_, _)]) rfl (xs := [_, _, _, _]) rfl rfl rfl rfl rfl rfl rfl ?_
                  refine ra_do (i := 13) rfl rfl (by kernel_rfl) ?_
                  refine do_append_w_s 1000 ⟨rfl, trivial⟩ rfl rfl Tryd.s29 Tryd.z38 rfl rfl rfl rfl rfl rfl (by simp [Value.oneCell', str]) (by omega) (by omega) rfl rfl ?_
                  intro a4 c4
                  refine ra_y (i := 14) rfl (by kernel_rfl) (by kernel_rfl) (by kernel_rfl) (np_then (np_block (np_then (np_then (np_block (np_then (np_finO))))))) (y_field_p rfl Tryd.f72' rfl (by decide) rfl) rfl ?_
                  refine ra_do (i := 15) rfl rfl (by kernel_rfl) ?_
                  refine do_store_p ⟨rfl, trivial⟩ rfl Tryd.k29 rfl rfl rfl (vs := [_]) rfl rfl (by first | rfl | exact oneAll | exact oneAll2 | simp [Value.oneCell', str]) (Nat.le_of_ble_eq_true rfl) rfl ?_
                  refine ra_end (by kernel_rfl) (ρ' := [(0, _), (1, _), (5, _), (6, _), (7, _), (8, _)]) ⟨rfl, rfl, rfl, rfl, rfl, rfl, trivial⟩ ?_
                  refine q_thenK ?_
                  first
                    | (refine ⟨[(0, _), (1, _), (5, _), (6, _), (7, _), (8, _)], [(5, _), (6, _), (8, _), (1000, _)], ⟨rfl, rfl, rfl, rfl, rfl, rfl, trivial⟩, ⟨rfl, rfl, rfl, rfl, trivial⟩, a3, c3, l3, (VLe.refl _), (by rw [hH]; first | done | rfl | (simp only [List.length_append]; rfl)), rfl, ?_⟩
                       rw [hH]; exact ha3)
                    | (refine ⟨[(0, _), (1, _), (5, _), (6, _), (7, _), (8, _)], [(5, _), (6, _), (8, _), (1000, _)], ⟨rfl, rfl, rfl, rfl, rfl, rfl, trivial⟩, ⟨rfl, rfl, rfl, rfl, trivial⟩, a4, c4, l3 ++ [str a.id, str (kindS (kindN k inf a.id)), str (dec (Y.g (kindN k inf a.id) + 1)), .slice qad (capIf k kids).length qcap], hleK, (by rw [hH]; first | done | rfl | (simp only [List.length_append]; rfl)), rfl, ?_⟩
                       rw [hH]; exact (ha3.mono hleK).snoc ⟨_, rfl, inlS_of rfl hq1 hq2⟩)
                refine raall_cons rfl rfl ?_ ?_
                ·
                  refine do_y (y_load_p rfl Tryd.k3 rfl rfl rfl (cut_arr2s (i := kindN k inf a.id) (by omega) (by omega)) rfl rfl) rfl ?_
                  refine ra_all (is := [1, 11]) (by kernel_rfl) rfl ?_
                  refine raall_cons rfl rfl ?_ ?_
                  ·
                    refine do_y (y_load_p rfl Tryd.k29 rfl rfl rfl (vs := [_]) rfl rfl rfl) rfl ?_
                    refine ra_do (i := 11) rfl rfl (by kernel_rfl) ?_
                    refine do_call (caps := []) ⟨rfl, trivial⟩ rfl rfl Tryd.c51 rfl (FnP.mono (one_fn k lv inf t d ti a.id vc vp (.slice lad line.length lcap) vk kids (kindS (kindN k inf a.id)) (Y.g (kindN k inf a.id) + 1) (by omega) (by omega) u' s4) ?_)
                    rintro v uK hle0 ⟨_, rfl, qcs, ⟨qad, qcap, rfl, hq1⟩, hq2⟩ hleK
                    refine ra_do (i := 12) rfl rfl (by kernel_rfl) ?_
                    refine do_buildSlice ⟨rfl, trivial⟩ Tryd.s29 Tryd.z38 (ps := [(_, _)]) rfl (xs := [_, _, _, _]) rfl rfl rfl rfl rfl rfl rfl ?_
                    refine ra_do (i := 13) rfl rfl (by kernel_rfl) ?_
                    refine do_append_w_s 1000 ⟨rfl, trivial⟩ rfl rfl Tryd.s29 Tryd.z38 rfl rfl rfl rfl rfl rfl (by simp [Value.oneCell', str]) (by omega) (by omega) rfl rfl ?_
                    intro a4 c4
                    refine ra_y (i := 14) rfl (by kernel_rfl) (by kernel_rfl) (by kernel_rfl) (np_then (np_block (np_then (np_then (np_block (np_then (np_finO))))))) (y_field_p rfl Tryd.f72' rfl (by decide) rfl) rfl ?_
                    refine ra_do (i := 15) rfl rfl (by kernel_rfl) ?_
                    refine do_store_p ⟨rfl, trivial⟩ rfl Tryd.k29 rfl rfl rfl (vs := [_]) rfl rfl (by first | rfl | exact oneAll | exact oneAll2 | simp [Value.oneCell', str]) (Nat.le_of_ble_eq_true rfl) rfl ?_
                    refine ra_end (by kernel_rfl) (ρ' := [(0, _), (1, _), (5, _), (6, _), (7, _), (8, _)]) ⟨rfl, rfl, rfl, rfl, rfl, rfl, trivial⟩ ?_
                    refine q_thenK ?_
                    first
                      | (refine ⟨[(0, _), (1, _), (5, _), (6, _), (7, _), (8, _)], [(5, _), (6, _), (8, _), (1000, _)], ⟨rfl, rfl, rfl, rfl, rfl, rfl, trivial⟩, ⟨rfl, rfl, rfl, rfl, trivial⟩, a3, c3, l3, (VLe.refl _), (by rw [hH]; first | done | rfl | (simp only [List.length_append]; rfl)), rfl, ?_⟩
                         rw [hH]; exact ha3)
                      | (refine ⟨[(0, _), (1, _), (5, _), (6, _), (7, _), (8, _)], [(5, _), (6, _), (8, _), (1000, _)], ⟨rfl, rfl, rfl, rfl, rfl, rfl, trivial⟩, ⟨rfl, rfl, rfl, rfl, trivial⟩, a4, c4, l3 ++ [str a.id, str (kindS (kindN k inf a.id)), str (dec (Y.g (kindN k inf a.id) + 1)), .slice qad (capIf k kids).length qcap], hleK, (by rw [hH]; first | done | rfl | (simp only [List.length_append]; rfl)), rfl, ?_⟩
                         rw [hH]; exact (ha3.mono hleK).snoc ⟨_, rfl, inlS_of rfl hq1 hq2⟩)
                  refine raall_cons rfl rfl ?_ ?_
                  ·
                    refine do_call (caps := []) ⟨rfl, trivial⟩ rfl rfl Tryd.c51 rfl (FnP.mono (one_fn k lv inf t d ti a.id vc vp (.slice lad line.length lcap) vk kids (kindS (kindN k inf a.id)) (Y.g (kindN k inf a.id) + 1) (by omega) (by omega) u' s4) ?_)
                    rintro v uK hle0 ⟨_, rfl, qcs, ⟨qad, qcap, rfl, hq1⟩, hq2⟩ hleK
                    refine ra_all (is := [1, 12]) (by kernel_rfl) rfl ?_
                    refine raall_cons rfl rfl ?_ ?_
                    ·
                      refine do_y (y_load_p rfl Tryd.k29 rfl rfl rfl (vs := [_]) rfl rfl rfl) rfl ?_
                      refine ra_do (i := 12) rfl rfl (by kernel_rfl) ?_
                      refine do_buildSlice ⟨rfl, trivial⟩ Tryd.s29 Tryd.z38 (ps := [(_, _)]) rfl (xs := [_, _, _, _]) rfl rfl rfl rfl rfl rfl rfl ?_
                      refine ra_do (i := 13) rfl rfl (by kernel_rfl) ?_
                      refine do_append_w_s 1000 ⟨rfl, trivial⟩ rfl rfl Tryd.s29 Tryd.z38 rfl rfl rfl rfl rfl rfl (by simp [Value.oneCell', str]) (by omega) (by omega) rfl rfl ?_
                      intro a4 c4
                      refine ra_y (i := 14) rfl (by kernel_rfl) (by kernel_rfl) (by kernel_rfl) (np_then (np_block (np_then (np_then (np_block (np_then (np_finO))))))) (y_field_p rfl Tryd.f72' rfl (by decide) rfl) rfl ?_
                      refine ra_do (i := 15) rfl rfl (by kernel_rfl) ?_
                      refine do_store_p ⟨rfl, trivial⟩ rfl Tryd.k29 rfl rfl rfl (vs := [_]) rfl rfl (by first | rfl | exact oneAll | exact oneAll2 | simp [Value.oneCell', str]) (Nat.le_of_ble_eq_true rfl) rfl ?_
                      refine ra_end (by kernel_rfl) (ρ' := [(0, _), (1, _), (5, _), (6, _), (7, _), (8, _)]) ⟨rfl, rfl, rfl, rfl, rfl, rfl, trivial⟩ ?_
                      refine q_thenK ?_
                      first
                        | (refine ⟨[(0, _), (1, _), (5, _), (6, _), (7, _), (8, _)], [(5, _), (6, _), (8, _), (1000, _)], ⟨rfl, rfl, rfl, rfl, rfl, rfl, trivial⟩, ⟨rfl, rfl, rfl, rfl, trivial⟩, a3, c3, l3, (VLe.refl _), (by rw [hH]; first | done | rfl | (simp only [List.length_append]; rfl)), rfl, ?_⟩
                           rw [hH]; exact ha3)
                        | (refine ⟨[(0, _), (1, _), (5, _), (6, _), (7, _), (8, _)], [(5, _), (6, _), (8, _), (1000, _)], ⟨rfl, rfl, rfl, rfl, rfl, rfl, trivial⟩, ⟨rfl, rfl, rfl, rfl, trivial⟩, a4, c4, l3 ++ [str a.id, str (kindS (kindN k inf a.id)), str (dec (Y.g (kindN k inf a.id) + 1)), .slice qad (capIf k kids).length qcap], hleK, (by rw [hH]; first | done | rfl | (simp only [List.length_append]; rfl)), rfl, ?_⟩
                           rw [hH]; exact (ha3.mono hleK).snoc ⟨_, rfl, inlS_of rfl hq1 hq2⟩)
                    refine raall_cons rfl rfl ?_ ?_
                    ·
                      refine do_buildSlice ⟨rfl, trivial⟩ Tryd.s29 Tryd.z38 (ps := [(_, _)]) rfl (xs := [_, _, _, _]) rfl rfl rfl rfl rfl rfl rfl ?_
                      refine ra_do (i := 1) rfl rfl (by kernel_rfl) ?_
                      refine do_y (y_load_p rfl Tryd.k29 rfl rfl rfl (vs := [_]) rfl rfl rfl) rfl ?_
                      refine ra_do (i := 13) rfl rfl (by kernel_rfl) ?_
                      refine do_append_w_s 1000 ⟨rfl, trivial⟩ rfl rfl Tryd.s29 Tryd.z38 rfl rfl rfl rfl rfl rfl (by simp [Value.oneCell', str]) (by omega) (by omega) rfl rfl ?_
                      intro a4 c4
                      refine ra_y (i := 14) rfl (by kernel_rfl) (by kernel_rfl) (by kernel_rfl) (np_then (np_block (np_then (np_then (np_block (np_then (np_finO))))))) (y_field_p rfl Tryd.f72' rfl (by decide) rfl) rfl ?_
                      refine ra_do (i := 15) rfl rfl (by kernel_rfl) ?_
                      refine do_store_p ⟨rfl, trivial⟩ rfl Tryd.k29 rfl rfl rfl (vs := [_]) rfl rfl (by first | rfl | exact oneAll | exact oneAll2 | simp [Value.oneCell', str]) (Nat.le_of_ble_eq_true rfl) rfl ?_
                      refine ra_end (by kernel_rfl) (ρ' := [(0, _), (1, _), (5, _), (6, _), (7, _), (8, _)]) ⟨rfl, rfl, rfl, rfl, rfl, rfl, trivial⟩ ?_
                      refine q_thenK ?_
                      first
                        | (refine ⟨[(0, _), (1, _), (5, _), (6, _), (7, _), (8, _)], [(5, _), (6, _), (8, _), (1000, _)], ⟨rfl, rfl, rfl, rfl, rfl, rfl, trivial⟩, ⟨rfl, rfl, rfl, rfl, trivial⟩, a3, c3, l3, (VLe.refl _), (by rw [hH]; first | done | rfl | (simp only [List.length_append]; rfl)), rfl, ?_⟩
                           rw [hH]; exact ha3)
                        | (refine ⟨[(0, _), (1, _), (5, _), (6, _), (7, _), (8, _)], [(5, _), (6, _), (8, _), (1000, _)], ⟨rfl, rfl, rfl, rfl, rfl, rfl, trivial⟩, ⟨rfl, rfl, rfl, rfl, trivial⟩, a4, c4, l3 ++ [str a.id, str (kindS (kindN k inf a.id)), str (dec (Y.g (kindN k inf a.id) + 1)), .slice qad (capIf k kids).length qcap], hleK, (by rw [hH]; first | done | rfl | (simp only [List.length_append]; rfl)), rfl, ?_⟩
                           rw [hH]; exact (ha3.mono hleK).snoc ⟨_, rfl, inlS_of rfl hq1 hq2⟩)
                    exact raall_nil
                  exact raall_nil
                exact raall_nil
              refine raall_cons rfl rfl ?_ ?_
              ·
                refine do_y (y_load_p rfl Tryd.k3 rfl rfl rfl (cut_arr2s (i := kindN k inf a.id) (by omega) (by omega)) rfl rfl) rfl ?_
                refine ra_all (is := [1, 6]) (by kernel_rfl) rfl ?_
                refine raall_cons rfl rfl ?_ ?_
                ·
                  refine do_y (y_load_p rfl Tryd.k29 rfl rfl rfl (vs := [_]) rfl rfl rfl) rfl ?_
                  refine ra_do (i := 6) rfl rfl (by kernel_rfl) ?_
                  refine do_y (y_load_s rfl Tryd.k9 rfl rfl rfl (kindS_cut (by omega) (by omega)) rfl rfl (by simp; omega)) rfl ?_
                  refine ra_do (i := 11) rfl rfl (by kernel_rfl) ?_
                  refine do_call (caps := []) ⟨rfl, trivial⟩ rfl rfl Tryd.c51 rfl (FnP.mono (one_fn k lv inf t d ti a.id vc vp (.slice lad line.length lcap) vk kids (kindS (kindN k inf a.id)) (Y.g (kindN k inf a.id) + 1) (by omega) (by omega) u' s4) ?_)
                  rintro v uK hle0 ⟨_, rfl, qcs, ⟨qad, qcap, rfl, hq1⟩, hq2⟩ hleK
                  refine ra_do (i := 12) rfl rfl (by kernel_rfl) ?_
                  refine do_buildSlice ⟨rfl, trivial⟩ Tryd.s29 Tryd.z38 (ps := [(_, _)]) rfl (xs := [_, _, _, _]) rfl rfl rfl rfl rfl rfl rfl ?_
                  refine ra_do (i := 13) rfl rfl (by kernel_rfl) ?_
                  refine do_append_w_s 1000 ⟨rfl, trivial⟩ rfl rfl Tryd.s29 Tryd.z38 rfl rfl rfl rfl rfl rfl (by simp [Value.oneCell', str]) (by omega) (by omega) rfl rfl ?_
                  intro a4 c4
                  refine ra_y (i := 14) rfl (by kernel_rfl) (by kernel_rfl) (by kernel_rfl) (np_then (np_block (np_then (np_then (np_block (np_then (np_finO))))))) (y_field_p rfl Tryd.f72' rfl (by decide) rfl) rfl ?_
                  refine ra_do (i := 15) rfl rfl (by kernel_rfl) ?_
                  refine do_store_p ⟨rfl, trivial⟩ rfl Tryd.k29 rfl rfl rfl (vs := [_]) rfl rfl (by first | rfl | exact oneAll | exact oneAll2 | simp [Value.oneCell', str]) (Nat.le_of_ble_eq_true rfl) rfl ?_
                  refine ra_end (by kernel_rfl) (ρ' := [(0, _), (1, _), (5, _), (6, _), (7, _), (8, _)]) ⟨rfl, rfl, rfl, rfl, rfl, rfl, trivial⟩ ?_
                  refine q_thenK ?_
                  first
                    | (refine ⟨[(0, _), (1, _), (5, _), (6, _), (7, _), (8, _)], [(5, _), (6, _), (8, _), (1000, _)], ⟨rfl, rfl, rfl, rfl, rfl, rfl, trivial⟩, ⟨rfl, rfl, rfl, rfl, trivial⟩, a3, c3, l3, (VLe.refl _), (by rw [hH]; first | done | rfl | (simp only [List.length_append]; rfl)), rfl, ?_⟩
                       rw [hH]; exact ha3)
                    | (refine ⟨[(0, _), (1, _), (5, _), (6, _), (7, _), (8, _)], [(5, _), (6, _), (8, _), (1000, _)], ⟨rfl, rfl, rfl, rfl, rfl, rfl, trivial⟩, ⟨rfl, rfl, rfl, rfl, trivial⟩, a4, c4, l3 ++ [str a.id, str (kindS (kindN k inf a.id)), str (dec (Y.g (kindN k inf a.id) + 1)), .slice qad (capIf k kids).length qcap], hleK, (by rw [hH]; first | done | rfl | (simp only [List.length_append]; rfl)), rfl, ?_⟩
                       rw [hH]; exact (ha3.mono hleK).snoc ⟨_, rfl, inlS_of rfl hq1 hq2⟩)
                refine raall_cons rfl rfl ?_ ?_
                ·
                  refine do_y (y_load_s rfl Tryd.k9 rfl rfl rfl (kindS_cut (by omega) (by omega)) rfl rfl (by simp; omega)) rfl ?_
                  refine ra_all (is := [1, 11]) (by kernel_rfl) rfl ?_
                  refine raall_cons rfl rfl ?_ ?_
                  ·
                    refine do_y (y_load_p rfl Tryd.k29 rfl rfl rfl (vs := [_]) rfl rfl rfl) rfl ?_
                    refine ra_do (i := 11) rfl rfl (by kernel_rfl) ?_
                    refine do_call (caps := []) ⟨rfl, trivial⟩ rfl rfl Tryd.c51 rfl (FnP.mono (one_fn k lv inf t d ti a.id vc vp (.slice lad line.length lcap) vk kids (kindS (kindN k inf a.id)) (Y.g (kindN k inf a.id) + 1) (by omega) (by omega) u' s4) ?_)
                    rintro v uK hle0 ⟨_, rfl, qcs, ⟨qad, qcap, rfl, hq1⟩, hq2⟩ hleK
                    refine ra_do (i := 12) rfl rfl (by kernel_rfl) ?_
                    refine do_buildSlice ⟨rfl, trivial⟩ Tryd.s29 Tryd.z38 (ps := [(_, _)]) rfl (xs := [_, _, _, _]) rfl rfl rfl rfl rfl rfl rfl ?_
                    refine ra_do (i := 13) rfl rfl (by kernel_rfl) ?_
                    refine do_append_w_s 1000 ⟨rfl, trivial⟩ rfl rfl Tryd.s29 Tryd.z38 rfl rfl rfl rfl rfl rfl (by simp [Value.oneCell', str]) (by omega) (by omega) rfl rfl ?_
                    intro a4 c4
                    refine ra_y (i := 14) rfl (by kernel_rfl) (by kernel_rfl) (by kernel_rfl) (np_then (np_block (np_then (np_then (np_block (np_then (np_finO))))))) (y_field_p rfl Tryd.f72' rfl (by decide) rfl) rfl ?_
                    refine ra_do (i := 15) rfl rfl (by kernel_rfl) ?_
                    refine do_store_p ⟨rfl, trivial⟩ rfl Tryd.k29 rfl rfl rfl (vs := [_]) rfl rfl (by first | rfl | exact oneAll | exact oneAll2 | simp [Value.oneCell', str]) (Nat.le_of_ble_eq_true rfl) rfl ?_
                    refine ra_end (by kernel_rfl) (ρ' := [(0, _), (1, _), (5, _), (6, _), (7, _), (8, _)]) ⟨rfl, rfl, rfl, rfl, rfl, rfl, trivial⟩ ?_
                    refine q_thenK ?_
                    first
                      | (refine ⟨[(0, _), (1, _), (5, _), (6, _), (7, _), (8, _)], [(5, _), (6, _), (8, _), (1000, _)], ⟨rfl, rfl, rfl, rfl, rfl, rfl, trivial⟩, ⟨rfl, rfl, rfl, rfl, trivial⟩, a3, c3, l3, (VLe.refl _), (by rw [hH]; first | done | rfl | (simp only [List.length_append]; rfl)), rfl, ?_⟩
                         rw [hH]; exact ha3)
                      | (refine ⟨[(0, _), (1, _), (5, _), (6, _), (7, _), (8, _)], [(5, _), (6, _), (8, _), (1000, _)], ⟨rfl, rfl, rfl, rfl, rfl, rfl, trivial⟩, ⟨rfl, rfl, rfl, rfl, trivial⟩, a4, c4, l3 ++ [str a.id, str (kindS (kindN k inf a.id)), str (dec (Y.g (kindN k inf a.id) + 1)), .slice qad (capIf k kids).length qcap], hleK, (by rw [hH]; first | done | rfl | (simp only [List.length_append]; rfl)), rfl, ?_⟩
                         rw [hH]; exact (ha3.mono hleK).snoc ⟨_, rfl, inlS_of rfl hq1 hq2⟩)
                  refine raall_cons rfl rfl ?_ ?_
                  ·
                    refine do_call (caps := []) ⟨rfl, trivial⟩ rfl rfl Tryd.c51 rfl (FnP.mono (one_fn k lv inf t d ti a.id vc vp (.slice lad line.length lcap) vk kids (kindS (kindN k inf a.id)) (Y.g (kindN k inf a.id) + 1) (by omega) (by omega) u' s4) ?_)
                    rintro v uK hle0 ⟨_, rfl, qcs, ⟨qad, qcap, rfl, hq1⟩, hq2⟩ hleK
                    refine ra_all (is := [1, 12]) (by kernel_rfl) rfl ?_
                    refine raall_cons rfl rfl ?_ ?_
                    ·
                      refine do_y (y_load_p rfl Tryd.k29 rfl rfl rfl (vs := [_]) rfl rfl rfl) rfl ?_
                      refine ra_do (i := 12) rfl rfl (by kernel_rfl) ?_
                      refine do_buildSlice ⟨rfl, trivial⟩ Tryd.s29 Tryd.z38 (ps := [(_, _)]) rfl (xs := [_, _, _, _]) rfl rfl rfl rfl rfl rfl rfl ?_
                      refine ra_do (i := 13) rfl rfl (by kernel_rfl) ?_
                      refine do_append_w_s 1000 ⟨rfl, trivial⟩ rfl rfl Tryd.s29 Tryd.z38 rfl rfl rfl rfl rfl rfl (by simp [Value.oneCell', str]) (by omega) (by omega) rfl rfl ?_
                      intro a4 c4
                      refine ra_y (i := 14) rfl (by kernel_rfl) (by kernel_rfl) (by kernel_rfl) (np_then (np_block (np_then (np_then (np_block (np_then (np_finO))))))) (y_field_p rfl Tryd.f72' rfl (by decide) rfl) rfl ?_
                      refine ra_do (i := 15) rfl rfl (by kernel_rfl) ?_
                      refine do_store_p ⟨rfl, trivial⟩ rfl Tryd.k29 rfl rfl rfl (vs := [_]) rfl rfl (by first | rfl | exact oneAll | exact oneAll2 | simp [Value.oneCell', str]) (Nat.le_of_ble_eq_true rfl) rfl ?_
                      refine ra_end (by kernel_rfl) (ρ' := [(0, _), (1, _), (5, _), (6, _), (7, _), (8, _)]) ⟨rfl, rfl, rfl, rfl, rfl, rfl, trivial⟩ ?_
                      refine q_thenK ?_
                      first
                        | (refine ⟨[(0, _), (1, _), (5, _), (6, _), (7, _), (8, _)], [(5, _), (6, _), (8, _), (1000, _)], ⟨rfl, rfl, rfl, rfl, rfl, rfl, trivial⟩, ⟨rfl, rfl, rfl, rfl, trivial⟩, a3, c3, l3, (VLe.refl _), (by rw [hH]; first | done | rfl | (simp only [List.length_append]; rfl)), rfl, ?_⟩
                           rw [hH]; exact ha3)
                        | (refine ⟨[(0, _), (1, _), (5, _), (6, _), (7, _), (8, _)], [(5, _), (6, _), (8, _), (1000, _)], ⟨rfl, rfl, rfl, rfl, rfl, rfl, trivial⟩, ⟨rfl, rfl, rfl, rfl, trivial⟩, a4, c4, l3 ++ [str a.id, str (kindS (kindN k inf a.id)), str (dec (Y.g (kindN k inf a.id) + 1)), .slice qad (capIf k kids).length qcap], hleK, (by rw [hH]; first | done | rfl | (simp only [List.length_append]; rfl)), rfl, ?_⟩
                           rw [hH]; exact (ha3.mono hleK).snoc ⟨_, rfl, inlS_of rfl hq1 hq2⟩)
                    refine raall_cons rfl rfl ?_ ?_
                    ·
                      refine do_buildSlice ⟨rfl, trivial⟩ Tryd.s29 Tryd.z38 (ps := [(_, _)]) rfl (xs := [_, _, _, _]) rfl rfl rfl rfl rfl rfl rfl ?_
                      refine ra_do (i := 1) rfl rfl (by kernel_rfl) ?_
                      refine do_y (y_load_p rfl Tryd.k29 rfl rfl rfl (vs := [_]) rfl rfl rfl) rfl ?_
                      refine ra_do (i := 13) rfl rfl (by kernel_rfl) ?_
                      refine do_append_w_s 1000 ⟨rfl, trivial⟩ rfl rfl Tryd.s29 Tryd.z38 rfl rfl rfl rfl rfl rfl (by simp [Value.oneCell', str]) (by omega) (by omega) rfl rfl ?_
                      intro a4 c4
                      refine ra_y (i := 14) rfl (by kernel_rfl) (by kernel_rfl) (by kernel_rfl) (np_then (np_block (np_then (np_then (np_block (np_then (np_finO))))))) (y_field_p rfl Tryd.f72' rfl (by decide) rfl) rfl ?_
                      refine ra_do (i := 15) rfl rfl (by kernel_rfl) ?_
                      refine do_store_p ⟨rfl, trivial⟩ rfl Tryd.k29 rfl rfl rfl (vs := [_]) rfl rfl (by first | rfl | exact oneAll | exact oneAll2 | simp [Value.oneCell', str]) (Nat.le_of_ble_eq_true rfl) rfl ?_
                      refine ra_end (by kernel_rfl) (ρ' := [(0, _), (1, _), (5, _), (6, _), (7, _), (8, _)]) ⟨rfl, rfl, rfl, rfl, rfl, rfl, trivial⟩ ?_
                      refine q_thenK ?_
                      first
                        | (refine ⟨[(0, _), (1, _), (5, _), (6, _), (7, _), (8, _)], [(5, _), (6, _), (8, _), (1000, _)], ⟨rfl, rfl, rfl, rfl, rfl, rfl, trivial⟩, ⟨rfl, rfl, rfl, rfl, trivial⟩, a3, c3, l3, (VLe.refl _), (by rw [hH]; first | done | rfl | (simp only [List.length_append]; rfl)), rfl, ?_⟩
                           rw [hH]; exact ha3)
                        | (refine ⟨[(0, _), (1, _), (5, _), (6, _), (7, _), (8, _)], [(5, _), (6, _), (8, _), (1000, _)], ⟨rfl, rfl, rfl, rfl, rfl, rfl, trivial⟩, ⟨rfl, rfl, rfl, rfl, trivial⟩, a4, c4, l3 ++ [str a.id, str (kindS (kindN k inf a.id)), str (dec (Y.g (kindN k inf a.id) + 1)), .slice qad (capIf k kids).length qcap], hleK, (by rw [hH]; first | done | rfl | (simp only [List.length_append]; rfl)), rfl, ?_⟩
                           rw [hH]; exact (ha3.mono hleK).snoc ⟨_, rfl, inlS_of rfl hq1 hq2⟩)
                    exact raall_nil
                  exact raall_nil
                exact raall_nil
              exact raall_nil
            refine raall_cons rfl rfl ?_ ?_
            ·
              refine do_y (y_load_p rfl Tryd.k3 rfl rfl rfl (cut_arr2s (i := kindN k inf a.id) (by omega) (by omega)) rfl rfl) rfl ?_
              refine ra_all (is := [1, 3]) (by kernel_rfl) rfl ?_
              refine raall_cons rfl rfl ?_ ?_
              ·
                refine do_y (y_load_p rfl Tryd.k29 rfl rfl rfl (vs := [_]) rfl rfl rfl) rfl ?_
                refine ra_do (i := 3) rfl rfl (by kernel_rfl) ?_
                refine do_buildSlice ⟨rfl, trivial⟩ Tryd.s32 Tryd.z9 (ps := [(_, _), (_, _), (_, _), (_, _)]) rfl (xs := [_, _, _, _]) rfl rfl rfl rfl rfl rfl rfl ?_
                refine ra_y (i := 5) rfl (by kernel_rfl) (by kernel_rfl) (by kernel_rfl) (np_then (np_block (np_then (np_then (np_block (np_then (np_finO))))))) (y_index_s rfl Tryd.s32 rfl rfl rfl (j := kindN k inf a.id) (by first | rfl | omega) (by omega)) rfl ?_
                refine ra_do (i := 6) rfl rfl (by kernel_rfl) ?_
                refine do_y (y_load_s rfl Tryd.k9 rfl rfl rfl (kindS_cut (by omega) (by omega)) rfl rfl (by simp; omega)) rfl ?_
                refine ra_do (i := 11) rfl rfl (by kernel_rfl) ?_
                refine do_call (caps := []) ⟨rfl, trivial⟩ rfl rfl Tryd.c51 rfl (FnP.mono (one_fn k lv inf t d ti a.id vc vp (.slice lad line.length lcap) vk kids (kindS (kindN k inf a.id)) (Y.g (kindN k inf a.id) + 1) (by omega) (by omega) u' s4) ?_)
                rintro v uK hle0 ⟨_, rfl, qcs, ⟨qad, qcap, rfl, hq1⟩, hq2⟩ hleK
                refine ra_do (i := 12) rfl rfl (by kernel_rfl) ?_
                refine do_buildSlice ⟨rfl, trivial⟩ Tryd.s29 Tryd.z38 (ps := [(_, _)]) rfl (xs := [_, _, _, _]) rfl rfl rfl rfl rfl rfl rfl ?_
                refine ra_do (i := 13) rfl rfl (by kernel_rfl) ?_
                refine do_append_w_s 1000 ⟨rfl, trivial⟩ rfl rfl Tryd.s29 Tryd.z38 rfl rfl rfl rfl rfl rfl (by simp [Value.oneCell', str]) (by omega) (by omega) rfl rfl ?_
                intro a4 c4
                refine ra_y (i := 14) rfl (by kernel_rfl) (by kernel_rfl) (by kernel_rfl) (np_then (np_block (np_then (np_then (np_block (np_then (np_finO))))))) (y_field_p rfl Tryd.f72' rfl (by decide) rfl) rfl ?_
                refine ra_do (i := 15) rfl rfl (by kernel_rfl) ?_
                refine do_store_p ⟨rfl, trivial⟩ rfl Tryd.k29 rfl rfl rfl (vs := [_]) rfl rfl (by first | rfl | exact oneAll | exact oneAll2 | simp [Value.oneCell', str]) (Nat.le_of_ble_eq_true rfl) rfl ?_
                refine ra_end (by kernel_rfl) (ρ' := [(0, _), (1, _), (5, _), (6, _), (7, _), (8, _)]) ⟨rfl, rfl, rfl, rfl, rfl, rfl, trivial⟩ ?_
                refine q_thenK ?_
                first
                  | (refine ⟨[(0, _), (1, _), (5, _), (6, _), (7, _), (8, _)], [(5, _), (6, _), (8, _), (1000, _)], ⟨rfl, rfl, rfl, rfl, rfl, rfl, trivial⟩, ⟨rfl, rfl, rfl, rfl, trivial⟩, a3, c3, l3, (VLe.refl _), (by rw [hH]; first | done | rfl | (simp only [List.length_append]; rfl)), rfl, ?_⟩
                     rw [hH]; exact ha3)
                  | (refine ⟨[(0, _), (1, _), (5, _), (6, _), (7, _), (8, _)], [(5, _), (6, _), (8, _), (1000, _)], ⟨rfl, rfl, rfl, rfl, rfl, rfl, trivial⟩, ⟨rfl, rfl, rfl, rfl, trivial⟩, a4, c4, l3 ++ [str a.id, str (kindS (kindN k inf a.id)), str (dec (Y.g (kindN k inf a.id) + 1)), .slice qad (capIf k kids).length qcap], hleK, (by rw [hH]; first | done | rfl | (simp only [List.length_append]; rfl)), rfl, ?_⟩
                     rw [hH]; exact (ha3.mono hleK).snoc ⟨_, rfl, inlS_of rfl hq1 hq2⟩)
              refine raall_cons rfl rfl ?_ ?_
              ·
                refine do_buildSlice ⟨rfl, trivial⟩ Tryd.s32 Tryd.z9 (ps := [(_, _), (_, _), (_, _), (_, _)]) rfl (xs := [_, _, _, _]) rfl rfl rfl rfl rfl rfl rfl ?_
                refine ra_y (i := 5) rfl (by kernel_rfl) (by kernel_rfl) (by kernel_rfl) (np_then (np_block (np_then (np_then (np_block (np_then (np_finO))))))) (y_index_s rfl Tryd.s32 rfl rfl rfl (j := kindN k inf a.id) (by first | rfl | omega) (by omega)) rfl ?_
                refine ra_all (is := [1, 6]) (by kernel_rfl) rfl ?_
                refine raall_cons rfl rfl ?_ ?_
                ·
                  refine do_y (y_load_p rfl Tryd.k29 rfl rfl rfl (vs := [_]) rfl rfl rfl) rfl ?_
                  refine ra_do (i := 6) rfl rfl (by kernel_rfl) ?_
                  refine do_y (y_load_s rfl Tryd.k9 rfl rfl rfl (kindS_cut (by omega) (by omega)) rfl rfl (by simp; omega)) rfl ?_
                  refine ra_do (i := 11) rfl rfl (by kernel_rfl) ?_
                  refine do_call (caps := []) ⟨rfl, trivial⟩ rfl rfl Tryd.c51 rfl (FnP.mono (one_fn k lv inf t d ti a.id vc vp (.slice lad line.length lcap) vk kids (kindS (kindN k inf a.id)) (Y.g (kindN k inf a.id) + 1) (by omega) (by omega) u' s4) ?_)
                  rintro v uK hle0 ⟨_, rfl, qcs, ⟨qad, qcap, rfl, hq1⟩, hq2⟩ hleK
                  refine ra_do (i := 12) rfl rfl (by kernel_rfl) ?_
                  refine do_buildSlice ⟨rfl, trivial⟩ Tryd.s29 Tryd.z38 (ps := [(_, _)]) rfl (xs := [_, _, _, _]) rfl rfl rfl rfl rfl rfl rfl ?_
                  refine ra_do (i := 13) rfl rfl (by kernel_rfl) ?_
                  refine do_append_w_s 1000 ⟨rfl, trivial⟩ rfl rfl Tryd.s29 Tryd.z38 rfl rfl rfl rfl rfl rfl (by simp [Value.oneCell', str]) (by omega) (by omega) rfl rfl ?_
                  intro a4 c4
                  refine ra_y (i := 14) rfl (by kernel_rfl) (by kernel_rfl) (by kernel_rfl) (np_then (np_block (np_then (np_then (np_block (np_then (np_finO))))))) (y_field_p rfl Tryd.f72' rfl (by decide) rfl) rfl ?_
                  refine ra_do (i := 15) rfl rfl (by kernel_rfl) ?_
                  refine do_store_p ⟨rfl, trivial⟩ rfl Tryd.k29 rfl rfl rfl (vs := [_]) rfl rfl (by first | rfl | exact oneAll | exact oneAll2 | simp [Value.oneCell', str]) (Nat.le_of_ble_eq_true rfl) rfl ?_
                  refine ra_end (by kernel_rfl) (ρ' := [(0, _), (1, _), (5, _), (6, _), (7, _), (8, _)]) ⟨rfl, rfl, rfl, rfl, rfl, rfl, trivial⟩ ?_
                  refine q_thenK ?_
                  first
                    | (refine ⟨[(0, _), (1, _), (5, _), (6, _), (7, _), (8, _)], [(5, _), (6, _), (8, _), (1000, _)], ⟨rfl, rfl, rfl, rfl, rfl, rfl, trivial⟩, ⟨rfl, rfl, rfl, rfl, trivial⟩, a3, c3, l3, (VLe.refl _), (by rw [hH]; first | done | rfl | (simp only [List.length_append]; rfl)), rfl, ?_⟩
                       rw [hH]; exact ha3)
                    | (refine ⟨[(0, _), (1, _), (5, _), (6, _), (7, _), (8, _)], [(5, _), (6, _), (8, _), (1000, _)], ⟨rfl, rfl, rfl, rfl, rfl, rfl, trivial⟩, ⟨rfl, rfl, rfl, rfl, trivial⟩, a4, c4, l3 ++ [str a.id, str (kindS (kindN k inf a.id)), str (dec (Y.g (kindN k inf a.id) + 1)), .slice qad (capIf k kids).length qcap], hleK, (by rw [hH]; first | done | rfl | (simp only [List.length_append]; rfl)), rfl, ?_⟩
                       rw [hH]; exact (ha3.mono hleK).snoc ⟨_, rfl, inlS_of rfl hq1 hq2⟩)
                refine raall_cons rfl rfl ?_ ?_
                ·
                  refine do_y (y_load_s rfl Tryd.k9 rfl rfl rfl (kindS_cut (by omega) (by omega)) rfl rfl (by simp; omega)) rfl ?_
                  refine ra_all (is := [1, 11]) (by kernel_rfl) rfl ?_
                  refine raall_cons rfl rfl ?_ ?_
                  ·
                    refine do_y (y_load_p rfl Tryd.k29 rfl rfl rfl (vs := [_]) rfl rfl rfl) rfl ?_
                    refine ra_do (i := 11) rfl rfl (by kernel_rfl) ?_
                    refine do_call (caps := []) ⟨rfl, trivial⟩ rfl rfl Tryd.c51 rfl (FnP.mono (one_fn k lv inf t d ti a.id vc vp (.slice lad line.length lcap) vk kids (kindS (kindN k inf a.id)) (Y.g (kindN k inf a.id) + 1) (by omega) (by omega) u' s4) ?_)
                    rintro v uK hle0 ⟨_, rfl, qcs, ⟨qad, qcap, rfl, hq1⟩, hq2⟩ hleK
                    refine ra_do (i := 12) rfl rfl (by kernel_rfl) ?_
                    refine do_buildSlice ⟨rfl, trivial⟩ Tryd.s29 Tryd.z38 (ps := [(_, _)]) rfl (xs := [_, _, _, _]) rfl rfl rfl rfl rfl rfl rfl ?_
                    refine ra_do (i := 13) rfl rfl (by kernel_rfl) ?_
                    refine do_append_w_s 1000 ⟨rfl, trivial⟩ rfl rfl Tryd.s29 Tryd.z38 rfl rfl rfl rfl rfl rfl (by simp [Value.oneCell', str]) (by omega) (by omega) rfl rfl ?_
                    intro a4 c4
                    refine ra_y (i := 14) rfl (by kernel_rfl) (by kernel_rfl) (by kernel_rfl) (np_then (np_block (np_then (np_then (np_block (np_then (np_finO))))))) (y_field_p rfl Tryd.f72' rfl (by decide) rfl) rfl ?_
                    refine ra_do (i := 15) rfl rfl (by kernel_rfl) ?_
                    refine do_store_p ⟨rfl, trivial⟩ rfl Tryd.k29 rfl rfl rfl (vs := [_]) rfl rfl (by first | rfl | exact oneAll | exact oneAll2 | simp [Value.oneCell', str]) (Nat.le_of_ble_eq_true rfl) rfl ?_
                    refine ra_end (by kernel_rfl) (ρ' := [(0, _), (1, _), (5, _), (6, _), (7, _), (8, _)]) ⟨rfl, rfl, rfl, rfl, rfl, rfl, trivial⟩ ?_
                    refine q_thenK ?_
                    first
                      | (refine ⟨[(0, _), (1, _), (5, _), (6, _), (7, _), (8, _)], [(5, _), (6, _), (8, _), (1000, _)], ⟨rfl, rfl, rfl, rfl, rfl, rfl, trivial⟩, ⟨rfl, rfl, rfl, rfl, trivial⟩, a3, c3, l3, (VLe.refl _), (by rw [hH]; first | done | rfl | (simp only [List.length_append]; rfl)), rfl, ?_⟩
                         rw [hH]; exact ha3)
                      | (refine ⟨[(0, _), (1, _), (5, _), (6, _), (7, _), (8, _)], [(5, _), (6, _), (8, _), (1000, _)], ⟨rfl, rfl, rfl, rfl, rfl, rfl, trivial⟩, ⟨rfl, rfl, rfl, rfl, trivial⟩, a4, c4, l3 ++ [str a.id, str (kindS (kindN k inf a.id)), str (dec (Y.g (kindN k inf a.id) + 1)), .slice qad (capIf k kids).length qcap], hleK, (by rw [hH]; first | done | rfl | (simp only [List.length_append]; rfl)), rfl, ?_⟩
                         rw [hH]; exact (ha3.mono hleK).snoc ⟨_, rfl, inlS_of rfl hq1 hq2⟩)
                  refine raall_cons rfl rfl ?_ ?_
                  ·
                    refine do_call (caps := []) ⟨rfl, trivial⟩ rfl rfl Tryd.c51 rfl (FnP.mono (one_fn k lv inf t d ti a.id vc vp (.slice lad line.length lcap) vk kids (kindS (kindN k inf a.id)) (Y.g (kindN k inf a.id) + 1) (by omega) (by omega) u' s4) ?_)
                    rintro v uK hle0 ⟨_, rfl, qcs, ⟨qad, qcap, rfl, hq1⟩, hq2⟩ hleK
                    refine ra_all (is := [1, 12]) (by kernel_rfl) rfl ?_
                    refine raall_cons rfl rfl ?_ ?_
                    ·
                      refine do_y (y_load_p rfl Tryd.k29 rfl rfl rfl (vs := [_]) rfl rfl rfl) rfl ?_
                      refine ra_do (i := 12) rfl rfl (by kernel_rfl) ?_
                      refine do_buildSlice ⟨rfl, trivial⟩ Tryd.s29 Tryd.z38 (ps := [(_, _)]) rfl (xs := [_, _, _, _]) rfl rfl rfl rfl rfl rfl rfl ?_
                      refine ra_do (i := 13) rfl rfl (by kernel_rfl) ?_
                      refine do_append_w_s 1000 ⟨rfl, trivial⟩ rfl rfl Tryd.s29 Tryd.z38 rfl rfl rfl rfl rfl rfl (by simp [Value.oneCell', str]) (by omega) (by omega) rfl rfl ?_
                      intro a4 c4
                      refine ra_y (i := 14) rfl (by kernel_rfl) (by kernel_rfl) (by kernel_rfl) (np_then (np_block (np_then (np_then (np_block (np_then (np_finO))))))) (y_field_p rfl Tryd.f72' rfl (by decide) rfl) rfl ?_
                      refine ra_do (i := 15) rfl rfl (by kernel_rfl) ?_
                      refine do_store_p ⟨rfl, trivial⟩ rfl Tryd.k29 rfl rfl rfl (vs := [_]) rfl rfl (by first | rfl | exact oneAll | exact oneAll2 | simp [Value.oneCell', str]) (Nat.le_of_ble_eq_true rfl) rfl ?_
                      refine ra_end (by kernel_rfl) (ρ' := [(0, _), (1, _), (5, _), (6, _), (7, _), (8, _)]) ⟨rfl, rfl, rfl, rfl, rfl, rfl, trivial⟩ ?_
                      refine q_thenK ?_
                      first
                        | (refine ⟨[(0, _), (1, _), (5, _), (6, _), (7, _), (8, _)], [(5, _), (6, _), (8, _), (1000, _)], ⟨rfl, rfl, rfl, rfl, rfl, rfl, trivial⟩, ⟨rfl, rfl, rfl, rfl, trivial⟩, a3, c3, l3, (VLe.refl _), (by rw [hH]; first | done | rfl | (simp only [List.length_append]; rfl)), rfl, ?_⟩
                           rw [hH]; exact ha3)
                        | (refine ⟨[(0, _), (1, _), (5, _), (6, _), (7, _), (8, _)], [(5, _), (6, _), (8, _), (1000, _)], ⟨rfl, rfl, rfl, rfl, rfl, rfl, trivial⟩, ⟨rfl, rfl, rfl, rfl, trivial⟩, a4, c4, l3 ++ [str a.id, str (kindS (kindN k inf a.id)), str (dec (Y.g (kindN k inf a.id) + 1)), .slice qad (capIf k kids).length qcap], hleK, (by rw [hH]; first | done | rfl | (simp only [List.length_append]; rfl)), rfl, ?_⟩
                           rw [hH]; exact (ha3.mono hleK).snoc ⟨_, rfl, inlS_of rfl hq1 hq2⟩)
                    refine raall_cons rfl rfl ?_ ?_
                    ·
                      refine do_buildSlice ⟨rfl, trivial⟩ Tryd.s29 Tryd.z38 (ps := [(_, _)]) rfl (xs := [_, _, _, _]) rfl rfl rfl rfl rfl rfl rfl ?_
                      refine ra_do (i := 1) rfl rfl (by kernel_rfl) ?_
                      refine do_y (y_load_p rfl Tryd.k29 rfl rfl rfl (vs := [_]) rfl rfl rfl) rfl ?_
                      refine ra_do (i := 13) rfl rfl (by kernel_rfl) ?_
                      refine do_append_w_s 1000 ⟨rfl, trivial⟩ rfl rfl Tryd.s29 Tryd.z38 rfl rfl rfl rfl rfl rfl (by simp [Value.oneCell', str]) (by omega) (by omega) rfl rfl ?_
                      intro a4 c4
                      refine ra_y (i := 14) rfl (by kernel_rfl) (by kernel_rfl) (by kernel_rfl) (np_then (np_block (np_then (np_then (np_block (np_then (np_finO))))))) (y_field_p rfl Tryd.f72' rfl (by decide) rfl) rfl ?_
                      refine ra_do (i := 15) rfl rfl (by kernel_rfl) ?_
                      refine do_store_p ⟨rfl, trivial⟩ rfl Tryd.k29 rfl rfl rfl (vs := [_]) rfl rfl (by first | rfl | exact oneAll | exact oneAll2 | simp [Value.oneCell', str]) (Nat.le_of_ble_eq_true rfl) rfl ?_
                      refine ra_end (by kernel_rfl) (ρ' := [(0, _), (1, _), (5, _), (6, _), (7, _), (8, _)]) ⟨rfl, rfl, rfl, rfl, rfl, rfl, trivial⟩ ?_
                      refine q_thenK ?_
                      first
                        | (refine ⟨[(0, _), (1, _), (5, _), (6, _), (7, _), (8, _)], [(5, _), (6, _), (8, _), (1000, _)], ⟨rfl, rfl, rfl, rfl, rfl, rfl, trivial⟩, ⟨rfl, rfl, rfl, rfl, trivial⟩, a3, c3, l3, (VLe.refl _), (by rw [hH]; first | done | rfl | (simp only [List.length_append]; rfl)), rfl, ?_⟩
                           rw [hH]; exact ha3)
                        | (refine ⟨[(0, _), (1, _), (5, _), (6, _), (7, _), (8, _)], [(5, _), (6, _), (8, _), (1000, _)], ⟨rfl, rfl, rfl, rfl, rfl, rfl, trivial⟩, ⟨rfl, rfl, rfl, rfl, trivial⟩, a4, c4, l3 ++ [str a.id, str (kindS (kindN k inf a.id)), str (dec (Y.g (kindN k inf a.id) + 1)), .slice qad (capIf k kids).length qcap], hleK, (by rw [hH]; first | done | rfl | (simp only [List.length_append]; rfl)), rfl, ?_⟩
                           rw [hH]; exact (ha3.mono hleK).snoc ⟨_, rfl, inlS_of rfl hq1 hq2⟩)
                    exact raall_nil
                  exact raall_nil
                exact raall_nil
              exact raall_nil
            exact raall_nil
          ·
            have hH : kindStep k inf a kids Y = Y := if_neg (by have := of_decide_eq_false hb14; omega)
            refine wc_skip ?_
            refine q_thenK ?_
            first
              | (refine ⟨[(0, _), (1, _), (5, _), (6, _), (7, _), (8, _)], [(5, _), (6, _), (8, _), (1000, _)], ⟨rfl, rfl, rfl, rfl, rfl, rfl, trivial⟩, ⟨rfl, rfl, rfl, rfl, trivial⟩, a3, c3, l3, (VLe.refl _), (by rw [hH]; first | done | rfl | (simp only [List.length_append]; rfl)), rfl, ?_⟩
                 rw [hH]; exact ha3)
              | (refine ⟨[(0, _), (1, _), (5, _), (6, _), (7, _), (8, _)], [(5, _), (6, _), (8, _), (1000, _)], ⟨rfl, rfl, rfl, rfl, rfl, rfl, trivial⟩, ⟨rfl, rfl, rfl, rfl, trivial⟩, a4, c4, l3 ++ [str a.id, str (kindS (kindN k inf a.id)), str (dec (Y.g (kindN k inf a.id) + 1)), .slice qad (capIf k kids).length qcap], hleK, (by rw [hH]; first | done | rfl | (simp only [List.length_append]; rfl)), rfl, ?_⟩
                 rw [hH]; exact (ha3.mono hleK).snoc ⟨_, rfl, inlS_of rfl hq1 hq2⟩)
        ·
          rintro ρ σ uc17 ⟨a5, c5, l5, hlc17, rfl, rfl, ha5⟩
          generalize kindStep k inf a kids Y = Z at *
          obtain ⟨q, hqf⟩ : ∃ q, q = free := ⟨_, rfl⟩
          have hqe : some (SV.v (.bool free)) = some (SV.v (.bool q)) := by rw [hqf]
          have hkf : kidsFree free k = (q && decide (k = 13)) := by rw [hqf]; unfold kidsFree; cases free <;> simp
          refine wc_region ?_
          refine rl_y (y_field_p rfl Tryd.f42' rfl (by decide) rfl) rfl ?_
          refine rl_y (y_load_p rfl Tryd.k23 rfl rfl rfl (vs := [_]) rfl rfl rfl) rfl ?_
          refine rl_y (y_move rfl rfl) rfl ?_
          refine rl_y (y_move rfl hqe) rfl ?_
          rcases Bool.eq_false_or_eq_true (q) with hg17_3 | hg17_3
          ·
            simp only [hg17_3]
            refine rl_on rfl rfl ?_
            refine rl_y (y_field_p rfl Tryd.f42' rfl (by decide) rfl) rfl ?_
            refine rl_on rfl rfl ?_
            refine rl_y (y_load_p rfl Tryd.k3 rfl rfl rfl (vs := [_]) rfl rfl rfl) rfl ?_
            refine rl_on rfl rfl ?_
            refine rl_y (y_eql rfl rfl rfl) rfl ?_
            refine rl_y (y_pick_t rfl rfl rfl) rfl ?_
            refine rl_y (y_load_p rfl Tryd.k72 rfl rfl rfl (vs := csV Z (.slice a5 Z.out.length c5)) rfl rfl rfl) rfl ?_
            refine rl_do rfl rfl ?_
            refine do_call_o (caps := []) (ρ' := [(0, _), (1, _), (5, _), (6, _), (7, _)]) [1000] [] trivial rfl rfl rfl Tryd.c34 rfl rfl ⟨rfl, rfl, rfl, rfl, rfl, trivial⟩ rfl rfl rfl (FnO.mono (ih (szB kids) (by omega) vk kids _ Z a5 c5 l5 (B + szB (List.take i bs) + 1) uc17 (Nat.le_refl _) (by omega) hZl (s4.mono hlc17) ha5) ?_)
            rintro v u1 l1 hle1 ⟨a6, c6, l6, rfl, rfl, ha6⟩ -
            refine ⟨⟨fun _ h => h, trivial⟩, ?_⟩
            refine rl_do rfl rfl ?_
            refine do_store_p trivial rfl Tryd.k72 rfl rfl rfl (vs := csV _ (.slice _ _ _)) rfl rfl rfl (Nat.le_of_ble_eq_true rfl) (cs' := csV _ (.slice _ _ _)) rfl ?_
            refine rl_end (ρ' := [(0, _), (1, _), (5, _), (6, _), (7, _)]) ⟨rfl, rfl, rfl, rfl, rfl, trivial⟩ ?_
            refine q_block ?_
            refine q_then ?_
            refine wc_region ?_
            refine rl_y (y_move rfl rfl) rfl ?_
            refine rl_y (y_add rfl rfl rfl (wrap64_id (by omega))) rfl ?_
            refine rl_y (y_assign rfl rfl) rfl ?_
            refine rl_end (ρ' := [(0, _), (1, _), (5, _), (6, _), (7, _)]) ⟨rfl, rfl, rfl, rfl, rfl, trivial⟩ ?_
            refine q_thenK ?_
            refine ⟨m - 1, [(0, _), (1, _), (5, _), (6, _), (7, _)], [(5, _), (6, _), (1000, _)], by omega, ⟨rfl, rfl, rfl, rfl, rfl, trivial⟩, ⟨rfl, rfl, rfl, trivial⟩, i + 1, by omega, (hle2.trans (hlc17.trans hle1)), a6, c6, l6, (by simp only [hst, hkf, hg17_3, Bool.true_and, Bool.false_and]), (by first | rfl | simp), ?_⟩
            simp only [hst, hkf, hg17_3, Bool.true_and, Bool.false_and]
            exact ha6
          ·
            simp only [hg17_3]
            refine rl_off rfl rfl rfl rfl ?_
            refine rl_off rfl rfl rfl rfl ?_
            refine rl_off rfl rfl rfl rfl ?_
            refine rl_y (y_pick_f rfl rfl rfl) rfl ?_
            refine rl_y (y_load_p rfl Tryd.k72 rfl rfl rfl (vs := csV Z (.slice a5 Z.out.length c5)) rfl rfl rfl) rfl ?_
            refine rl_do rfl rfl ?_
            refine do_call_o (caps := []) (ρ' := [(0, _), (1, _), (5, _), (6, _), (7, _)]) [1000] [] trivial rfl rfl rfl Tryd.c34 rfl rfl ⟨rfl, rfl, rfl, rfl, rfl, trivial⟩ rfl rfl rfl (FnO.mono (ih (szB kids) (by omega) vk kids _ Z a5 c5 l5 (B + szB (List.take i bs) + 1) uc17 (Nat.le_refl _) (by omega) hZl (s4.mono hlc17) ha5) ?_)
            rintro v u1 l1 hle1 ⟨a6, c6, l6, rfl, rfl, ha6⟩ -
            refine ⟨⟨fun _ h => h, trivial⟩, ?_⟩
            refine rl_do rfl rfl ?_
            refine do_store_p trivial rfl Tryd.k72 rfl rfl rfl (vs := csV _ (.slice _ _ _)) rfl rfl rfl (Nat.le_of_ble_eq_true rfl) (cs' := csV _ (.slice _ _ _)) rfl ?_
            refine rl_end (ρ' := [(0, _), (1, _), (5, _), (6, _), (7, _)]) ⟨rfl, rfl, rfl, rfl, rfl, trivial⟩ ?_
            refine q_block ?_
            refine q_then ?_
            refine wc_region ?_
            refine rl_y (y_move rfl rfl) rfl ?_
            refine rl_y (y_add rfl rfl rfl (wrap64_id (by omega))) rfl ?_
            refine rl_y (y_assign rfl rfl) rfl ?_
            refine rl_end (ρ' := [(0, _), (1, _), (5, _), (6, _), (7, _)]) ⟨rfl, rfl, rfl, rfl, rfl, trivial⟩ ?_
            refine q_thenK ?_
            refine ⟨m - 1, [(0, _), (1, _), (5, _), (6, _), (7, _)], [(5, _), (6, _), (1000, _)], by omega, ⟨rfl, rfl, rfl, rfl, rfl, trivial⟩, ⟨rfl, rfl, rfl, trivial⟩, i + 1, by omega, (hle2.trans (hlc17.trans hle1)), a6, c6, l6, (by simp only [hst, hkf, hg17_3, Bool.true_and, Bool.false_and]), (by first | rfl | simp), ?_⟩
            simp only [hst, hkf, hg17_3, Bool.true_and, Bool.false_and]
            exact ha6
    ·
      refine wc_exit ?_
      refine q_then_exit ?_
      refine q_then_exit ?_
      refine q_block_hit ?_
      refine q_then ?_
      refine wc_seq ?_
      refine wc_region ?_
      refine rl_y (y_load_p rfl Tryd.k72 rfl rfl rfl (vs := [_, _, _, _, _, _, _, _, _, _, _, _]) rfl rfl rfl) rfl ?_
      refine rl_do rfl rfl ?_
      refine do_store_p trivial rfl Tryd.k72 rfl rfl rfl (vs := [_, _, _, _, _, _, _, _, _, _, _, _]) rfl rfl (by first | rfl | exact oneAll | exact oneAll2 | simp [Value.oneCell', str]) (Nat.le_of_ble_eq_true rfl) rfl ?_
      refine rl_end (ρ' := [(6, _)]) ⟨rfl, trivial⟩ ?_
      refine q_then ?_
      refine wc_ret ?_
      refine finO1 [1000] (.cell rfl rfl Tryd.k72 (cs := _) (vs := [_, _, _, _, _, _, _, _, _, _, _, _]) rfl rfl rfl) rfl rfl ?_
      have hge := of_decide_eq_false hb2
      rw [List.take_of_length_le (by omega)] at hai ⊢
      exact ⟨_, _, _, rfl, rfl, hai⟩
end Go.Proofs.Ythnboadnehbciaa
