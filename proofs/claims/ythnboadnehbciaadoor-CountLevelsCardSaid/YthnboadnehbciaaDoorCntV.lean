/- Count: the values of sections rise. -/
import Derived.Test.YthnboadnehbciaaDoorCntU
namespace Go.Proofs.Ythnboadnehbciaa
open Go Go.Eng
set_option linter.unusedSimpArgs false
set_option linter.unusedVariables false
set_option maxRecDepth 4000

theorem aft_drop : ∀ (k : Nat) (a b : List Nat), k ≤ a.length → k ≤ b.length → (∀ j, j < k → a[j]? = b[j]?) → aft a b = aft (a.drop k) (b.drop k)
  | 0, a, b, _, _, _ => by simp
  | k + 1, [], b, h, _, _ => by simp at h
  | k + 1, x :: a, [], _, h, _ => by simp at h
  | k + 1, x :: a, y :: b, ha, hb, h => by
    have h0 := h 0 (by omega)
    simp at h0
    subst h0
    rw [aft, if_pos rfl, List.drop_succ_cons, List.drop_succ_cons]
    exact aft_drop k a b (by simpa using ha) (by simpa using hb) fun j hj => by simpa using h (j + 1) (by omega)
def firsts (f : Nat → Nat) (l : Nat) : List Nat := (List.range l).map fun j => f (j + 1)
theorem firsts_len (f : Nat → Nat) (l : Nat) : (firsts f l).length = l := by simp [firsts]
theorem firsts_get {f : Nat → Nat} {l j : Nat} (h : j < l) : (firsts f l)[j]? = some (f (j + 1)) := by simp [firsts, h]
theorem aft_longer {a b : List Nat} (h : ∀ j, j < b.length → a[j]? = b[j]?) (hl : b.length < a.length) : aft a b = true := by
  rw [aft_drop b.length a b (by omega) (Nat.le_refl _) h, aft_len (.inr (by simp))]
  simp; omega
theorem aft_greater {a b : List Nat} {k x y : Nat} (h : ∀ j, j < k → a[j]? = b[j]?) (hx : a[k]? = some x) (hy : b[k]? = some y) (hxy : y < x) : aft a b = true := by
  have h1 := (List.getElem?_eq_some_iff.1 hx).1
  have h2 := (List.getElem?_eq_some_iff.1 hy).1
  rw [aft_drop k a b (by omega) (by omega) h, aft_step hx hy, if_neg (by omega)]
  simpa using hxy
theorem rises {f : Nat → Nat} {l l' : Nat} (hl : 1 ≤ l) (h1 : ∀ j, j < l' → 1 ≤ f (j + 1)) : aft (firsts (ctrF f l) l) (firsts f l') = true := by
  rcases Nat.lt_or_ge l' l with h | h
  · refine aft_longer (fun j hj => ?_) (by simp [firsts_len]; omega)
    rw [firsts_len] at hj
    rw [firsts_get (by omega), firsts_get hj]
    have := h1 j hj
    congr 1
    unfold ctrF
    rw [if_neg (by omega), if_pos (by omega)]
    omega
  · refine aft_greater (k := l - 1) (x := ctrF f l (l - 1 + 1)) (y := f (l - 1 + 1)) (fun j hj => ?_) (firsts_get (by omega)) (firsts_get (by omega)) ?_
    · rw [firsts_get (by omega), firsts_get (by omega)]
      have := h1 j (by omega)
      congr 1
      unfold ctrF
      rw [if_neg (by omega), if_pos (by omega)]
      omega
    · unfold ctrF
      rw [if_neg (by omega), if_neg (by omega), if_pos (by omega)]
      omega

/-- what is known of the sections so far -/
def RiseOk (x : Cs) (ss : List (List Nat)) : Prop :=
  valuesOf secS x.out = ss.map dots ∧ (∀ c ∈ ss, 1 ≤ c.length ∧ c.length ≤ 6 ∧ ∀ n ∈ c, n ≤ 100000) ∧ (∀ i a b, ss[i]? = some a → ss[i + 1]? = some b → aft b a = true) ∧ (∀ c, ss.getLast? = some c → c = firsts x.f c.length ∧ ∀ j, j < c.length → 1 ≤ x.f (j + 1))
theorem headStep_rise {B : Nat} (hB : B ≤ 10000) {free : Bool} {k lv : Int} {a : DAttr} {line : List Inl} {x : Cs} (hle : CsLe B x) {ss : List (List Nat)} (h : RiseOk x ss) : ∃ ss', RiseOk (headStep free k lv a line x) ss' := by
  unfold headStep
  by_cases hk : k = 2 ∧ free = true
  · rw [if_pos hk]
    obtain ⟨h1, h2, h3, h4⟩ := h
    obtain ⟨c1, c6⟩ := clampL_le lv
    generalize clampL lv = l at *
    have hf := ctrF_le hle.1 l
    refine ⟨ss ++ [firsts (ctrF x.f l) l], ?_, ?_, ?_, ?_⟩
    · rw [valuesOf_append, valuesOf_one, if_pos rfl, h1, List.map_append]; rfl
    · intro c hc
      rcases List.mem_append.1 hc with h | h
      · exact h2 c h
      · rw [List.mem_singleton.1 h, firsts_len]
        refine ⟨c1, c6, fun n hn => ?_⟩
        obtain ⟨j, _, rfl⟩ := List.mem_map.1 hn
        have := hf (j + 1)
        omega
    · intro i a b ha hb
      rw [List.getElem?_append] at ha hb
      by_cases hi : i + 1 < ss.length
      · rw [if_pos hi] at hb
        rw [if_pos (by omega)] at ha
        exact h3 i a b ha hb
      · rw [if_neg hi] at hb
        have hz : i + 1 - ss.length = 0 := by
          have := (List.getElem?_eq_some_iff.1 hb).1
          simp at this; omega
        rw [hz] at hb
        simp at hb
        subst hb
        rw [if_pos (by omega)] at ha
        have hlast : ss.getLast? = some a := by
          rw [List.getLast?_eq_getElem?, show ss.length - 1 = i by omega]; exact ha
        obtain ⟨e1, e2⟩ := h4 a hlast
        rw [e1]
        exact rises c1 e2
    · intro c hc
      rw [List.getLast?_concat] at hc
      cases hc
      rw [firsts_len]
      refine ⟨rfl, fun j hj => ?_⟩
      show 1 ≤ ctrF x.f l (j + 1)
      unfold ctrF
      rw [if_neg (by omega)]
      split
      · omega
      · rw [if_pos (by omega)]; omega
  · rw [if_neg hk]; exact ⟨ss, h⟩
theorem kindStep_rise {k : Int} {inf : Bs} {a : DAttr} {kids : List Blk} {x : Cs} {ss : List (List Nat)} (h : RiseOk x ss) : RiseOk (kindStep k inf a kids x) ss := by
  unfold kindStep
  split
  · obtain ⟨h1, h2, h3, h4⟩ := h
    refine ⟨?_, h2, h3, h4⟩
    rw [valuesOf_append, valuesOf_one, if_neg (kindS_ne _).2, List.append_nil, h1]
  · exact h
mutual
theorem numb1_rise {free : Bool} : ∀ (b : Blk) (B : Nat) (x : Cs) (ss : List (List Nat)), B + szb b ≤ 10000 → CsLe B x → RiseOk x ss → ∃ ss', RiseOk (numb1 free x b) ss'
  | .mk k lv inf t d ti a line kids, B, x, ss, hB, hle, h => by
    simp only [szb] at hB
    simp only [numb1]
    obtain ⟨ss', h'⟩ := headStep_rise (free := free) (k := k) (lv := lv) (a := a) (line := line) (by omega) hle h
    exact numbB_rise kids (B + 1) _ ss' (by omega) (step_le hle) (kindStep_rise h')
theorem numbB_rise {free : Bool} : ∀ (bs : List Blk) (B : Nat) (x : Cs) (ss : List (List Nat)), B + szB bs ≤ 10000 → CsLe B x → RiseOk x ss → ∃ ss', RiseOk (numbB free x bs) ss'
  | [], B, x, ss, _, _, h => ⟨ss, by simpa [numbB] using h⟩
  | b :: bs, B, x, ss, hB, hle, h => by
    simp only [szB] at hB
    simp only [numbB]
    obtain ⟨ss', h'⟩ := numb1_rise b B x ss (by omega) hle h
    exact numbB_rise bs (B + szb b) _ ss' (by omega) (numb1_le b B x hle) h'
end
theorem secs_of (bs : List Blk) (hb : szB bs ≤ 9000) : ∃ ss : List (List Nat), valuesOf secS (numsOf bs) = ss.map dots ∧ (∀ c ∈ ss, 1 ≤ c.length ∧ c.length ≤ 6 ∧ ∀ n ∈ c, n ≤ 100000) ∧ (∀ i a b, ss[i]? = some a → ss[i + 1]? = some b → aft b a = true) := by
  obtain ⟨ss, h1, h2, h3, _⟩ := numbB_rise (free := true) bs 0 cs0 [] (by omega) cs0_le ⟨rfl, by simp, by simp, by simp⟩
  refine ⟨ss, ?_, h2, h3⟩
  unfold numsOf
  rw [valuesOf_append, noteNums_other secS (by decide), List.append_nil, h1]
theorem counters2_fn (c : List Nat) (h1 : 1 ≤ c.length) (h6 : c.length ≤ 6) (hn : ∀ n ∈ c, n ≤ 100000) (u : View) : FnP Tryd.prog 21 [str (dots c)] u fun r u' => ∃ ad cap, r = .slice ad c.length cap ∧ NatS u' (.slice ad c.length cap) c := by
  have hd : ∀ n ∈ c, (dec n).length ≤ 6 := fun n h => dec_len10 5 n (by have := hn n h; omega)
  have hl := dots_len c 6 hd
  have := counters_fn (dots c) (by omega) u
  rw [run_dots c [] (by intro e; rw [e] at h1; simp at h1) hd, List.nil_append] at this
  refine this.mono ?_
  rintro r u' hle ⟨ad, cap, rfl, h⟩
  exact ⟨ad, cap, rfl, ad, cap, rfl, h⟩

theorem countRises_fn (d : DDoc) (vm vb : Value) (u : View) (hT : TabU u) (hm : PrS u vm d.mts) (hb : BlkS u vb d.blocks) (hok : DocOk d) :
    FnP Tryd.prog 7 [.agg #[vm, vb]] u fun r _ => r = .bool true := by
  refine FnP.intro [.tmp 2] Tryd.func7 rfl rfl rfl ?_
  intro w0 D hw0
  refine wc_seq ?_
  refine wc_region ?_
  refine rl_do rfl rfl ?_
  refine do_box trivial rfl (cs := [_, _]) rfl rfl rfl rfl ?_
  refine rl_y (y_assign rfl rfl) rfl ?_
  refine rl_end (ρ' := [(1, _)]) ⟨rfl, trivial⟩ ?_
  refine q_then ?_
  refine wc_seq ?_
  refine wc_seq ?_
  refine wc_region ?_
  refine rl_y (y_load_p rfl Tryd.k25 rfl rfl rfl (vs := [_, _]) rfl rfl rfl) rfl ?_
  refine rl_do rfl rfl ?_
  refine do_call_f (caps := []) trivial rfl rfl Tryd.c9 rfl (FnP.mono (small_fn d vm vb u hm hb hok) ?_)
  rintro v u1 hle1 ⟨b, rfl, hsm⟩
  refine rl_y (y_not rfl rfl) rfl ?_
  refine rl_end (ρ' := [(1, _), (8, _)]) ⟨rfl, rfl, trivial⟩ ?_
  refine q_then ?_
  refine wc_cond rfl (fun hb1 => ?_) (fun hb1 => ?_)
  ·
    refine wc_seq ?_
    refine wc_region ?_
    refine rl_do rfl rfl ?_
    refine do_call_f (caps := []) trivial rfl rfl Tryd.c10 rfl (FnP.mono (awake_fn u hT) ?_)
    rintro v u1 hle1 rfl
    refine rl_y (y_assign rfl rfl) rfl ?_
    refine rl_end (ρ' := [(2, _)]) ⟨rfl, trivial⟩ ?_
    refine q_then ?_
    refine wc_ret ?_
    refine q_then_ret ?_
    refine fin1 (.tmp rfl) ?_
    rfl
  ·
    refine wc_skip ?_
    refine q_then ?_
    refine wc_seq ?_
    have hbt : b = true := by cases b <;> simp_all
    obtain ⟨_, _, hsz, hsm⟩ := hsm hbt
    have hnl := numsOf_len d.blocks
    obtain ⟨ss, hv, h2, h3⟩ := secs_of d.blocks (by omega)
    have hvs := filterMap_len (fun x : DNum => if x.kind = secS then some x.value else none) (numsOf d.blocks)
    have hsl : (valuesOf secS (numsOf d.blocks)).length = ss.length := by rw [hv, List.length_map]
    refine wc_region ?_
    refine rl_y (y_load_p rfl Tryd.k25 rfl rfl rfl (vs := [_, _]) rfl rfl rfl) rfl ?_
    refine rl_do rfl rfl ?_
    refine do_call (caps := []) trivial rfl rfl Tryd.c12 rfl (FnP.mono (numbers_fn vm vb d.blocks u hT (by omega) hsm hb) ?_)
    rintro v uC hle0 hN hleC
    refine rl_do rfl rfl ?_
    refine do_call (caps := []) trivial rfl rfl Tryd.c17 rfl (FnP.mono (values_fn _ (numsOf d.blocks) secS (by omega) uC hN) ?_)
    rintro v uV hle0 hV hleV
    have hT := (hT.mono hleC).mono hleV
    rw [hv] at hV
    obtain ⟨vad, vcap, rfl, hv1⟩ := hV
    rw [List.length_map] at hv1 ⊢
    have hvs2 : ss.length ≤ (numsOf d.blocks).length := by rw [← hsl]; exact hvs
    refine rl_y (y_assign rfl rfl) rfl ?_
    refine rl_end (ρ' := [(3, _)]) ⟨rfl, trivial⟩ ?_
    refine q_then ?_
    refine wc_seq ?_
    refine wc_seq ?_
    refine wc_region ?_
    refine rl_y (y_assign rfl rfl) rfl ?_
    refine rl_end (ρ' := [(3, _), (4, _)]) ⟨rfl, rfl, trivial⟩ ?_
    refine q_then ?_
    refine wc_block ?_
    refine wc_loop (fun m ρ σ u' => ∃ i : Nat, i + m = ss.length ∧ VLe uV u' ∧ σ = [] ∧ ρ = [(3, .v (.slice vad ss.length vcap)), (4, .v (.int .i64 i))] ∧ (True)) (ss.length) ?_ ?_
    ·
      refine ⟨[(3, _), (4, _)], [], ⟨rfl, rfl, trivial⟩, trivial, 0, by omega, VLe.refl _, (by first | rfl | simp), (by first | rfl | (simp only [List.cons.injEq, Prod.mk.injEq, SV.v.injEq, Value.int.injEq, true_and, and_true]; omega) | simp), ?_⟩
      trivial
    ·
      rintro m ρ σ u' ⟨i, hi5, hle5, rfl, rfl, _⟩
      refine wc_seq ?_
      refine wc_seq ?_
      refine wc_region ?_
      refine rl_y (y_move rfl rfl) rfl ?_
      refine rl_y (y_move rfl rfl) rfl ?_
      refine rl_y (y_len_v rfl rfl Tryd.s32 rfl) rfl ?_
      refine rl_y (y_lss rfl rfl rfl) rfl ?_
      refine rl_end (ρ' := [(3, _), (4, _), (16, _)]) ⟨rfl, rfl, rfl, trivial⟩ ?_
      refine q_then ?_
      refine wc_cond rfl (fun hb5 => ?_) (fun hb5 => ?_)
      ·
        refine wc_skip ?_
        refine q_then ?_
        refine wc_seq ?_
        refine wc_block ?_
        refine wc_seq ?_
        have hlt : i < ss.length := by have := of_decide_eq_true hb5; omega
        have hv1 := hv1.mono hle5
        have hT := hT.mono hle5
        have hg := List.getElem?_eq_getElem hlt
        have hcut := cut_strsC (xs := ss.map dots) (i := i) (x := dots ss[i]) (by simp [hg])
        obtain ⟨hc1, hc6, hcn⟩ := h2 _ (List.getElem_mem hlt)
        refine wc_region ?_
        refine rl_y (y_move rfl rfl) rfl ?_
        refine rl_y (y_move rfl rfl) rfl ?_
        refine rl_y (y_index_e rfl Tryd.s32 rfl rfl (by assumption) (by first | rfl | omega) (by omega)) rfl ?_
        refine rl_y (y_load_el rfl Tryd.k9 rfl (by assumption) (by omega) (by assumption) (vs := [_]) rfl rfl rfl rfl) rfl ?_
        refine rl_do rfl rfl ?_
        refine do_call (caps := []) trivial rfl rfl Tryd.c21 rfl (FnP.mono (counters2_fn ss[i] hc1 hc6 hcn u') ?_)
        rintro v uX hle0 ⟨cad, ccap, rfl, hC⟩ hleX
        have hv1 := hv1.mono hleX; have hT := hT.mono hleX
        refine rl_y (y_assign rfl rfl) rfl ?_
        refine rl_end (ρ' := [(3, _), (4, _), (5, _)]) ⟨rfl, rfl, rfl, trivial⟩ ?_
        refine q_then ?_
        refine wc_seq ?_
        refine wc_region ?_
        refine rl_y (y_move rfl rfl) rfl ?_
        refine rl_y (y_len_v rfl rfl Tryd.s46 rfl) rfl ?_
        refine rl_y (y_lss rfl rfl rfl) rfl ?_
        rw [decide_eq_false (by omega)]
        refine rl_y (y_move rfl rfl) rfl ?_
        refine rl_on rfl rfl ?_
        refine rl_y (y_move rfl rfl) rfl ?_
        refine rl_on rfl rfl ?_
        refine rl_y (y_len_v rfl rfl Tryd.s46 rfl) rfl ?_
        refine rl_on rfl rfl ?_
        refine rl_y (y_gtr rfl rfl rfl) rfl ?_
        rw [decide_eq_false (by omega)]
        refine rl_y (y_pick_f rfl rfl rfl) rfl ?_
        refine rl_y (y_move rfl rfl) rfl ?_
        refine rl_on rfl rfl ?_
        refine rl_y (y_move rfl rfl) rfl ?_
        refine rl_on rfl rfl ?_
        refine rl_y (y_gtr rfl rfl rfl) rfl ?_
        refine rl_on rfl rfl ?_
        refine rl_y (y_move rfl rfl) rfl ?_
        rcases Bool.eq_false_or_eq_true (decide ((0 : Int) < i)) with hg8_11 | hg8_11
        ·
          simp only [hg8_11]
          refine rl_on rfl rfl ?_
          refine rl_y (y_move rfl rfl) rfl ?_
          refine rl_on rfl rfl ?_
          refine rl_y (y_move rfl rfl) rfl ?_
          refine rl_on rfl rfl ?_
          refine rl_y (y_move rfl rfl) rfl ?_
          have hi0 := of_decide_eq_true hg8_11
          have hlt' : i - 1 < ss.length := by omega
          have hg' := List.getElem?_eq_getElem hlt'
          have hcut' := cut_strsC (xs := ss.map dots) (i := i - 1) (x := dots ss[i - 1]) (by simp [hg'])
          obtain ⟨hd1, hd6, hdn⟩ := h2 _ (List.getElem_mem hlt')
          have haf := h3 (i - 1) _ _ hg' (by rw [show i - 1 + 1 = i by omega]; exact hg)
          refine rl_on rfl rfl ?_
          refine rl_y (y_sub (r := ((i - 1 : Nat) : Int)) rfl rfl rfl (by rw [wrap64_id (by omega)]; omega)) rfl ?_
          refine rl_on rfl rfl ?_
          refine rl_y (y_index_e rfl Tryd.s32 rfl rfl (by assumption) (by first | rfl | omega) (by omega)) rfl ?_
          refine rl_on rfl rfl ?_
          refine rl_y (y_load_el rfl Tryd.k9 rfl (by assumption) (by omega) (by assumption) (vs := [_]) rfl rfl rfl rfl) rfl ?_
          refine rl_on rfl rfl ?_
          refine rl_do rfl rfl ?_
          refine do_call (caps := []) trivial rfl rfl Tryd.c21 rfl (FnP.mono (counters2_fn ss[i - 1] hd1 hd6 hdn uX) ?_)
          rintro v uY hle0 ⟨dad, dcap, rfl, hD⟩ hleY
          refine rl_on rfl rfl ?_
          refine rl_do rfl rfl ?_
          refine do_call_f (caps := []) trivial rfl rfl Tryd.c22 rfl (FnP.mono (after_fn _ _ ss[i] ss[i - 1] (by omega) (by omega) uY (hC.mono hleY) hD) ?_)
          rintro v u1 hle1 rfl
          rw [haf]
          refine rl_on rfl rfl ?_
          refine rl_y (y_not rfl rfl) rfl ?_
          refine rl_on rfl rfl ?_
          refine rl_y (y_pick_t rfl rfl rfl) rfl ?_
          refine rl_y (y_pick_f rfl rfl rfl) rfl ?_
          refine rl_end (ρ' := [(3, _), (4, _), (46, _)]) ⟨rfl, rfl, rfl, trivial⟩ ?_
          refine q_then ?_
          refine wc_cond_f rfl (rfl) ?_
          refine wc_skip ?_
          refine q_block ?_
          refine q_then ?_
          refine wc_region ?_
          refine rl_y (y_move rfl rfl) rfl ?_
          refine rl_y (y_add rfl rfl rfl (wrap64_id (by omega))) rfl ?_
          refine rl_y (y_assign rfl rfl) rfl ?_
          refine rl_end (ρ' := [(3, _), (4, _)]) ⟨rfl, rfl, trivial⟩ ?_
          refine q_thenK ?_
          refine ⟨m - 1, [(3, _), (4, _)], [], by omega, ⟨rfl, rfl, trivial⟩, trivial, i + 1, by omega, (by first | exact hle5.trans (hleX.trans hleY) | exact hle5.trans hleX), (by first | rfl | simp), (by first | rfl | (simp only [List.cons.injEq, Prod.mk.injEq, SV.v.injEq, Value.int.injEq, true_and, and_true]; omega) | simp), ?_⟩
          trivial
        ·
          simp only [hg8_11]
          refine rl_off rfl rfl rfl rfl ?_
          refine rl_off rfl rfl rfl rfl ?_
          refine rl_off rfl rfl rfl rfl ?_
          refine rl_off rfl rfl rfl rfl ?_
          refine rl_off rfl rfl rfl rfl ?_
          refine rl_off rfl rfl rfl rfl ?_
          refine rl_off rfl rfl rfl rfl ?_
          refine rl_off rfl rfl rfl rfl ?_
          refine rl_off rfl rfl rfl rfl ?_
          refine rl_on rfl rfl ?_
          refine rl_y (y_pick_f rfl rfl rfl) rfl ?_
          refine rl_y (y_pick_f rfl rfl rfl) rfl ?_
          refine rl_end (ρ' := [(3, _), (4, _), (46, _)]) ⟨rfl, rfl, rfl, trivial⟩ ?_
          refine q_then ?_
          refine wc_cond_f rfl (rfl) ?_
          refine wc_skip ?_
          refine q_block ?_
          refine q_then ?_
          refine wc_region ?_
          refine rl_y (y_move rfl rfl) rfl ?_
          refine rl_y (y_add rfl rfl rfl (wrap64_id (by omega))) rfl ?_
          refine rl_y (y_assign rfl rfl) rfl ?_
          refine rl_end (ρ' := [(3, _), (4, _)]) ⟨rfl, rfl, trivial⟩ ?_
          refine q_thenK ?_
          refine ⟨m - 1, [(3, _), (4, _)], [], by omega, ⟨rfl, rfl, trivial⟩, trivial, i + 1, by omega, (by first | exact hle5.trans (hleX.trans hleY) | exact hle5.trans hleX), (by first | rfl | simp), (by first | rfl | (simp only [List.cons.injEq, Prod.mk.injEq, SV.v.injEq, Value.int.injEq, true_and, and_true]; omega) | simp), ?_⟩
          trivial
      ·
        refine wc_exit ?_
        refine q_then_exit ?_
        refine q_then_exit ?_
        refine q_block_hit ?_
        refine q_then ?_
        refine wc_seq ?_
        refine wc_region ?_
        refine rl_do rfl rfl ?_
        refine do_call_f (caps := []) trivial rfl rfl Tryd.c10 rfl (FnP.mono (awake_fn u' (hT.mono hle5)) ?_)
        rintro v u1 hle1 rfl
        refine rl_y (y_assign rfl rfl) rfl ?_
        refine rl_end (ρ' := [(2, _)]) ⟨rfl, trivial⟩ ?_
        refine q_then ?_
        refine wc_ret ?_
        refine fin1 (.tmp rfl) ?_
        rfl
end Go.Proofs.Ythnboadnehbciaa
